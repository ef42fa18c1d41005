import Derived.Test.YtmfccnnkolegmaaFwPre23
set_option linter.unusedSimpArgs false
set_option linter.unusedVariables false
set_option maxRecDepth 4000
namespace Go.Fw
open Go.Proofs Go.RowKit
/-! Words of a code: plain. -/
def mny (l : List Int) (k : Nat) : Nat := l.count (k : Int)
/-- The first word of a length. -/
def bs (l : List Int) : Nat → Nat
  | 0 => 0
  | 1 => 0
  | k + 2 => 2 * (bs l (k + 1) + mny l (k + 1))
def ks (l : List Int) : Nat → Nat
  | 0 => 0
  | k + 1 => ks l k + mny l (k + 1) * 2 ^ (15 - (k + 1))
theorem bs_ks (l : List Int) : ∀ k, k ≤ 14 → bs l (k + 1) * 2 ^ (15 - (k + 1)) = ks l k
  | 0, _ => by simp [bs, ks]
  | k + 1, h => by
    have ih := bs_ks l k (by omega)
    have e : 2 ^ (15 - (k + 1)) = 2 * 2 ^ (15 - (k + 1 + 1)) := by rw [show 15 - (k + 1) = (15 - (k + 1 + 1)) + 1 by omega, Nat.pow_succ]; omega
    show 2 * (bs l (k + 1) + mny l (k + 1)) * _ = ks l k + mny l (k + 1) * 2 ^ (15 - (k + 1))
    rw [← ih, e, ← Nat.add_mul, Nat.mul_comm 2 (bs l (k + 1) + mny l (k + 1)), Nat.mul_assoc]
theorem mny_cons (x : Int) (l : List Int) (k : Nat) : mny (x :: l) k = mny l k + if x = (k : Int) then 1 else 0 := by
  unfold mny
  rw [List.count_cons]
  congr 1
  by_cases h : x = (k : Int)
  · rw [if_pos h, if_pos (by simpa using h)]
  · rw [if_neg h, if_neg (by simpa using h)]
theorem ks_cons (x : Int) (l : List Int) : ∀ k, k ≤ 15 → ks (x :: l) k = ks l k + if 1 ≤ x ∧ x ≤ (k : Int) then 2 ^ (15 - x).toNat else 0
  | 0, _ => by rw [if_neg (by omega)]; rfl
  | k + 1, h => by
    rw [ks, ks, ks_cons x l k (by omega), mny_cons]
    by_cases h1 : x = ((k + 1 : Nat) : Int)
    · rw [if_pos h1, if_neg (by omega), if_pos (by omega), Nat.add_mul, Nat.one_mul, show (15 - x).toNat = 15 - (k + 1) by omega]
      omega
    · rw [if_neg h1, Nat.add_zero]
      by_cases h2 : 1 ≤ x ∧ x ≤ (k : Int)
      · rw [if_pos h2, if_pos (by omega)]; omega
      · rw [if_neg h2, if_neg (by omega)]; omega
theorem kr_ks : ∀ l : List Int, kr l = ks l 15
  | [] => by decide
  | x :: l => by
    rw [kr_cons, ks_cons x l 15 (Nat.le_refl _), kr_ks l]
    unfold krT
    have e : (x ≤ ((15 : Nat) : Int)) ↔ x ≤ 15 := by omega
    by_cases h : 1 ≤ x ∧ x ≤ 15
    · rw [if_pos h, if_pos ⟨h.1, e.2 h.2⟩]; omega
    · rw [if_neg h, if_neg (fun h' => h ⟨h'.1, e.1 h'.2⟩)]; omega
theorem ks_mono (l : List Int) {j k : Nat} (h : j ≤ k) : ks l j ≤ ks l k := by
  induction h with
  | refl => exact Nat.le_refl _
  | step h ih => exact Nat.le_trans ih (by rw [ks]; omega)
/-- Words have as many bits as they may. -/
theorem bs_le {l : List Int} (h : kr l ≤ 32768) {k : Nat} (h1 : 1 ≤ k) (h2 : k ≤ 15) : bs l k + mny l k ≤ 2 ^ k := by
  obtain ⟨j, rfl⟩ : ∃ j, k = j + 1 := ⟨k - 1, by omega⟩
  have e1 := bs_ks l j (by omega)
  have e2 : (bs l (j + 1) + mny l (j + 1)) * 2 ^ (15 - (j + 1)) = ks l (j + 1) := by rw [Nat.add_mul, e1]; rfl
  have e3 := ks_mono l (j := j + 1) (k := 15) (by omega)
  rw [← kr_ks] at e3
  have e4 : 2 ^ (j + 1) * 2 ^ (15 - (j + 1)) = 32768 := by rw [← Nat.pow_add, show j + 1 + (15 - (j + 1)) = 15 by omega]
  have e5 : (bs l (j + 1) + mny l (j + 1)) * 2 ^ (15 - (j + 1)) ≤ 2 ^ (j + 1) * 2 ^ (15 - (j + 1)) := by omega
  exact Nat.le_of_mul_le_mul_right e5 (Nat.pow_pos (by decide))
/-- Do lengths make a code? -/
def isCode (l : List Int) : Bool := l.all (fun x => decide (0 ≤ x) && decide (x ≤ 15)) && decide (l.length ≤ 300) && (decide (kr l = 32768) || decide (mny l 1 = 1) && decide (kr l = 16384))
theorem isCode_kr {l : List Int} (h : isCode l = true) : kr l ≤ 32768 ∧ l.length ≤ 300 ∧ ∀ x ∈ l, 0 ≤ x ∧ x ≤ 15 := by
  unfold isCode at h
  simp only [Bool.and_eq_true, Bool.or_eq_true, decide_eq_true_eq, List.all_eq_true] at h
  refine ⟨by omega, h.1.2, fun x hx => h.1.1 x hx⟩
/-- The lowest bits in the opposite order. -/
def rv : Nat → Nat → Nat
  | 0, _ => 0
  | k + 1, n => 2 * rv k n + n / 2 ^ k % 2
theorem rv_lt : ∀ k n, rv k n < 2 ^ k
  | 0, n => by simp [rv]
  | k + 1, n => by have := rv_lt k n; have : n / 2 ^ k % 2 < 2 := Nat.mod_lt _ (by decide); rw [rv, Nat.pow_succ]; omega
theorem rv_bit : ∀ (k n j : Nat), (rv k n).testBit j = (decide (j < k) && n.testBit (k - 1 - j))
  | 0, n, j => by simp [rv]
  | k + 1, n, 0 => by
    rw [rv, Nat.testBit_zero, Nat.testBit_eq_decide_div_mod_eq]
    have : n / 2 ^ k % 2 < 2 := Nat.mod_lt _ (by decide)
    rw [show (2 * rv k n + n / 2 ^ k % 2) % 2 = n / 2 ^ k % 2 by omega]
    simp
  | k + 1, n, j + 1 => by
    have : n / 2 ^ k % 2 < 2 := Nat.mod_lt _ (by decide)
    rw [rv, Nat.testBit_succ, show (2 * rv k n + n / 2 ^ k % 2) / 2 = rv k n by omega, rv_bit k n j, show k + 1 - 1 - (j + 1) = k - 1 - j by omega]
    congr 1
    exact decide_eq_decide.2 (by omega)
def wrd (l : List Int) (i k : Nat) : Nat := bs l k + mny (l.take i) k
def pieceAt (l : List Int) (i : Nat) : Int × Int := if 0 < l.getD i 0 then ((rv (l.getD i 0).toNat (wrd l i (l.getD i 0).toNat) : Nat), l.getD i 0) else (0, 0)
def codeL (l : List Int) : List (Int × Int) := (List.range l.length).map (pieceAt l)
def codesP (l : List Int) : List (Int × Int) × Int := if isCode l then (codeL l, 0) else ([], 70)
end Go.Fw

set_option linter.unusedSimpArgs false
set_option linter.unusedVariables false
set_option maxRecDepth 4000
namespace Go.Fw
open Go.Proofs Go.RowKit
/-! No word begins another one: plain. -/
theorem mny_take_lt {l : List Int} {i j k : Nat} (hij : i < j) (hi : l[i]? = some (k : Int)) : mny (l.take i) k < mny (l.take j) k := by
  have h1 : l.take (i + 1) = l.take i ++ [(k : Int)] := by rw [List.take_add_one, hi]; rfl
  have h2 : mny (l.take (i + 1)) k = mny (l.take i) k + 1 := by
    unfold mny
    rw [h1, List.count_append, List.count_singleton]
    simp
  have h3 : mny (l.take (i + 1)) k ≤ mny (l.take j) k := by
    unfold mny
    exact (List.take_sublist_take_left (by omega)).count_le _
  omega
theorem mny_at_lt {l : List Int} {i k : Nat} (hi : l[i]? = some (k : Int)) : mny (l.take i) k < mny l k := by
  have := mny_take_lt (l := l) (j := l.length) (List.getElem?_eq_some_iff.1 hi).1 hi
  rwa [List.take_length] at this
theorem wrd_lt {l : List Int} (h : kr l ≤ 32768) {i k : Nat} (h1 : 1 ≤ k) (h2 : k ≤ 15) (hi : l[i]? = some (k : Int)) : wrd l i k < 2 ^ k := by
  have := bs_le h h1 h2
  have := mny_at_lt hi
  unfold wrd; omega
/-- Where longer words begin. -/
theorem bs_far {l : List Int} {k k' : Nat} (h1 : 1 ≤ k) (hk : k < k') (h2 : k' ≤ 15) : (bs l k + mny l k) * 2 ^ (k' - k) ≤ bs l k' := by
  obtain ⟨j, rfl⟩ : ∃ j, k = j + 1 := ⟨k - 1, by omega⟩
  obtain ⟨j', rfl⟩ : ∃ j, k' = j + 1 := ⟨k' - 1, by omega⟩
  have e1 := bs_ks l j (by omega)
  have e2 : (bs l (j + 1) + mny l (j + 1)) * 2 ^ (15 - (j + 1)) = ks l (j + 1) := by rw [Nat.add_mul, e1]; rfl
  have e3 := bs_ks l j' (by omega)
  have e4 := ks_mono l (j := j + 1) (k := j') (by omega)
  rw [← e2, ← e3, show 15 - (j + 1) = (j' + 1 - (j + 1)) + (15 - (j' + 1)) by omega, Nat.pow_add, ← Nat.mul_assoc] at e4
  exact Nat.le_of_mul_le_mul_right e4 (Nat.pow_pos (by decide))
end Go.Fw

set_option linter.unusedSimpArgs false
set_option linter.unusedVariables false
set_option maxRecDepth 4000
namespace Go.Fw
open Go.Proofs Go.RowKit
/-! Which symbol some bits are: plain. -/
def nthP : List Int → Nat → Nat → Nat
  | [], _, _ => 0
  | x :: l, k, n => if x = (k : Int) then (if n = 0 then 0 else nthP l k (n - 1) + 1) else nthP l k n + 1
theorem nthP_spec : ∀ {l : List Int} {k n : Nat}, n < mny l k → l[nthP l k n]? = some (k : Int) ∧ mny (l.take (nthP l k n)) k = n
  | [], k, n, h => by simp [mny] at h
  | x :: l, k, n, h => by
    rw [mny_cons] at h
    rw [nthP]
    by_cases hx : x = (k : Int)
    · rw [if_pos hx] at h ⊢
      by_cases hn : n = 0
      · rw [if_pos hn]; exact ⟨by rw [hx]; rfl, by rw [hn]; rfl⟩
      · rw [if_neg hn]
        have ih := nthP_spec (l := l) (k := k) (n := n - 1) (by omega)
        refine ⟨ih.1, ?_⟩
        rw [List.take_succ_cons, mny_cons, ih.2, if_pos hx]; omega
    · rw [if_neg hx] at h ⊢
      have ih := nthP_spec (l := l) (k := k) (n := n) (by omega)
      refine ⟨ih.1, ?_⟩
      rw [List.take_succ_cons, mny_cons, ih.2, if_neg hx]; rfl
theorem nth_one {l : List Int} {i j k : Nat} (hi : l[i]? = some (k : Int)) (hj : l[j]? = some (k : Int)) (h : mny (l.take i) k = mny (l.take j) k) : i = j := by
  rcases Nat.lt_trichotomy i j with h' | h' | h'
  · have := mny_take_lt h' hi; omega
  · exact h'
  · have := mny_take_lt h' hj; omega
/-- Symbols with longer words. -/
def lng (l : List Int) (k : Nat) : Nat := l.countP fun x => decide ((k : Int) < x)
theorem lng_step (l : List Int) (k : Nat) : lng l k = mny l (k + 1) + lng l (k + 1) := by
  induction l with
  | nil => rfl
  | cons x l ih =>
    rw [mny_cons]
    unfold lng at *
    rw [List.countP_cons, List.countP_cons, ih]
    by_cases h1 : x = ((k + 1 : Nat) : Int)
    · rw [if_pos h1, if_pos (by simp; omega), if_neg (by simp; omega)]; omega
    · rw [if_neg h1]
      by_cases h2 : (k : Int) < x
      · rw [if_pos (by simpa using h2), if_pos (by simp; omega)]; omega
      · rw [if_neg (by simpa using h2), if_neg (by simp; omega)]; omega
theorem lng_le (l : List Int) (k : Nat) : lng l k ≤ l.length := List.countP_le_length
theorem lng_15 {l : List Int} (h : ∀ x ∈ l, 0 ≤ x ∧ x ≤ 15) : lng l 15 = 0 := by
  unfold lng
  rw [List.countP_eq_zero]
  intro x hx
  have := h x hx
  simp; omega
theorem lng_of {l : List Int} {k i : Nat} {x : Int} (hi : l[i]? = some x) (h : (k : Int) < x) : lng l k ≠ 0 := by
  have : 0 < lng l k := by
    unfold lng
    rw [List.countP_pos_iff]
    exact ⟨x, List.mem_of_getElem? hi, by simpa using h⟩
  omega
/-- The symbol at a place of bits, its error, and the place behind. -/
def nextG (l : List Int) (bit : Nat → Nat) (size : Nat) : Nat → Nat → Nat → Nat → Int × Int × Nat
  | 0, _, _, p => (0, 70, p)
  | f + 1, k, w, p =>
    if size ≤ p then (0, 40, p)
    else if 2 * w + bit p < bs l (k + 1) + mny l (k + 1) then ((nthP l (k + 1) (2 * w + bit p - bs l (k + 1)) : Nat), 0, p + 1)
    else if lng l (k + 1) = 0 then (0, 70, p + 1)
    else nextG l bit size f (k + 1) (2 * w + bit p) (p + 1)
def nextP (l : List Int) (bit : Nat → Nat) (size p : Nat) : Int × Int × Nat := if isCode l then nextG l bit size 15 0 0 p else (0, 70, p)
/-- While it goes on. -/
structure NI (l : List Int) (k w : Nat) : Prop where
  lt : w < 2 ^ k
  ge : bs l (k + 1) ≤ 2 * w
theorem NI.zero (l : List Int) : NI l 0 0 := ⟨by decide, by show 0 ≤ _; omega⟩
theorem NI.bit {l : List Int} {k w b : Nat} (h : NI l k w) (hb : b < 2) : 2 * w + b < 2 ^ (k + 1) ∧ bs l (k + 1) ≤ 2 * w + b := by
  have := h.lt; have := h.ge
  rw [Nat.pow_succ]; omega
theorem NI.step {l : List Int} {k w b : Nat} (h : NI l k w) (hb : b < 2) (hn : ¬ 2 * w + b < bs l (k + 1) + mny l (k + 1)) : NI l (k + 1) (2 * w + b) := ⟨(h.bit hb).1, by
  show 2 * (bs l (k + 1) + mny l (k + 1)) ≤ _; omega⟩
theorem nextG_le (l : List Int) (bit : Nat → Nat) (size : Nat) : ∀ (f k w p : Nat), p ≤ size → p ≤ (nextG l bit size f k w p).2.2 ∧ (nextG l bit size f k w p).2.2 ≤ size
  | 0, k, w, p, h => ⟨Nat.le_refl _, h⟩
  | f + 1, k, w, p, h => by
    rw [nextG]
    split
    · exact ⟨Nat.le_refl _, h⟩
    · split
      · exact ⟨Nat.le_succ _, by show p + 1 ≤ size; omega⟩
      · split
        · exact ⟨Nat.le_succ _, by show p + 1 ≤ size; omega⟩
        · have := nextG_le l bit size f (k + 1) (2 * w + bit p) (p + 1) (by omega)
          exact ⟨by omega, this.2⟩
end Go.Fw
