import Derived.Test.YtpjacnialnlilaaFwPre29
set_option linter.unusedSimpArgs false
set_option linter.unusedVariables false
set_option maxRecDepth 4000
namespace Go.Fw
open Go.Proofs Go.RowKit
/-! Which symbol some bits are: plain. -/
def nthP : List Int → Nat → Nat → Nat
  | [], _, _ => 0
  | x :: l, k, n => if x = (k : Int) then (if n = 0 then 0 else nthP l k (n - 1) + 1) else nthP l k n + 1
theorem nthP_spec : ∀ {l : List Int} {k n : Nat}, n < mny l k → l[nthP l k n]? = some (k : Int) ∧ mny (l.take (nthP l k n)) k = n
  | [], k, n, h => by simp [mny] at h
  | x :: l, k, n, h => by
    rw [mny_cons] at h
    rw [nthP]
    by_cases hx : x = (k : Int)
    · rw [if_pos hx] at h ⊢
      by_cases hn : n = 0
      · rw [if_pos hn]; exact ⟨by rw [hx]; rfl, by rw [hn]; rfl⟩
      · rw [if_neg hn]
        have ih := nthP_spec (l := l) (k := k) (n := n - 1) (by omega)
        refine ⟨ih.1, ?_⟩
        rw [List.take_succ_cons, mny_cons, ih.2, if_pos hx]; omega
    · rw [if_neg hx] at h ⊢
      have ih := nthP_spec (l := l) (k := k) (n := n) (by omega)
      refine ⟨ih.1, ?_⟩
      rw [List.take_succ_cons, mny_cons, ih.2, if_neg hx]; rfl
theorem nth_one {l : List Int} {i j k : Nat} (hi : l[i]? = some (k : Int)) (hj : l[j]? = some (k : Int)) (h : mny (l.take i) k = mny (l.take j) k) : i = j := by
  rcases Nat.lt_trichotomy i j with h' | h' | h'
  · have := mny_take_lt h' hi; omega
  · exact h'
  · have := mny_take_lt h' hj; omega
/-- Symbols with longer words. -/
def lng (l : List Int) (k : Nat) : Nat := l.countP fun x => decide ((k : Int) < x)
theorem lng_step (l : List Int) (k : Nat) : lng l k = mny l (k + 1) + lng l (k + 1) := by
  induction l with
  | nil => rfl
  | cons x l ih =>
    rw [mny_cons]
    unfold lng at *
    rw [List.countP_cons, List.countP_cons, ih]
    by_cases h1 : x = ((k + 1 : Nat) : Int)
    · rw [if_pos h1, if_pos (by simp; omega), if_neg (by simp; omega)]; omega
    · rw [if_neg h1]
      by_cases h2 : (k : Int) < x
      · rw [if_pos (by simpa using h2), if_pos (by simp; omega)]; omega
      · rw [if_neg (by simpa using h2), if_neg (by simp; omega)]; omega
theorem lng_le (l : List Int) (k : Nat) : lng l k ≤ l.length := List.countP_le_length
theorem lng_15 {l : List Int} (h : ∀ x ∈ l, 0 ≤ x ∧ x ≤ 15) : lng l 15 = 0 := by
  unfold lng
  rw [List.countP_eq_zero]
  intro x hx
  have := h x hx
  simp; omega
theorem lng_pos {l : List Int} {k : Nat} (h : lng l k ≠ 0) : ∃ (i : Nat) (x : Int), l[i]? = some x ∧ (k : Int) < x := by
  unfold lng at h
  have h' : 0 < l.countP fun x => decide ((k : Int) < x) := by omega
  rw [List.countP_pos_iff] at h'
  obtain ⟨x, hx, hd⟩ := h'
  obtain ⟨i, hi⟩ := List.mem_iff_getElem?.1 hx
  exact ⟨i, x, hi, by simpa using hd⟩
theorem lng_of {l : List Int} {k i : Nat} {x : Int} (hi : l[i]? = some x) (h : (k : Int) < x) : lng l k ≠ 0 := by
  have : 0 < lng l k := by
    unfold lng
    rw [List.countP_pos_iff]
    exact ⟨x, List.mem_of_getElem? hi, by simpa using h⟩
  omega
theorem mny_of {l : List Int} {i k : Nat} (hi : l[i]? = some (k : Int)) : 0 < mny l k := by have := mny_at_lt hi; omega
theorem rv_push (k n : Nat) : rv (k + 1) n = rv k (n / 2) + n % 2 * 2 ^ k := by
  induction k with
  | zero => simp [rv]
  | succ k ih =>
    rw [rv, ih, rv, Nat.div_div_eq_div_mul, show 2 * 2 ^ k = 2 ^ (k + 1) by rw [Nat.pow_succ]; omega, Nat.pow_succ]
    have : n % 2 < 2 := Nat.mod_lt _ (by decide)
    rcases (show n % 2 = 0 ∨ n % 2 = 1 by omega) with h | h <;> rw [h] <;> omega
theorem rv_add {k w b : Nat} (hb : b < 2) : rv (k + 1) (2 * w + b) = rv k w + b * 2 ^ k := by
  rw [rv_push, show (2 * w + b) / 2 = w by omega, show (2 * w + b) % 2 = b by omega]
/-- A word is one: of those of its length. -/
theorem hit_iff {l : List Int} (h : kr l ≤ 32768) {k w : Nat} (h1 : 1 ≤ k) (h2 : k ≤ 15) (hw : w < 2 ^ k) (hb : bs l k ≤ w) : (∃ i, l[i]? = some (k : Int) ∧ rv k (wrd l i k) = rv k w) ↔ w < bs l k + mny l k := by
  constructor
  · rintro ⟨i, hi, e⟩
    have := rv_inj (wrd_lt h h1 h2 hi) hw e
    have := mny_at_lt hi
    unfold wrd at *; omega
  · intro hlt
    obtain ⟨hi, hm⟩ := nthP_spec (l := l) (k := k) (n := w - bs l k) (by omega)
    refine ⟨_, hi, ?_⟩
    unfold wrd
    rw [hm, show bs l k + (w - bs l k) = w by omega]
theorem hit_one {l : List Int} (h : kr l ≤ 32768) {k w i : Nat} (h1 : 1 ≤ k) (h2 : k ≤ 15) (hw : w < 2 ^ k) (hb : bs l k ≤ w) (hi : l[i]? = some (k : Int)) (e : rv k (wrd l i k) = rv k w) : i = nthP l k (w - bs l k) := by
  have e' := rv_inj (wrd_lt h h1 h2 hi) hw e
  have hlt := mny_at_lt hi
  unfold wrd at e'
  obtain ⟨hj, hm⟩ := nthP_spec (l := l) (k := k) (n := w - bs l k) (by omega)
  exact nth_one hi hj (by omega)
theorem ks_at {l : List Int} {x : Nat} : ∀ {k' k : Nat}, ks l k ≤ x → x < ks l k' → ∃ j, k ≤ j ∧ j < k' ∧ ks l j ≤ x ∧ x < ks l (j + 1)
  | 0, k, h1, h2 => by have := ks_mono l (j := 0) (k := k) (by omega); omega
  | k' + 1, k, h1, h2 => by
    by_cases h : x < ks l k'
    · obtain ⟨j, a, b, c, d⟩ := ks_at (k' := k') h1 h
      exact ⟨j, a, by omega, c, d⟩
    · refine ⟨k', ?_, by omega, by omega, h2⟩
      rcases Nat.lt_or_ge k' k with h' | h'
      · have := ks_mono l (j := k' + 1) (k := k) (by omega); omega
      · exact h'
/-- Where no word of this length is it, and longer ones there are, it begins one of these. -/
theorem more_iff {l : List Int} (hc : isCode l = true) {k w : Nat} (h1 : 1 ≤ k) (h2 : k ≤ 15) (hw : w < 2 ^ k) (hb : bs l k + mny l k ≤ w) : (∃ (i k' : Nat), l[i]? = some (k' : Int) ∧ k < k' ∧ rv k' (wrd l i k') % 2 ^ k = rv k w) ↔ lng l k ≠ 0 := by
  constructor
  · rintro ⟨i, k', hi, hk, _⟩
    exact lng_of hi (by omega)
  · intro hl
    obtain ⟨i, x, hi, hx⟩ := lng_pos hl
    have hx15 := (isCode_kr hc).2.2 x (List.mem_of_getElem? hi)
    obtain ⟨k0, rfl⟩ := Int.eq_ofNat_of_zero_le (show 0 ≤ x by omega)
    have hm0 := mny_of hi
    have hall : kr l = 32768 := by
      unfold isCode at hc
      simp only [Bool.and_eq_true, Bool.or_eq_true, decide_eq_true_eq] at hc
      rcases hc.2 with h | ⟨ha, hb⟩
      · exact h
      · exfalso
        have e1 : ks l 1 = 16384 := by
          show 0 + mny l 1 * 2 ^ (15 - (0 + 1)) = 16384
          rw [ha]
        have e2 := ks_mono l (j := 1) (k := k0 - 1) (by omega)
        have e3 : ks l k0 = ks l (k0 - 1) + mny l k0 * 2 ^ (15 - k0) := by
          obtain ⟨m, rfl⟩ : ∃ m, k0 = m + 1 := ⟨k0 - 1, by omega⟩
          rfl
        have e4 := ks_mono l (j := k0) (k := 15) (by omega)
        rw [kr_ks] at hb
        have e5 : 0 < mny l k0 * 2 ^ (15 - k0) := Nat.mul_pos hm0 (Nat.pow_pos (by decide))
        omega
    obtain ⟨m, rfl⟩ : ∃ m, k = m + 1 := ⟨k - 1, by omega⟩
    have f1 := bs_ks l m (by omega)
    have f2 : (bs l (m + 1) + mny l (m + 1)) * 2 ^ (15 - (m + 1)) = ks l (m + 1) := by rw [Nat.add_mul, f1]; rfl
    have f3 : ks l (m + 1) ≤ w * 2 ^ (15 - (m + 1)) := by rw [← f2]; exact Nat.mul_le_mul_right _ hb
    have f4 : w * 2 ^ (15 - (m + 1)) < ks l 15 := by
      rw [← kr_ks, hall]
      have : 2 ^ (m + 1) * 2 ^ (15 - (m + 1)) = 32768 := by rw [← Nat.pow_add, show m + 1 + (15 - (m + 1)) = 15 by omega]
      rw [← this]
      exact Nat.mul_lt_mul_of_pos_right hw (Nat.pow_pos (by decide))
    obtain ⟨j, g1, g2, g3, g4⟩ := ks_at f3 f4
    have g5 := bs_ks l j (by omega)
    have g6 : w * 2 ^ (15 - (m + 1)) = w * 2 ^ (j - m) * 2 ^ (15 - (j + 1)) := by rw [Nat.mul_assoc, ← Nat.pow_add, show j - m + (15 - (j + 1)) = 15 - (m + 1) by omega]
    have g7 : ks l (j + 1) = (bs l (j + 1) + mny l (j + 1)) * 2 ^ (15 - (j + 1)) := by rw [Nat.add_mul, g5]; rfl
    rw [g6] at g3 g4
    rw [← g5] at g3
    rw [g7] at g4
    have g8 := Nat.le_of_mul_le_mul_right g3 (Nat.pow_pos (by decide))
    have g9 := Nat.lt_of_mul_lt_mul_right g4
    obtain ⟨hi2, hm2⟩ := nthP_spec (l := l) (k := j + 1) (n := w * 2 ^ (j - m) - bs l (j + 1)) (by omega)
    refine ⟨_, j + 1, hi2, by omega, ?_⟩
    rw [rv_low (by omega)]
    unfold wrd
    rw [hm2, show bs l (j + 1) + (w * 2 ^ (j - m) - bs l (j + 1)) = w * 2 ^ (j - m) by omega, show j + 1 - (m + 1) = j - m by omega, Nat.mul_div_cancel _ (Nat.pow_pos (by decide))]
/-- The symbol at a place of bits, its error, and the place behind. -/
def nextG (l : List Int) (bit : Nat → Nat) (size : Nat) : Nat → Nat → Nat → Nat → Int × Int × Nat
  | 0, _, _, p => (0, 70, p)
  | f + 1, k, w, p =>
    if size ≤ p then (0, 40, p)
    else if 2 * w + bit p < bs l (k + 1) + mny l (k + 1) then ((nthP l (k + 1) (2 * w + bit p - bs l (k + 1)) : Nat), 0, p + 1)
    else if lng l (k + 1) = 0 then (0, 70, p + 1)
    else nextG l bit size f (k + 1) (2 * w + bit p) (p + 1)
def nextP (l : List Int) (bit : Nat → Nat) (size p : Nat) : Int × Int × Nat := if isCode l then nextG l bit size 15 0 0 p else (0, 70, p)
/-- While it goes on. -/
structure NI (l : List Int) (k w : Nat) : Prop where
  lt : w < 2 ^ k
  ge : bs l (k + 1) ≤ 2 * w
theorem NI.zero (l : List Int) : NI l 0 0 := ⟨by decide, by show 0 ≤ _; omega⟩
theorem NI.bit {l : List Int} {k w b : Nat} (h : NI l k w) (hb : b < 2) : 2 * w + b < 2 ^ (k + 1) ∧ bs l (k + 1) ≤ 2 * w + b := by
  have := h.lt; have := h.ge
  rw [Nat.pow_succ]; omega
theorem NI.step {l : List Int} {k w b : Nat} (h : NI l k w) (hb : b < 2) (hn : ¬ 2 * w + b < bs l (k + 1) + mny l (k + 1)) : NI l (k + 1) (2 * w + b) := ⟨(h.bit hb).1, by
  show 2 * (bs l (k + 1) + mny l (k + 1)) ≤ _; omega⟩
theorem nextG_le (l : List Int) (bit : Nat → Nat) (size : Nat) : ∀ (f k w p : Nat), p ≤ size → p ≤ (nextG l bit size f k w p).2.2 ∧ (nextG l bit size f k w p).2.2 ≤ size
  | 0, k, w, p, h => ⟨Nat.le_refl _, h⟩
  | f + 1, k, w, p, h => by
    rw [nextG]
    split
    · exact ⟨Nat.le_refl _, h⟩
    · split
      · exact ⟨Nat.le_succ _, by show p + 1 ≤ size; omega⟩
      · split
        · exact ⟨Nat.le_succ _, by show p + 1 ≤ size; omega⟩
        · have := nextG_le l bit size f (k + 1) (2 * w + bit p) (p + 1) (by omega)
          exact ⟨by omega, this.2⟩
end Go.Fw
