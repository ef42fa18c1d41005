import Derived.Test.YtpjacnialnlilaaFwPre23
set_option linter.unusedSimpArgs false
set_option linter.unusedVariables false
set_option maxRecDepth 4000
namespace Go.Fw
open Go.Proofs Go.RowKit
/-! Words of a code: plain. -/
def mny (l : List Int) (k : Nat) : Nat := l.count (k : Int)
/-- The first word of a length. -/
def bs (l : List Int) : Nat → Nat
  | 0 => 0
  | 1 => 0
  | k + 2 => 2 * (bs l (k + 1) + mny l (k + 1))
def ks (l : List Int) : Nat → Nat
  | 0 => 0
  | k + 1 => ks l k + mny l (k + 1) * 2 ^ (15 - (k + 1))
theorem bs_ks (l : List Int) : ∀ k, k ≤ 14 → bs l (k + 1) * 2 ^ (15 - (k + 1)) = ks l k
  | 0, _ => by simp [bs, ks]
  | k + 1, h => by
    have ih := bs_ks l k (by omega)
    have e : 2 ^ (15 - (k + 1)) = 2 * 2 ^ (15 - (k + 1 + 1)) := by rw [show 15 - (k + 1) = (15 - (k + 1 + 1)) + 1 by omega, Nat.pow_succ]; omega
    show 2 * (bs l (k + 1) + mny l (k + 1)) * _ = ks l k + mny l (k + 1) * 2 ^ (15 - (k + 1))
    rw [← ih, e, ← Nat.add_mul, Nat.mul_comm 2 (bs l (k + 1) + mny l (k + 1)), Nat.mul_assoc]
theorem mny_cons (x : Int) (l : List Int) (k : Nat) : mny (x :: l) k = mny l k + if x = (k : Int) then 1 else 0 := by
  unfold mny
  rw [List.count_cons]
  congr 1
  by_cases h : x = (k : Int)
  · rw [if_pos h, if_pos (by simpa using h)]
  · rw [if_neg h, if_neg (by simpa using h)]
theorem ks_cons (x : Int) (l : List Int) : ∀ k, k ≤ 15 → ks (x :: l) k = ks l k + if 1 ≤ x ∧ x ≤ (k : Int) then 2 ^ (15 - x).toNat else 0
  | 0, _ => by rw [if_neg (by omega)]; rfl
  | k + 1, h => by
    rw [ks, ks, ks_cons x l k (by omega), mny_cons]
    by_cases h1 : x = ((k + 1 : Nat) : Int)
    · rw [if_pos h1, if_neg (by omega), if_pos (by omega), Nat.add_mul, Nat.one_mul, show (15 - x).toNat = 15 - (k + 1) by omega]
      omega
    · rw [if_neg h1, Nat.add_zero]
      by_cases h2 : 1 ≤ x ∧ x ≤ (k : Int)
      · rw [if_pos h2, if_pos (by omega)]; omega
      · rw [if_neg h2, if_neg (by omega)]; omega
theorem kr_ks : ∀ l : List Int, kr l = ks l 15
  | [] => by decide
  | x :: l => by
    rw [kr_cons, ks_cons x l 15 (Nat.le_refl _), kr_ks l]
    unfold krT
    have e : (x ≤ ((15 : Nat) : Int)) ↔ x ≤ 15 := by omega
    by_cases h : 1 ≤ x ∧ x ≤ 15
    · rw [if_pos h, if_pos ⟨h.1, e.2 h.2⟩]; omega
    · rw [if_neg h, if_neg (fun h' => h ⟨h'.1, e.1 h'.2⟩)]; omega
theorem ks_mono (l : List Int) {j k : Nat} (h : j ≤ k) : ks l j ≤ ks l k := by
  induction h with
  | refl => exact Nat.le_refl _
  | step h ih => exact Nat.le_trans ih (by rw [ks]; omega)
/-- Words have as many bits as they may. -/
theorem bs_le {l : List Int} (h : kr l ≤ 32768) {k : Nat} (h1 : 1 ≤ k) (h2 : k ≤ 15) : bs l k + mny l k ≤ 2 ^ k := by
  obtain ⟨j, rfl⟩ : ∃ j, k = j + 1 := ⟨k - 1, by omega⟩
  have e1 := bs_ks l j (by omega)
  have e2 : (bs l (j + 1) + mny l (j + 1)) * 2 ^ (15 - (j + 1)) = ks l (j + 1) := by rw [Nat.add_mul, e1]; rfl
  have e3 := ks_mono l (j := j + 1) (k := 15) (by omega)
  rw [← kr_ks] at e3
  have e4 : 2 ^ (j + 1) * 2 ^ (15 - (j + 1)) = 32768 := by rw [← Nat.pow_add, show j + 1 + (15 - (j + 1)) = 15 by omega]
  have e5 : (bs l (j + 1) + mny l (j + 1)) * 2 ^ (15 - (j + 1)) ≤ 2 ^ (j + 1) * 2 ^ (15 - (j + 1)) := by omega
  exact Nat.le_of_mul_le_mul_right e5 (Nat.pow_pos (by decide))
/-- Do lengths make a code? -/
def isCode (l : List Int) : Bool := l.all (fun x => decide (0 ≤ x) && decide (x ≤ 15)) && decide (l.length ≤ 300) && (decide (kr l = 32768) || decide (mny l 1 = 1) && decide (kr l = 16384))
theorem isCode_kr {l : List Int} (h : isCode l = true) : kr l ≤ 32768 ∧ l.length ≤ 300 ∧ ∀ x ∈ l, 0 ≤ x ∧ x ≤ 15 := by
  unfold isCode at h
  simp only [Bool.and_eq_true, Bool.or_eq_true, decide_eq_true_eq, List.all_eq_true] at h
  refine ⟨by omega, h.1.2, fun x hx => h.1.1 x hx⟩
/-- The lowest bits in the opposite order. -/
def rv : Nat → Nat → Nat
  | 0, _ => 0
  | k + 1, n => 2 * rv k n + n / 2 ^ k % 2
theorem rv_lt : ∀ k n, rv k n < 2 ^ k
  | 0, n => by simp [rv]
  | k + 1, n => by have := rv_lt k n; have : n / 2 ^ k % 2 < 2 := Nat.mod_lt _ (by decide); rw [rv, Nat.pow_succ]; omega
theorem rv_bit : ∀ (k n j : Nat), (rv k n).testBit j = (decide (j < k) && n.testBit (k - 1 - j))
  | 0, n, j => by simp [rv]
  | k + 1, n, 0 => by
    rw [rv, Nat.testBit_zero, Nat.testBit_eq_decide_div_mod_eq]
    have : n / 2 ^ k % 2 < 2 := Nat.mod_lt _ (by decide)
    rw [show (2 * rv k n + n / 2 ^ k % 2) % 2 = n / 2 ^ k % 2 by omega]
    simp
  | k + 1, n, j + 1 => by
    have : n / 2 ^ k % 2 < 2 := Nat.mod_lt _ (by decide)
    rw [rv, Nat.testBit_succ, show (2 * rv k n + n / 2 ^ k % 2) / 2 = rv k n by omega, rv_bit k n j, show k + 1 - 1 - (j + 1) = k - 1 - j by omega]
    congr 1
    exact decide_eq_decide.2 (by omega)
def wrd (l : List Int) (i k : Nat) : Nat := bs l k + mny (l.take i) k
def pieceAt (l : List Int) (i : Nat) : Int × Int := if 0 < l.getD i 0 then ((rv (l.getD i 0).toNat (wrd l i (l.getD i 0).toNat) : Nat), l.getD i 0) else (0, 0)
def codeL (l : List Int) : List (Int × Int) := (List.range l.length).map (pieceAt l)
def codesP (l : List Int) : List (Int × Int) × Int := if isCode l then (codeL l, 0) else ([], 70)
end Go.Fw
