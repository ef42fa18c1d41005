import Derived.Test.YtfmbflmknjlefaaFwWire15
set_option linter.unusedSimpArgs false
set_option linter.unusedVariables false
set_option maxRecDepth 4000
namespace Go.Fw
open Go.Proofs Go.RowKit
theorem fixL_fw {n : Int} (w : Nat) (h0 : 0 ≤ n) (h1 : n < 256 ^ w) (hw : 1 ≤ w ∧ w ≤ 8) (t : List Int) : fixL (bigL n.toNat w ++ t) w = (n, t, 0) := by
  have hl := bigL_length n.toNat w
  unfold fixL
  rw [if_neg (by omega), if_neg (by simp only [List.length_append]; omega)]
  rw [Int.toNat_natCast, List.take_left' hl, List.drop_left' hl, beN_big]
  obtain ⟨k, rfl⟩ := Int.eq_ofNat_of_zero_le h0
  have h2 : k < 256 ^ w := by
    have : (k : Int) < ((256 ^ w : Nat) : Int) := by rw [Int.natCast_pow]; exact h1
    exact_mod_cast this
  rw [Int.toNat_natCast, Nat.mod_eq_of_lt h2]
theorem fixL_fw1 {n : Int} (h0 : 0 ≤ n) (h1 : n < 256) (t : List Int) : fixL (n :: t) 1 = (n, t, 0) := by
  have := fixL_fw 1 h0 (by simpa using h1) ⟨by omega, by omega⟩ t
  rw [bigL_one h0 h1] at this
  exact this
theorem fixL_fw4 {n : Int} (h0 : 0 ≤ n) (h1 : n < 4294967296) (t : List Int) : fixL (bigL n.toNat 4 ++ t) 4 = (n, t, 0) := fixL_fw 4 h0 h1 ⟨by omega, by omega⟩ t
theorem fixL_fw2 {n : Int} (h0 : 0 ≤ n) (h1 : n < 65536) (t : List Int) : fixL (bigL n.toNat 2 ++ t) 2 = (n, t, 0) := fixL_fw 2 h0 h1 ⟨by omega, by omega⟩ t
theorem reqP_fw {r : ReqT} (hb : rightB r = true) (hk : r.okA) (t : List Int) : reqP (putL r ++ t) = (r, t, 0) := by
  obtain ⟨f1, f2, f3, f4⟩ := rightB_facts hb
  obtain ⟨k1, k2, k3, k4, k5⟩ := hk
  have hcl : cliB r.client = true := by unfold cliB; exact decide_eq_true f1
  have e : putL r ++ t = r.client :: (bigL r.seq.toNat 4 ++ (r.op.kind :: (bigL r.op.id.toNat 4 ++ ((if r.op.kind = 1 then encV r.op.v else []) ++ t)))) := by unfold putL; simp
  rw [e]
  unfold reqP
  rw [fixL_fw1 f1.1 (by omega)]
  simp only [ne_eq, not_true_eq_false, ↓reduceIte, hcl, Bool.true_eq_false]
  rw [fixL_fw4 k1 k2]
  simp only [ne_eq, not_true_eq_false, ↓reduceIte]
  rw [fixL_fw1 (by omega) (by omega)]
  simp only [ne_eq, not_true_eq_false, ↓reduceIte]
  rw [if_neg (by intro hn; exact hn ⟨f2, f3⟩), fixL_fw4 k3 k4]
  simp only [ne_eq, not_true_eq_false, ↓reduceIte]
  by_cases h1 : r.op.kind = 1
  · simp only [if_pos h1]
    rw [progR_fw k5 f4]
    simp only [ne_eq, not_true_eq_false, ↓reduceIte]
    rw [if_neg (by show ¬ rightB r = false; rw [hb]; simp)]
  · simp only [if_neg h1, List.nil_append]
    have hv : r.op.v = verN := by
      unfold rightB at hb
      rw [if_neg h1] at hb
      simp only [Bool.and_eq_true] at hb
      exact (eqV_iff _ _).1 hb.2
    simp only [ne_eq, not_true_eq_false, ↓reduceIte, ← hv]
    rw [if_neg (by show ¬ rightB r = false; rw [hb]; simp)]
theorem putR_neg {a : ReqT} (h : rightB a = false) : putR a = ByteArray.empty := by
  unfold putR; rw [h]; rfl
end Go.Fw
