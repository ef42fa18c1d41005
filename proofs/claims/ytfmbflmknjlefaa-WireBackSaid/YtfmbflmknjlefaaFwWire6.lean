import Derived.Test.YtfmbflmknjlefaaFwWire5
set_option linter.unusedSimpArgs false
set_option linter.unusedVariables false
set_option maxRecDepth 4000
namespace Go.Fw
open Go.Proofs Go.RowKit
theorem fixL_inv {r : List Int} (h : RW r) {w : Int} (h1 : 1 ≤ w) (h4 : w ≤ 4) {n : Int} {t : List Int} (hf : fixL r w = (n, t, 0)) : r = bigL n.toNat w.toNat ++ t := by
  obtain ⟨_, _, f2, f3, _, f5⟩ := fixL_facts h h1 h4 hf
  obtain ⟨g1, g2, g3⟩ := f5 rfl
  have hl : (r.take w.toNat).length = w.toNat := by rw [List.length_take]; omega
  have : bigL n.toNat w.toNat = r.take w.toNat := by
    refine beN_inj w.toNat _ _ (bigL_length _ _) hl (bigL_byte _ _) (fun x hx => h.1 x (List.mem_of_mem_take hx)) ?_
    obtain ⟨k, hk⟩ := Int.eq_ofNat_of_zero_le f2
    rw [beN_big, ← g2, hk]
    rw [hk] at f3
    have : (k : Int) < ((256 ^ w.toNat : Nat) : Int) := by rw [Int.natCast_pow]; exact f3
    rw [Int.toNat_natCast, Nat.mod_eq_of_lt (by exact_mod_cast this)]
  rw [this, g3, List.take_append_drop]
theorem bigL_one {n : Int} (h0 : 0 ≤ n) (h1 : n < 256) : bigL n.toNat 1 = [n] := by
  obtain ⟨k, rfl⟩ := Int.eq_ofNat_of_zero_le h0
  have : k < 256 := by omega
  simp only [bigL, Int.toNat_natCast, Nat.pow_zero, Nat.div_one]
  rw [Nat.mod_eq_of_lt this]
theorem rightB_facts {x : ReqT} (h : rightB x = true) : (0 ≤ x.client ∧ x.client < 3) ∧ 1 ≤ x.op.kind ∧ x.op.kind ≤ 5 ∧ mayB x.op.v = true := by
  unfold rightB at h
  simp only [Bool.and_eq_true, decide_eq_true_eq] at h
  have h1 := h.1.1.1.1
  unfold cliB at h1
  exact ⟨by simpa using h1, h.1.1.1.2, h.1.1.2, h.1.2⟩
set_option maxHeartbeats 1000000 in
theorem reqP_inv {r : List Int} (h : RW r) {x : ReqT} {t : List Int} (hp : reqP r = (x, t, 0)) : rightB x = true ∧ x.okA ∧ x.op.v.small ∧ r = putL x ++ t ∧ RW t := by
  unfold reqP at hp
  rcases h1 : fixL r 1 with ⟨cl, r1, e1⟩
  obtain ⟨w1, _, c1, d1, _, _⟩ := fixL_facts h (by omega) (by omega) h1
  rw [h1] at hp
  simp only at hp
  by_cases z1 : e1 = 0
  rotate_left
  · rw [if_pos z1] at hp; injection hp with _ hp; injection hp with _ hp; exact absurd hp z1
  subst z1
  rw [if_neg (by simp)] at hp
  cases hcl : cliB cl
  · rw [hcl, if_pos rfl] at hp; cases hp
  rw [hcl, if_neg (by simp)] at hp
  rcases h2 : fixL r1 4 with ⟨q, r2, e2⟩
  obtain ⟨w2, _, c2, d2, _, _⟩ := fixL_facts w1 (by omega) (by omega) h2
  rw [h2] at hp
  simp only at hp
  by_cases z2 : e2 = 0
  rotate_left
  · rw [if_pos z2] at hp; injection hp with _ hp; injection hp with _ hp; exact absurd hp z2
  subst z2
  rw [if_neg (by simp)] at hp
  rcases h3 : fixL r2 1 with ⟨k, r3, e3⟩
  obtain ⟨w3, _, c3, d3, _, _⟩ := fixL_facts w2 (by omega) (by omega) h3
  rw [h3] at hp
  simp only at hp
  by_cases z3 : e3 = 0
  rotate_left
  · rw [if_pos z3] at hp; injection hp with _ hp; injection hp with _ hp; exact absurd hp z3
  subst z3
  rw [if_neg (by simp)] at hp
  by_cases hk : 1 ≤ k ∧ k ≤ 5
  rotate_left
  · rw [if_pos hk] at hp; cases hp
  rw [if_neg (by simpa using hk)] at hp
  rcases h4 : fixL r3 4 with ⟨i, r4, e4⟩
  obtain ⟨w4, _, c4, d4, _, _⟩ := fixL_facts w3 (by omega) (by omega) h4
  rw [h4] at hp
  simp only at hp
  by_cases z4 : e4 = 0
  rotate_left
  · rw [if_pos z4] at hp; injection hp with _ hp; injection hp with _ hp; exact absurd hp z4
  subst z4
  rw [if_neg (by simp)] at hp
  rcases h5 : (if k = 1 then progR r4 else (verN, r4, 0)) with ⟨V, r5, e5⟩
  rw [h5] at hp
  simp only at hp
  by_cases z5 : e5 = 0
  rotate_left
  · rw [if_pos z5] at hp; injection hp with _ hp; injection hp with _ hp; exact absurd hp z5
  subst z5
  rw [if_neg (by simp)] at hp
  cases hb : rightB ⟨cl, q, ⟨k, i, V⟩⟩
  · rw [hb, if_pos rfl] at hp; cases hp
  rw [hb, if_neg (by simp)] at hp
  injection hp with hx hp
  injection hp with ht _
  subst hx ht
  have i1 := fixL_inv h (by omega) (by omega) h1
  have i2 := fixL_inv w1 (by omega) (by omega) h2
  have i3 := fixL_inv w2 (by omega) (by omega) h3
  have i4 := fixL_inv w3 (by omega) (by omega) h4
  have d1 : cl < 256 := d1
  have d3 : k < 256 := d3
  have d2 : q < 4294967296 := d2
  have d4 : i < 4294967296 := d4
  change r = bigL cl.toNat 1 ++ r1 at i1
  change r2 = bigL k.toNat 1 ++ r3 at i3
  change r1 = bigL q.toNat 4 ++ r2 at i2
  change r3 = bigL i.toNat 4 ++ r4 at i4
  rw [bigL_one c1 d1] at i1
  rw [bigL_one c3 d3] at i3
  by_cases hk1 : k = 1
  · rw [if_pos hk1] at h5
    obtain ⟨v1, v2, v3, v4⟩ := progR_rw w4 h5
    obtain ⟨_, _, v5, _⟩ := progR_inv w4.1 (by rw [h5])
    rw [h5] at v5
    change r4 = encV V ++ r5 at v5
    refine ⟨hb, ⟨c2, d2, c4, d4, v3⟩, v2, ?_, v1⟩
    unfold putL
    simp only [if_pos hk1]
    rw [i1, i2, i3, i4, v5]
    simp
  · rw [if_neg hk1] at h5
    injection h5 with hv h5
    injection h5 with ht _
    subst hv ht
    refine ⟨hb, ⟨c2, d2, c4, d4, by unfold VerT.ok verN; simp⟩, verN_small, ?_, w4⟩
    unfold putL
    simp only [if_neg hk1]
    rw [i1, i2, i3, i4]
    simp
/-- So many requests. -/
def reqN : Nat → List ReqT → List Int → List ReqT × List Int × Int
  | 0, acc, r => (acc, r, 0)
  | k + 1, acc, r => match reqP r with | (x, t, e) => if e ≠ 0 then ([], [], e) else reqN k (acc ++ [x]) t
def listR (most : Int) (r : List Int) : List ReqT × List Int × Int :=
  match fixL r 1 with | (n, t, e) => if e ≠ 0 then ([], [], e) else if n > most then ([], [], 111) else reqN n.toNat [] t
def u32N : Nat → List Int → List Int → List Int × List Int × Int
  | 0, acc, r => (acc, r, 0)
  | k + 1, acc, r => match fixL r 4 with | (x, t, e) => if e ≠ 0 then ([], [], e) else u32N k (acc ++ [x]) t
def listU (most : Int) (r : List Int) : List Int × List Int × Int :=
  match fixL r 1 with | (n, t, e) => if e ≠ 0 then ([], [], e) else if n > most then ([], [], 111) else u32N n.toNat [] t
theorem reqN_go {k : Nat} {acc : List ReqT} {r : List Int} {x : ReqT} {t : List Int} (h : reqP r = (x, t, 0)) : reqN (k + 1) acc r = reqN k (acc ++ [x]) t := by
  show (match reqP r with | (x, t, e) => if e ≠ 0 then (([] : List ReqT), ([] : List Int), e) else reqN k (acc ++ [x]) t) = _
  rw [h]; rfl
theorem reqN_stop {k : Nat} {acc : List ReqT} {r : List Int} {x : ReqT} {t : List Int} {e : Int} (h : reqP r = (x, t, e)) (he : e ≠ 0) : reqN (k + 1) acc r = ([], [], e) := by
  show (match reqP r with | (x, t, e) => if e ≠ 0 then (([] : List ReqT), ([] : List Int), e) else reqN k (acc ++ [x]) t) = _
  rw [h]; exact if_pos he
theorem u32N_go {k : Nat} {acc : List Int} {r : List Int} {x : Int} {t : List Int} (h : fixL r 4 = (x, t, 0)) : u32N (k + 1) acc r = u32N k (acc ++ [x]) t := by
  show (match fixL r 4 with | (x, t, e) => if e ≠ 0 then (([] : List Int), ([] : List Int), e) else u32N k (acc ++ [x]) t) = _
  rw [h]; rfl
theorem u32N_stop {k : Nat} {acc : List Int} {r : List Int} {x : Int} {t : List Int} {e : Int} (h : fixL r 4 = (x, t, e)) (he : e ≠ 0) : u32N (k + 1) acc r = ([], [], e) := by
  show (match fixL r 4 with | (x, t, e) => if e ≠ 0 then (([] : List Int), ([] : List Int), e) else u32N k (acc ++ [x]) t) = _
  rw [h]; exact if_pos he
end Go.Fw
