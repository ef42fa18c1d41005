import Derived.Test.YtpjacnialnlilaaFwPre10
set_option linter.unusedSimpArgs false
set_option linter.unusedVariables false
set_option maxRecDepth 4000
namespace Go.Fw
open Go.Proofs Go.RowKit
def cntS (s : Nat) : HT → Int
  | .leaf _ j => if j = s then 1 else 0
  | .br _ a b => cntS s a + cntS s b
def dpt (s : Nat) : HT → Int
  | .leaf _ _ => 0
  | .br _ a b => (dpt s a + cntS s a) + (dpt s b + cntS s b)
theorem cntS_nn (s : Nat) : ∀ t : HT, 0 ≤ cntS s t
  | .leaf _ j => by unfold cntS; split <;> omega
  | .br _ a b => by have := cntS_nn s a; have := cntS_nn s b; unfold cntS; omega
theorem dpt_nn (s : Nat) : ∀ t : HT, 0 ≤ dpt s t
  | .leaf _ j => Int.le_refl _
  | .br _ a b => by have := cntS_nn s a; have := cntS_nn s b; have := dpt_nn s a; have := dpt_nn s b; unfold dpt; omega
theorem dpt_none (s : Nat) : ∀ t : HT, cntS s t = 0 → dpt s t = 0
  | .leaf _ j, _ => rfl
  | .br _ a b, h => by
    unfold cntS at h
    have := cntS_nn s a
    have := cntS_nn s b
    have := dpt_none s a (by omega)
    have := dpt_none s b (by omega)
    unfold dpt; omega
theorem dpt_ht (s : Nat) : ∀ t : HT, cntS s t ≤ 1 → dpt s t ≤ t.ht
  | .leaf _ j, _ => by unfold dpt HT.ht; omega
  | .br _ a b, h => by
    unfold cntS at h
    have h1 := cntS_nn s a
    have h2 := cntS_nn s b
    have i1 := dpt_ht s a (by omega)
    have i2 := dpt_ht s b (by omega)
    unfold dpt HT.ht
    by_cases ha : cntS s a = 0
    · have := dpt_none s a ha; omega
    · have := dpt_none s b (by omega); omega
theorem mem_syms_cnt (s : Nat) : ∀ t : HT, s ∈ t.syms ↔ 1 ≤ cntS s t
  | .leaf _ j => by
    unfold HT.syms cntS
    rw [List.mem_singleton]
    by_cases h : j = s
    · simp [h]
    · rw [if_neg h]; constructor
      · intro e; exact absurd e.symm h
      · intro e; omega
  | .br _ a b => by
    have := cntS_nn s a
    have := cntS_nn s b
    unfold HT.syms cntS
    rw [List.mem_append, mem_syms_cnt s a, mem_syms_cnt s b]
    omega
theorem deepL_at : ∀ (t : HT) (d : Int) (l : List Int) (s : Nat), cntS s t ≤ 1 → s < l.length → (deepL t d l)[s]? = if cntS s t = 1 then some (mx1 (d + dpt s t)) else l[s]?
  | .leaf w j, d, l, s, h, hs => by
    unfold deepL cntS dpt
    by_cases hj : j = s
    · subst hj
      simp [hs]
    · rw [if_neg hj, List.getElem?_set_ne hj]; simp
  | .br w a b, d, l, s, h, hs => by
    have h1 := cntS_nn s a
    have h2 := cntS_nn s b
    unfold cntS at h
    unfold deepL
    rw [deepL_at b (d + 1) _ s (by omega) (by rw [deepL_len]; exact hs), deepL_at a (d + 1) l s (by omega) hs]
    rw [show cntS s (.br w a b) = cntS s a + cntS s b from rfl, show dpt s (.br w a b) = (dpt s a + cntS s a) + (dpt s b + cntS s b) from rfl]
    by_cases hb : cntS s b = 1
    · have := dpt_none s a (by omega)
      rw [if_pos hb, if_pos (by omega)]
      congr 2; omega
    · rw [if_neg hb]
      by_cases ha : cntS s a = 1
      · have := dpt_none s b (by omega)
        rw [if_pos ha, if_pos (by omega)]
        congr 2; omega
      · rw [if_neg ha, if_neg (by omega)]
theorem sumG_insK (g : HT → Int) (k : HT → Int) : ∀ (s : List HT) (x : HT), sumG g (insK k s x) = g x + sumG g s
  | [], x => rfl
  | y :: s, x => by
    rw [insK]
    split
    · rw [sumG_cons, sumG_insK g k s x, sumG_cons]; omega
    · rfl
theorem sumG_huff (g : HT → Int) (hg : ∀ a b : HT, g (.br (a.wt + b.wt) a b) = g a + g b) : ∀ (k : Nat) (Q : List HT), sumG g (huff k Q) = sumG g Q
  | 0, Q => rfl
  | k + 1, [] => rfl
  | k + 1, [a] => rfl
  | k + 1, a :: b :: Q => by
    show sumG g (huff k _) = _
    rw [sumG_huff g hg k, sumG_insK, hg, sumG_cons, sumG_cons]; omega
/-- A symbol is one leaf, or none. -/
theorem leafs_cnt (s : Nat) : ∀ (f : List Int) (i : Nat), sumG (cntS s) (leafs f i) = if i ≤ s ∧ (∃ x, f[s - i]? = some x ∧ 0 < x) then 1 else 0
  | [], i => by
    rw [leafs, sumG_nil, if_neg]
    rintro ⟨_, x, h, _⟩
    cases h
  | y :: f, i => by
    have ih := leafs_cnt s f (i + 1)
    rw [leafs]
    by_cases his : i = s
    · subst his
      rw [if_neg (by omega)] at ih
      by_cases hy : 0 < y
      · rw [if_pos hy, sumG_cons, ih, if_pos ⟨Nat.le_refl _, y, by simp, hy⟩]
        simp [cntS]
      · rw [if_neg hy, ih, if_neg]
        rintro ⟨_, x, h, hx⟩
        simp at h
        subst h
        exact hy hx
    · have e : sumG (cntS s) (if 0 < y then .leaf y i :: leafs f (i + 1) else leafs f (i + 1)) = sumG (cntS s) (leafs f (i + 1)) := by
        split
        · rw [sumG_cons]; simp [cntS, his]
        · rfl
      rw [e, ih]
      by_cases hle : i ≤ s
      · obtain ⟨d, rfl⟩ : ∃ d, s = i + (d + 1) := ⟨s - i - 1, by omega⟩
        rw [show i + (d + 1) - (i + 1) = d by omega, show i + (d + 1) - i = d + 1 by omega, List.getElem?_cons_succ]
        by_cases hx : ∃ x, f[d]? = some x ∧ 0 < x
        · rw [if_pos ⟨by omega, hx⟩, if_pos ⟨by omega, hx⟩]
        · rw [if_neg (fun h => hx h.2), if_neg (fun h => hx h.2)]
      · rw [if_neg (by omega), if_neg (by omega)]
def usedP (f : List Int) (s : Nat) : Prop := ∃ x, f[s]? = some x ∧ 0 < x
theorem hufP_cnt (f : List Int) (s : Nat) : sumG (cntS s) (hufP f) = sumG (cntS s) (leafs f 0) := by
  unfold hufP; rw [sumG_huff _ (fun _ _ => rfl), sumG_srtK]
theorem hufP_used {f : List Int} {s : Nat} (h : usedP f s) : sumG (cntS s) (hufP f) = 1 := by
  rw [hufP_cnt, leafs_cnt, if_pos ⟨Nat.zero_le _, h⟩]
theorem hufP_unused {f : List Int} {s : Nat} (h : ¬ usedP f s) : sumG (cntS s) (hufP f) = 0 := by
  rw [hufP_cnt, leafs_cnt, if_neg fun e => h e.2]
theorem hufP_le1 (f : List Int) : (hufP f).length ≤ 1 := by
  unfold hufP
  exact huff_len _ _ (by rw [srtK_len]; have := leafs_len f 0; omega)
/-- No tree, or one. -/
theorem huff_ne : ∀ (k : Nat) (Q : List HT), Q ≠ [] → huff k Q ≠ []
  | 0, Q, h => h
  | k + 1, [], h => absurd rfl h
  | k + 1, [a], h => by rw [huff_small (by simp)]; simp
  | k + 1, a :: b :: Q, h => by
    show huff k _ ≠ []
    refine huff_ne k _ fun e => ?_
    have := congrArg List.length e
    rw [insK_len] at this
    simp at this
theorem hufP_none {f : List Int} (h : leafs f 0 = []) : hufP f = [] := by
  unfold hufP
  rw [h]
  exact huff_small (by rw [srtK_len]; simp) _
theorem hufP_one {f : List Int} {t : HT} (h : leafs f 0 = [t]) : hufP f = [t] := by
  unfold hufP
  rw [h]
  exact huff_small (by rw [srtK_len]; simp) _
theorem huff_br : ∀ (k : Nat) (Q : List HT), (∀ t ∈ Q, ∃ w a b, t = .br w a b) ∨ 2 ≤ Q.length → Q.length ≤ k + 1 → ∀ t ∈ huff k Q, ∃ w a b, t = .br w a b
  | 0, Q, h, hl => by
    rcases h with h | h
    · exact h
    · omega
  | k + 1, [], h, hl => by intro t ht; rw [huff_small (by simp)] at ht; cases ht
  | k + 1, [a], h, hl => by
    rw [huff_small (by simp)]
    rcases h with h | h
    · exact h
    · simp at h
  | k + 1, a :: b :: Q, h, hl => by
    show ∀ t ∈ huff k _, _
    refine huff_br k _ ?_ (by rw [insK_len]; simp at hl; omega)
    cases Q with
    | nil => exact .inl fun t ht => ⟨_, a, b, List.mem_singleton.1 ht⟩
    | cons c Q => exact .inr (by rw [insK_len]; simp)
theorem hufP_some {f : List Int} (h : leafs f 0 ≠ []) : ∃ t, hufP f = [t] := by
  have h1 := hufP_le1 f
  have h2 : hufP f ≠ [] := huff_ne _ _ fun e => h (List.length_eq_zero_iff.1 (by rw [← srtK_len (k := HT.wt), e]; rfl))
  match hq : hufP f, h1, h2 with
  | [t], _, _ => exact ⟨t, rfl⟩
  | [], _, h2 => exact absurd rfl h2
  | _ :: _ :: _, h1, _ => simp at h1
theorem hufP_br {f : List Int} (h : 2 ≤ (leafs f 0).length) : ∃ w a b, hufP f = [.br w a b] := by
  obtain ⟨t, ht⟩ := hufP_some (f := f) (fun e => by rw [e] at h; simp at h)
  have hm : t ∈ hufP f := by rw [ht]; exact List.mem_singleton.2 rfl
  obtain ⟨w, a, b, rfl⟩ := huff_br f.length (srtK HT.wt (leafs f 0)) (.inr (by rw [srtK_len]; exact h)) (by rw [srtK_len]; have := leafs_len f 0; omega) t hm
  exact ⟨w, a, b, ht⟩
theorem grownP_tree {f : List Int} {t : HT} (h : hufP f = [t]) : grownP f = deepL t 0 (List.replicate f.length 0) := by unfold grownP; rw [h]; rfl
theorem grownP_none {f : List Int} (h : hufP f = []) : grownP f = List.replicate f.length 0 := by unfold grownP; rw [h]; rfl
theorem hufP_cnt1 {f : List Int} {t : HT} (h : hufP f = [t]) (s : Nat) : cntS s t ≤ 1 ∧ (cntS s t = 1 ↔ usedP f s) := by
  by_cases hu : usedP f s
  · have := hufP_used hu
    rw [h, sumG_cons, sumG_nil] at this
    exact ⟨by omega, fun _ => hu, fun _ => by omega⟩
  · have := hufP_unused hu
    rw [h, sumG_cons, sumG_nil] at this
    exact ⟨by omega, fun h => by omega, fun h => absurd h hu⟩
theorem one_grown {f : List Int} {w : Int} {j : Nat} (h : leafs f 0 = [.leaf w j]) : grownP f = (List.replicate f.length 0).set j 1 := by
  rw [grownP_tree (hufP_one h)]; rfl
end Go.Fw
