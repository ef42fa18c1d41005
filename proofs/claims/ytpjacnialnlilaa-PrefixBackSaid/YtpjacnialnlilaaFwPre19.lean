import Derived.Test.YtpjacnialnlilaaFwPre18
set_option linter.unusedSimpArgs false
set_option linter.unusedVariables false
set_option maxRecDepth 4000
namespace Go.Fw
open Go.Proofs Go.RowKit
/-! The sum of a code's words; what the lengths come to. -/
def krT (x : Int) : Nat := if 1 ≤ x ∧ x ≤ 15 then 2 ^ (15 - x).toNat else 0
def kr (l : List Int) : Nat := (l.map krT).sum
theorem kr_snoc (l : List Int) (x : Int) : kr (l ++ [x]) = kr l + krT x := by unfold kr; simp
theorem kr_cons (x : Int) (l : List Int) : kr (x :: l) = krT x + kr l := by unfold kr; simp
theorem krT_zero : krT 0 = 0 := rfl
theorem krT_le (x : Int) : krT x ≤ 16384 := by
  unfold krT
  split
  · rename_i h
    calc 2 ^ (15 - x).toNat ≤ 2 ^ 14 := Nat.pow_le_pow_right (by decide) (by omega)
      _ = 16384 := rfl
  · omega
theorem kr_le : ∀ l : List Int, kr l ≤ 16384 * l.length
  | [] => by simp [kr]
  | x :: l => by have := kr_le l; have := krT_le x; rw [kr_cons, List.length_cons]; omega
theorem kr_set : ∀ (l : List Int) (s : Nat) (x : Int), l[s]? = some 0 → kr (l.set s x) = kr l + krT x
  | [], s, x, h => by cases h
  | y :: l, 0, x, h => by
    simp at h
    subst h
    rw [List.set_cons_zero, kr_cons, kr_cons, krT_zero]; omega
  | y :: l, s + 1, x, h => by
    rw [List.getElem?_cons_succ] at h
    rw [List.set_cons_succ, kr_cons, kr_cons, kr_set l s x h]; omega
theorem cnt_br {s : Nat} {w : Int} {a b : HT} (h : cntS s (.br w a b) ≤ 1) : cntS s a ≤ 1 ∧ cntS s b ≤ 1 := by
  rw [show cntS s (.br w a b) = cntS s a + cntS s b from rfl] at h
  have := cntS_nn s a
  have := cntS_nn s b
  omega
theorem kr_deep : ∀ (t : HT) (d : Nat) (l : List Int), (∀ s, cntS s t ≤ 1) → (∀ s ∈ t.syms, l[s]? = some 0) → 1 ≤ d → d + t.ht ≤ 15 → kr (deepL t d l) = kr l + 2 ^ (15 - d)
  | .leaf w s, d, l, hc, hs, h1, h2 => by
    unfold deepL
    rw [kr_set l s _ (hs s (by simp [HT.syms]))]
    unfold HT.ht at h2
    have e : mx1 (d : Int) = (d : Int) := by unfold mx1; rw [if_neg (by omega)]
    rw [e]
    unfold krT
    rw [if_pos ⟨by omega, by omega⟩]
    congr 2
    omega
  | .br w a b, d, l, hc, hs, h1, h2 => by
    unfold HT.ht at h2
    unfold deepL
    have hca : ∀ s, cntS s a ≤ 1 := fun s => (cnt_br (hc s)).1
    have hcb : ∀ s, cntS s b ≤ 1 := fun s => (cnt_br (hc s)).2
    rw [show (d : Int) + 1 = ((d + 1 : Nat) : Int) by omega]
    rw [kr_deep b (d + 1) _ hcb (fun s hsb => ?_) (by omega) (by omega), kr_deep a (d + 1) l hca (fun s hsa => hs s (by simp [HT.syms, hsa])) (by omega) (by omega)]
    · have e : 2 ^ (15 - d) = 2 * 2 ^ (15 - (d + 1)) := by rw [show 15 - d = (15 - (d + 1)) + 1 by omega, Nat.pow_succ]; omega
      omega
    · have h0 := hs s (by simp [HT.syms, hsb])
      have hlt := (List.getElem?_eq_some_iff.1 h0).1
      have hb1 := (mem_syms_cnt s b).1 hsb
      have hcs := hc s
      rw [show cntS s (.br w a b) = cntS s a + cntS s b from rfl] at hcs
      have := cntS_nn s a
      rw [deepL_at a _ l s (hca s) hlt, if_neg (by omega)]
      exact h0
/-- One of the symbols lies deepest. -/
theorem deepest : ∀ t : HT, ∃ s ∈ t.syms, (t.ht : Int) ≤ dpt s t
  | .leaf w s => ⟨s, by simp [HT.syms], Int.le_refl _⟩
  | .br w a b => by
    obtain ⟨s, hs, h⟩ := deepest a
    obtain ⟨r, hr, g⟩ := deepest b
    have e : (HT.br w a b).ht = max a.ht b.ht + 1 := rfl
    by_cases hab : b.ht ≤ a.ht
    · refine ⟨s, by simp [HT.syms, hs], ?_⟩
      have h1 := (mem_syms_cnt s a).1 hs
      have h2 := dpt_nn s b
      have h3 := cntS_nn s b
      rw [e]
      show _ ≤ dpt s a + cntS s a + (dpt s b + cntS s b)
      omega
    · refine ⟨r, by simp [HT.syms, hr], ?_⟩
      have h1 := (mem_syms_cnt r b).1 hr
      have h2 := dpt_nn r a
      have h3 := cntS_nn r a
      rw [e]
      show _ ≤ dpt r a + cntS r a + (dpt r b + cntS r b)
      omega
theorem usedP_lt {f : List Int} {s : Nat} (h : usedP f s) : s < f.length := by obtain ⟨x, hx, _⟩ := h; exact (List.getElem?_eq_some_iff.1 hx).1
theorem ht_of_ok {f : List Int} {t : HT} {lim : Nat} (ht : hufP f = [t]) (hok : okL (grownP f) lim = true) : t.ht ≤ lim := by
  obtain ⟨s, hs, hd⟩ := deepest t
  have hc := hufP_cnt1 ht s
  have h1 := (mem_syms_cnt s t).1 hs
  have hc1 : cntS s t = 1 := by omega
  have hlt := usedP_lt (hc.2.1 hc1)
  have hg := grownP_at ht hlt
  rw [if_pos hc1] at hg
  unfold okL at hok
  rw [List.all_eq_true] at hok
  have := hok _ (List.mem_of_getElem? hg)
  simp only [decide_eq_true_eq] at this
  unfold mx1 at this
  split at this <;> omega
theorem kr_zeros (n : Nat) : kr (List.replicate n 0) = 0 := by
  induction n with
  | zero => rfl
  | succ n ih => rw [List.replicate_succ, kr_cons, ih]; rfl
theorem usedN_zero {f : List Int} (h : usedN f = 0) : leafs f 0 = [] := List.eq_nil_of_length_eq_zero h
/-- The sum of grown lengths. -/
theorem kr_grown {f : List Int} (hok : okL (grownP f) 15 = true) : kr (grownP f) = if usedN f = 0 then 0 else if usedN f = 1 then 16384 else 32768 := by
  by_cases h0 : usedN f = 0
  · rw [if_pos h0, grownP_none (hufP_none (usedN_zero h0)), kr_zeros]
  rw [if_neg h0]
  by_cases h1 : usedN f = 1
  · rw [if_pos h1]
    obtain ⟨t, ht⟩ := List.length_eq_one_iff.1 h1
    obtain ⟨w, j, rfl, _, _, _, hj⟩ := leafs_mem (by rw [ht]; exact List.mem_singleton.2 rfl : t ∈ leafs f 0)
    rw [one_grown ht, kr_set _ _ _ (by rw [List.getElem?_replicate, if_pos (by omega)]), kr_zeros]; rfl
  rw [if_neg h1]
  have h2 : 2 ≤ (leafs f 0).length := by unfold usedN at h0 h1; omega
  obtain ⟨w, a, b, ht⟩ := hufP_br h2
  have hh := ht_of_ok (lim := 15) ht hok
  have hc := fun s => (hufP_cnt1 ht s).1
  have hs : ∀ s ∈ (HT.br w a b).syms, s < f.length := fun s hs => by
    have h1 := (mem_syms_cnt s _).1 hs
    exact usedP_lt ((hufP_cnt1 ht s).2.1 (by have := hc s; omega))
  rw [show (HT.br w a b).ht = max a.ht b.ht + 1 from rfl] at hh
  have hca : ∀ s, cntS s a ≤ 1 := fun s => (cnt_br (hc s)).1
  have hcb : ∀ s, cntS s b ≤ 1 := fun s => (cnt_br (hc s)).2
  have hz : ∀ s, s < f.length → (List.replicate f.length (0 : Int))[s]? = some 0 := fun s h => by rw [List.getElem?_replicate, if_pos h]
  rw [grownP_tree ht]
  show kr (deepL b ((1 : Nat) : Int) (deepL a ((1 : Nat) : Int) _)) = _
  rw [kr_deep b 1 _ hcb (fun s hsb => ?_) (Nat.le_refl _) (by omega), kr_deep a 1 _ hca (fun s hsa => hz s (hs s (by simp [HT.syms, hsa]))) (Nat.le_refl _) (by omega), kr_zeros]
  have hlt := hs s (by simp [HT.syms, hsb])
  have hb1 := (mem_syms_cnt s b).1 hsb
  have hcs := hc s
  rw [show cntS s (.br w a b) = cntS s a + cntS s b from rfl] at hcs
  have := cntS_nn s a
  rw [deepL_at a _ _ s (hca s) (by rw [List.length_replicate]; exact hlt), if_neg (by omega)]
  exact hz s hlt
theorem usedP_half {f : List Int} (h : ∀ x ∈ f, 0 ≤ x) (s : Nat) : usedP (halfL f) s ↔ usedP f s := by
  unfold usedP halfL
  constructor
  · rintro ⟨x, hx, h0⟩
    rw [List.getElem?_map] at hx
    obtain ⟨y, hy, rfl⟩ := Option.map_eq_some_iff.1 hx
    exact ⟨y, hy, (half_pos (h y (List.mem_of_getElem? hy))).2.1.1 h0⟩
  · rintro ⟨y, hy, h0⟩
    exact ⟨half y, by rw [List.getElem?_map, hy]; rfl, (half_pos (h y (List.mem_of_getElem? hy))).2.1.2 h0⟩
/-- The lengths are grown by some weights. -/
theorem lenF_is : ∀ (j : Nat) (f : List Int) (lim : Int), (∀ x ∈ f, 0 ≤ x) → ∃ g, lenF j f lim = grownP g ∧ g.length = f.length ∧ usedN g = usedN f ∧ (∀ s, usedP g s ↔ usedP f s)
  | 0, f, lim, h => ⟨f, rfl, rfl, rfl, fun _ => Iff.rfl⟩
  | j + 1, f, lim, h => by
    rw [lenF]
    split
    · exact ⟨f, rfl, rfl, rfl, fun _ => Iff.rfl⟩
    · obtain ⟨g, h1, h2, h3, h4⟩ := lenF_is j (halfL f) lim fun x hx => by
        obtain ⟨y, hy, rfl⟩ := List.mem_map.1 hx; exact (half_pos (h y hy)).1
      exact ⟨g, h1, h2.trans (List.length_map _), h3.trans (leafs_half f 0 h), fun s => (h4 s).trans (usedP_half h s)⟩
theorem okL_mono {l : List Int} {a b : Int} (h : a ≤ b) (ho : okL l a = true) : okL l b = true := by
  unfold okL at *
  rw [List.all_eq_true] at *
  intro x hx
  have := ho x hx
  simp only [decide_eq_true_eq] at *
  omega
/-- What the lengths are like. -/
theorem lenF_like {f : List Int} {lim : Nat} (h1 : 1 ≤ lim) (h15 : lim ≤ 15) (h : HOk 20 f lim) : okL (lenF 20 f lim) lim = true ∧ kr (lenF 20 f lim) = (if usedN f = 0 then 0 else if usedN f = 1 then 16384 else 32768) ∧ ∀ (s : Nat) (x y : Int), (lenF 20 f lim)[s]? = some x → f[s]? = some y → 0 ≤ x ∧ (x = 0 ↔ y = 0) := by
  obtain ⟨g, e, gl, gu, gp⟩ := lenF_is 20 f lim h.nn
  have ho := lenF_ok 20 f lim h1 h
  refine ⟨ho, ?_, fun s x y hx hy => ?_⟩
  · rw [e, ← gu]
    exact kr_grown (by rw [← e]; exact okL_mono (by omega) ho)
  · rw [e] at hx
    have hsl : s < g.length := by rw [gl]; exact (List.getElem?_eq_some_iff.1 hy).1
    have hup : usedP g s ↔ 0 < y := by
      rw [gp s]
      unfold usedP
      rw [hy]
      exact ⟨by rintro ⟨z, e, h⟩; cases e; exact h, fun h => ⟨y, rfl, h⟩⟩
    have hy0 := h.nn y (List.mem_of_getElem? hy)
    by_cases h0 : leafs g 0 = []
    · rw [grownP_none (hufP_none h0), List.getElem?_replicate, if_pos hsl] at hx
      cases hx
      have : ¬ usedP g s := fun hu => by
        have := hufP_used hu
        rw [hufP_none h0, sumG_nil] at this
        omega
      rw [hup] at this
      exact ⟨Int.le_refl _, by omega⟩
    · obtain ⟨t, ht⟩ := hufP_some h0
      rw [grownP_at ht hsl] at hx
      injection hx with hx
      have hc := hufP_cnt1 ht s
      split at hx
      · rename_i h1
        have := hup.1 (hc.2.1 h1)
        have hd := dpt_nn s t
        unfold mx1 at hx
        split at hx <;> omega
      · rename_i h1
        have : ¬ 0 < y := fun h => h1 (hc.2.2 (hup.2 h))
        omega
end Go.Fw
