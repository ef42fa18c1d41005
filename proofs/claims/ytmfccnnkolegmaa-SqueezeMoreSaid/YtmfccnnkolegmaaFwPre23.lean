import Derived.Test.YtmfccnnkolegmaaFwPre17
set_option linter.unusedSimpArgs false
set_option linter.unusedVariables false
set_option maxRecDepth 4000
namespace Go.Fw
open Go.Proofs Go.RowKit
/-! The sum of a code's words; what the lengths come to. -/
def krT (x : Int) : Nat := if 1 ≤ x ∧ x ≤ 15 then 2 ^ (15 - x).toNat else 0
def kr (l : List Int) : Nat := (l.map krT).sum
theorem kr_snoc (l : List Int) (x : Int) : kr (l ++ [x]) = kr l + krT x := by unfold kr; simp
theorem kr_cons (x : Int) (l : List Int) : kr (x :: l) = krT x + kr l := by unfold kr; simp
theorem krT_zero : krT 0 = 0 := rfl
theorem krT_le (x : Int) : krT x ≤ 16384 := by
  unfold krT
  split
  · rename_i h
    calc 2 ^ (15 - x).toNat ≤ 2 ^ 14 := Nat.pow_le_pow_right (by decide) (by omega)
      _ = 16384 := rfl
  · omega
theorem kr_le : ∀ l : List Int, kr l ≤ 16384 * l.length
  | [] => by simp [kr]
  | x :: l => by have := kr_le l; have := krT_le x; rw [kr_cons, List.length_cons]; omega
theorem kr_set : ∀ (l : List Int) (s : Nat) (x : Int), l[s]? = some 0 → kr (l.set s x) = kr l + krT x
  | [], s, x, h => by cases h
  | y :: l, 0, x, h => by
    simp at h
    subst h
    rw [List.set_cons_zero, kr_cons, kr_cons, krT_zero]; omega
  | y :: l, s + 1, x, h => by
    rw [List.getElem?_cons_succ] at h
    rw [List.set_cons_succ, kr_cons, kr_cons, kr_set l s x h]; omega
theorem cnt_br {s : Nat} {w : Int} {a b : HT} (h : cntS s (.br w a b) ≤ 1) : cntS s a ≤ 1 ∧ cntS s b ≤ 1 := by
  rw [show cntS s (.br w a b) = cntS s a + cntS s b from rfl] at h
  have := cntS_nn s a
  have := cntS_nn s b
  omega
theorem kr_deep : ∀ (t : HT) (d : Nat) (l : List Int), (∀ s, cntS s t ≤ 1) → (∀ s ∈ t.syms, l[s]? = some 0) → 1 ≤ d → d + t.ht ≤ 15 → kr (deepL t d l) = kr l + 2 ^ (15 - d)
  | .leaf w s, d, l, hc, hs, h1, h2 => by
    unfold deepL
    rw [kr_set l s _ (hs s (by simp [HT.syms]))]
    unfold HT.ht at h2
    have e : mx1 (d : Int) = (d : Int) := by unfold mx1; rw [if_neg (by omega)]
    rw [e]
    unfold krT
    rw [if_pos ⟨by omega, by omega⟩]
    congr 2
    omega
  | .br w a b, d, l, hc, hs, h1, h2 => by
    unfold HT.ht at h2
    unfold deepL
    have hca : ∀ s, cntS s a ≤ 1 := fun s => (cnt_br (hc s)).1
    have hcb : ∀ s, cntS s b ≤ 1 := fun s => (cnt_br (hc s)).2
    rw [show (d : Int) + 1 = ((d + 1 : Nat) : Int) by omega]
    rw [kr_deep b (d + 1) _ hcb (fun s hsb => ?_) (by omega) (by omega), kr_deep a (d + 1) l hca (fun s hsa => hs s (by simp [HT.syms, hsa])) (by omega) (by omega)]
    · have e : 2 ^ (15 - d) = 2 * 2 ^ (15 - (d + 1)) := by rw [show 15 - d = (15 - (d + 1)) + 1 by omega, Nat.pow_succ]; omega
      omega
    · have h0 := hs s (by simp [HT.syms, hsb])
      have hlt := (List.getElem?_eq_some_iff.1 h0).1
      have hb1 := (mem_syms_cnt s b).1 hsb
      have hcs := hc s
      rw [show cntS s (.br w a b) = cntS s a + cntS s b from rfl] at hcs
      have := cntS_nn s a
      rw [deepL_at a _ l s (hca s) hlt, if_neg (by omega)]
      exact h0
/-- One of the symbols lies deepest. -/
theorem deepest : ∀ t : HT, ∃ s ∈ t.syms, (t.ht : Int) ≤ dpt s t
  | .leaf w s => ⟨s, by simp [HT.syms], Int.le_refl _⟩
  | .br w a b => by
    obtain ⟨s, hs, h⟩ := deepest a
    obtain ⟨r, hr, g⟩ := deepest b
    have e : (HT.br w a b).ht = max a.ht b.ht + 1 := rfl
    by_cases hab : b.ht ≤ a.ht
    · refine ⟨s, by simp [HT.syms, hs], ?_⟩
      have h1 := (mem_syms_cnt s a).1 hs
      have h2 := dpt_nn s b
      have h3 := cntS_nn s b
      rw [e]
      show _ ≤ dpt s a + cntS s a + (dpt s b + cntS s b)
      omega
    · refine ⟨r, by simp [HT.syms, hr], ?_⟩
      have h1 := (mem_syms_cnt r b).1 hr
      have h2 := dpt_nn r a
      have h3 := cntS_nn r a
      rw [e]
      show _ ≤ dpt r a + cntS r a + (dpt r b + cntS r b)
      omega
theorem usedP_lt {f : List Int} {s : Nat} (h : usedP f s) : s < f.length := by obtain ⟨x, hx, _⟩ := h; exact (List.getElem?_eq_some_iff.1 hx).1
theorem ht_of_ok {f : List Int} {t : HT} {lim : Nat} (ht : hufP f = [t]) (hok : okL (grownP f) lim = true) : t.ht ≤ lim := by
  obtain ⟨s, hs, hd⟩ := deepest t
  have hc := hufP_cnt1 ht s
  have h1 := (mem_syms_cnt s t).1 hs
  have hc1 : cntS s t = 1 := by omega
  have hlt := usedP_lt (hc.2.1 hc1)
  have hg := grownP_at ht hlt
  rw [if_pos hc1] at hg
  unfold okL at hok
  rw [List.all_eq_true] at hok
  have := hok _ (List.mem_of_getElem? hg)
  simp only [decide_eq_true_eq] at this
  unfold mx1 at this
  split at this <;> omega
theorem kr_zeros (n : Nat) : kr (List.replicate n 0) = 0 := by
  induction n with
  | zero => rfl
  | succ n ih => rw [List.replicate_succ, kr_cons, ih]; rfl
theorem usedN_zero {f : List Int} (h : usedN f = 0) : leafs f 0 = [] := List.eq_nil_of_length_eq_zero h
/-- The sum of grown lengths. -/
theorem kr_grown {f : List Int} (hok : okL (grownP f) 15 = true) : kr (grownP f) = if usedN f = 0 then 0 else if usedN f = 1 then 16384 else 32768 := by
  by_cases h0 : usedN f = 0
  · rw [if_pos h0, grownP_none (hufP_none (usedN_zero h0)), kr_zeros]
  rw [if_neg h0]
  by_cases h1 : usedN f = 1
  · rw [if_pos h1]
    obtain ⟨t, ht⟩ := List.length_eq_one_iff.1 h1
    obtain ⟨w, j, rfl, _, _, _, hj⟩ := leafs_mem (by rw [ht]; exact List.mem_singleton.2 rfl : t ∈ leafs f 0)
    rw [one_grown ht, kr_set _ _ _ (by rw [List.getElem?_replicate, if_pos (by omega)]), kr_zeros]; rfl
  rw [if_neg h1]
  have h2 : 2 ≤ (leafs f 0).length := by unfold usedN at h0 h1; omega
  obtain ⟨w, a, b, ht⟩ := hufP_br h2
  have hh := ht_of_ok (lim := 15) ht hok
  have hc := fun s => (hufP_cnt1 ht s).1
  have hs : ∀ s ∈ (HT.br w a b).syms, s < f.length := fun s hs => by
    have h1 := (mem_syms_cnt s _).1 hs
    exact usedP_lt ((hufP_cnt1 ht s).2.1 (by have := hc s; omega))
  rw [show (HT.br w a b).ht = max a.ht b.ht + 1 from rfl] at hh
  have hca : ∀ s, cntS s a ≤ 1 := fun s => (cnt_br (hc s)).1
  have hcb : ∀ s, cntS s b ≤ 1 := fun s => (cnt_br (hc s)).2
  have hz : ∀ s, s < f.length → (List.replicate f.length (0 : Int))[s]? = some 0 := fun s h => by rw [List.getElem?_replicate, if_pos h]
  rw [grownP_tree ht]
  show kr (deepL b ((1 : Nat) : Int) (deepL a ((1 : Nat) : Int) _)) = _
  rw [kr_deep b 1 _ hcb (fun s hsb => ?_) (Nat.le_refl _) (by omega), kr_deep a 1 _ hca (fun s hsa => hz s (hs s (by simp [HT.syms, hsa]))) (Nat.le_refl _) (by omega), kr_zeros]
  have hlt := hs s (by simp [HT.syms, hsb])
  have hb1 := (mem_syms_cnt s b).1 hsb
  have hcs := hc s
  rw [show cntS s (.br w a b) = cntS s a + cntS s b from rfl] at hcs
  have := cntS_nn s a
  rw [deepL_at a _ _ s (hca s) (by rw [List.length_replicate]; exact hlt), if_neg (by omega)]
  exact hz s hlt
theorem usedP_half {f : List Int} (h : ∀ x ∈ f, 0 ≤ x) (s : Nat) : usedP (halfL f) s ↔ usedP f s := by
  unfold usedP halfL
  constructor
  · rintro ⟨x, hx, h0⟩
    rw [List.getElem?_map] at hx
    obtain ⟨y, hy, rfl⟩ := Option.map_eq_some_iff.1 hx
    exact ⟨y, hy, (half_pos (h y (List.mem_of_getElem? hy))).2.1.1 h0⟩
  · rintro ⟨y, hy, h0⟩
    exact ⟨half y, by rw [List.getElem?_map, hy]; rfl, (half_pos (h y (List.mem_of_getElem? hy))).2.1.2 h0⟩
/-- The lengths are grown by some weights. -/
theorem lenF_is : ∀ (j : Nat) (f : List Int) (lim : Int), (∀ x ∈ f, 0 ≤ x) → ∃ g, lenF j f lim = grownP g ∧ g.length = f.length ∧ usedN g = usedN f ∧ (∀ s, usedP g s ↔ usedP f s)
  | 0, f, lim, h => ⟨f, rfl, rfl, rfl, fun _ => Iff.rfl⟩
  | j + 1, f, lim, h => by
    rw [lenF]
    split
    · exact ⟨f, rfl, rfl, rfl, fun _ => Iff.rfl⟩
    · obtain ⟨g, h1, h2, h3, h4⟩ := lenF_is j (halfL f) lim fun x hx => by
        obtain ⟨y, hy, rfl⟩ := List.mem_map.1 hx; exact (half_pos (h y hy)).1
      exact ⟨g, h1, h2.trans (List.length_map _), h3.trans (leafs_half f 0 h), fun s => (h4 s).trans (usedP_half h s)⟩
theorem okL_mono {l : List Int} {a b : Int} (h : a ≤ b) (ho : okL l a = true) : okL l b = true := by
  unfold okL at *
  rw [List.all_eq_true] at *
  intro x hx
  have := ho x hx
  simp only [decide_eq_true_eq] at *
  omega
/-- What the lengths are like. -/
theorem lenF_like {f : List Int} {lim : Nat} (h1 : 1 ≤ lim) (h15 : lim ≤ 15) (h : HOk 20 f lim) : okL (lenF 20 f lim) lim = true ∧ kr (lenF 20 f lim) = (if usedN f = 0 then 0 else if usedN f = 1 then 16384 else 32768) ∧ ∀ (s : Nat) (x y : Int), (lenF 20 f lim)[s]? = some x → f[s]? = some y → 0 ≤ x ∧ (x = 0 ↔ y = 0) := by
  obtain ⟨g, e, gl, gu, gp⟩ := lenF_is 20 f lim h.nn
  have ho := lenF_ok 20 f lim h1 h
  refine ⟨ho, ?_, fun s x y hx hy => ?_⟩
  · rw [e, ← gu]
    exact kr_grown (by rw [← e]; exact okL_mono (by omega) ho)
  · rw [e] at hx
    have hsl : s < g.length := by rw [gl]; exact (List.getElem?_eq_some_iff.1 hy).1
    have hup : usedP g s ↔ 0 < y := by
      rw [gp s]
      unfold usedP
      rw [hy]
      exact ⟨by rintro ⟨z, e, h⟩; cases e; exact h, fun h => ⟨y, rfl, h⟩⟩
    have hy0 := h.nn y (List.mem_of_getElem? hy)
    by_cases h0 : leafs g 0 = []
    · rw [grownP_none (hufP_none h0), List.getElem?_replicate, if_pos hsl] at hx
      cases hx
      have : ¬ usedP g s := fun hu => by
        have := hufP_used hu
        rw [hufP_none h0, sumG_nil] at this
        omega
      rw [hup] at this
      exact ⟨Int.le_refl _, by omega⟩
    · obtain ⟨t, ht⟩ := hufP_some h0
      rw [grownP_at ht hsl] at hx
      injection hx with hx
      have hc := hufP_cnt1 ht s
      split at hx
      · rename_i h1
        have := hup.1 (hc.2.1 h1)
        have hd := dpt_nn s t
        unfold mx1 at hx
        split at hx <;> omega
      · rename_i h1
        have : ¬ 0 < y := fun h => h1 (hc.2.2 (hup.2 h))
        omega
end Go.Fw

set_option linter.unusedSimpArgs false
set_option linter.unusedVariables false
set_option maxRecDepth 4000
namespace Go.Fw
open Go.Proofs Go.RowKit
/-! The heavier one lies no deeper; few and light ones lie not deep. -/
theorem insK_where {x : HT} : ∀ {Q : List HT}, Srtd HT.wt Q → ∃ s1 s2, Q = s1 ++ s2 ∧ insK HT.wt Q x = s1 ++ x :: s2 ∧ (∀ y ∈ s1, y.wt ≤ x.wt) ∧ ∀ y ∈ s2, x.wt < y.wt
  | [], _ => ⟨[], [], rfl, rfl, fun y hy => (by cases hy), fun y hy => (by cases hy)⟩
  | q :: Q, h => by
    have h' := h
    unfold Srtd at h'
    rw [List.pairwise_cons] at h'
    by_cases hq : q.wt ≤ x.wt
    · obtain ⟨s1, s2, e1, e2, h1, h2⟩ := insK_where (x := x) (Q := Q) h'.2
      refine ⟨q :: s1, s2, by rw [e1]; rfl, by rw [insK, if_pos hq, e2]; rfl, fun y hy => ?_, h2⟩
      rcases List.mem_cons.1 hy with rfl | hy
      · exact hq
      · exact h1 y hy
    · refine ⟨[], q :: Q, rfl, by rw [insK, if_neg hq]; rfl, fun y hy => (by cases hy), fun y hy => ?_⟩
      rcases List.mem_cons.1 hy with rfl | hy
      · omega
      · have := h'.1 y hy; omega
inductive Dep : List HT → List Nat → Prop
  | one (t : HT) : Dep [t] [0]
  | step {a b : HT} {s1 s2 : List HT} {d1 d2 : List Nat} {e : Nat} : insK HT.wt (s1 ++ s2) (.br (a.wt + b.wt) a b) = s1 ++ .br (a.wt + b.wt) a b :: s2 → (∀ y ∈ s2, a.wt + b.wt < y.wt) → d1.length = s1.length → d2.length = s2.length →
      Dep (s1 ++ .br (a.wt + b.wt) a b :: s2) (d1 ++ e :: d2) → Dep (a :: b :: (s1 ++ s2)) ((e + 1) :: (e + 1) :: (d1 ++ d2))
theorem Dep.len {Q : List HT} {D : List Nat} (h : Dep Q D) : D.length = Q.length := by
  cases h with
  | one t => rfl
  | step h1 h2 h3 h4 h5 => simp [h3, h4]
theorem Dep.inv {Q : List HT} {D : List Nat} (h : Dep Q D) {a b : HT} {R : List HT} (hQ : Q = a :: b :: R) : ∃ s1 s2 d1 d2 e, R = s1 ++ s2 ∧ D = (e + 1) :: (e + 1) :: (d1 ++ d2) ∧ insK HT.wt R (.br (a.wt + b.wt) a b) = s1 ++ .br (a.wt + b.wt) a b :: s2 ∧ (∀ y ∈ s2, a.wt + b.wt < y.wt) ∧ d1.length = s1.length ∧ d2.length = s2.length ∧ Dep (s1 ++ .br (a.wt + b.wt) a b :: s2) (d1 ++ e :: d2) := by
  cases h with
  | one t => cases hQ
  | step h1 h2 h3 h4 h5 =>
    injection hQ with e1 e2
    injection e2 with e2 e3
    subst e1 e2 e3
    exact ⟨_, _, _, _, _, rfl, rfl, h1, h2, h3, h4, h5⟩
theorem Dep.all : ∀ (n : Nat) (Q : List HT), Q.length = n + 1 → Srtd HT.wt Q → ∃ D, Dep Q D
  | 0, Q, h, _ => by
    obtain ⟨t, rfl⟩ := List.length_eq_one_iff.1 h
    exact ⟨_, .one t⟩
  | n + 1, [], h, _ => by simp at h
  | n + 1, [a], h, _ => by simp at h
  | n + 1, a :: b :: Q, h, hs => by
    obtain ⟨s1, s2, e1, e2, h1, h2⟩ := insK_where (x := .br (a.wt + b.wt) a b) hs.tail2
    subst e1
    obtain ⟨D, hD⟩ := Dep.all n (s1 ++ .br (a.wt + b.wt) a b :: s2) (by simp at h ⊢; omega) (by rw [← e2]; exact insH_srtd hs.tail2 _)
    have hl := hD.len
    rw [List.length_append, List.length_cons] at hl
    obtain ⟨e, he⟩ : ∃ e, D[s1.length]? = some e := ⟨_, List.getElem?_eq_getElem (by omega)⟩
    have hsp : D = D.take s1.length ++ e :: D.drop (s1.length + 1) := by
      have : D.drop s1.length = e :: D.drop (s1.length + 1) := by
        rw [List.drop_eq_getElem_cons (by omega)]
        congr 1
        exact (List.getElem?_eq_some_iff.1 he).2
      rw [← this, List.take_append_drop]
    rw [hsp] at hD
    exact ⟨_, .step e2 h2 (List.length_take_of_le (by omega)) (by rw [List.length_drop]; omega) hD⟩
theorem Dep.mono : ∀ (n : Nat) {Q : List HT} {D : List Nat}, Q.length ≤ n → Srtd HT.wt Q → Dep Q D → D.Pairwise fun x y => y ≤ x
  | 0, Q, D, hl, _, h => by cases h <;> simp at hl
  | n + 1, Q, D, hl, hs, h => by
    cases h with
    | one t => simp
    | step h1 h2 h3 h4 h5 =>
    rename_i a b s1 s2 d1 d2 e
    have hs1 : Srtd HT.wt (s1 ++ .br (a.wt + b.wt) a b :: s2) := by rw [← h1]; exact insH_srtd hs.tail2 _
    have p1 := Dep.mono n (by simp at hl ⊢; omega) hs1 h5
    rw [List.pairwise_append, List.pairwise_cons] at p1
    obtain ⟨q1, ⟨q2, q3⟩, q4⟩ := p1
    have hab : a.wt ≤ b.wt := by unfold Srtd at hs; rw [List.pairwise_cons] at hs; exact hs.1 b (by simp)
    have hb : ∀ y ∈ s1 ++ s2, b.wt ≤ y.wt := by unfold Srtd at hs; rw [List.pairwise_cons, List.pairwise_cons] at hs; exact hs.2.1
    have key : ∀ x ∈ d1, x ≤ e + 1 := by
      match s1, d1, h3, h5, q1 with
      | [], [], _, _, _ => intro x hx; cases hx
      | [c], [x], _, h5, _ =>
        obtain ⟨t1, t2, f1, f2, e', _, hD, _⟩ := h5.inv rfl
        injection hD with e1 e2
        injection e2 with e2 _
        intro y hy
        rw [List.mem_singleton.1 hy]; omega
      | c :: c' :: s1, x :: x' :: d1, h3, h5, q1 =>
        have h5' := h5
        obtain ⟨t1, t2, f1, f2, e', hR0, hD, hi0, g2, g3, g4, g5⟩ := h5'.inv rfl
        have hR : s1 ++ .br (a.wt + b.wt) a b :: s2 = t1 ++ t2 := hR0
        have hi : insK HT.wt (t1 ++ t2) (.br (c.wt + c'.wt) c c') = t1 ++ .br (c.wt + c'.wt) c c' :: t2 := by rw [← hR]; exact hi0
        injection hD with e1 e2
        injection e2 with e2 e3
        rw [List.pairwise_cons] at q1
        have hx : x ≤ e + 1 := by
          have hs2 : Srtd HT.wt (s1 ++ .br (a.wt + b.wt) a b :: s2) := (show Srtd HT.wt (c :: c' :: (s1 ++ .br (a.wt + b.wt) a b :: s2)) from hs1).tail2
          rw [hR] at hs2
          have p2 := Dep.mono n (by
            have := congrArg List.length hR
            simp at hl this ⊢; omega) (by rw [← hi]; exact insH_srtd hs2 _) g5
          rw [List.pairwise_append] at p2
          have hlt : s1.length < t1.length := by
            rcases Nat.lt_or_ge s1.length t1.length with h | h
            · exact h
            · exfalso
              have hat : (s1 ++ .br (a.wt + b.wt) a b :: s2)[s1.length]? = some (.br (a.wt + b.wt) a b) := at_app ..
              rw [hR, List.getElem?_append_right h] at hat
              have := g2 _ (List.mem_of_getElem? hat)
              have hc := hb c (by simp)
              have hc' := hb c' (by simp)
              rw [show (HT.br (a.wt + b.wt) a b).wt = a.wt + b.wt from rfl] at this
              omega
          have hd1 : d1.length = s1.length := by simp at h3; omega
          have hat : (d1 ++ e :: d2)[d1.length]? = some e := at_app ..
          rw [show d1 ++ e :: d2 = f1 ++ f2 from e3, List.getElem?_append_left (by omega)] at hat
          have := p2.2.2 e (List.mem_of_getElem? hat) e' (by simp)
          omega
        intro y hy
        rcases List.mem_cons.1 hy with rfl | hy
        · exact hx
        · have := q1.1 y hy; omega
    have hall : ∀ y ∈ d1 ++ d2, y ≤ e + 1 := fun y hy => by
      rcases List.mem_append.1 hy with hy | hy
      · exact key y hy
      · have := q2 y hy; omega
    rw [List.pairwise_cons, List.pairwise_cons]
    refine ⟨fun y hy => ?_, hall, ?_⟩
    · rcases List.mem_cons.1 hy with rfl | hy
      · exact Nat.le_refl _
      · exact hall y hy
    · rw [List.pairwise_append]
      exact ⟨q1, q3, fun x hx y hy => q4 x hx y (List.mem_cons_of_mem _ hy)⟩
def sumD (s : Nat) : List HT → List Nat → Int
  | q :: Q, d :: D => dpt s q + (d : Int) * cntS s q + sumD s Q D
  | _, _ => 0
theorem sumD_app (s : Nat) : ∀ {Q : List HT} {D : List Nat} (R : List HT) (E : List Nat), D.length = Q.length → sumD s (Q ++ R) (D ++ E) = sumD s Q D + sumD s R E
  | [], [], R, E, _ => by simp [sumD]
  | q :: Q, d :: D, R, E, h => by
    have := sumD_app s (Q := Q) (D := D) R E (by simpa using h)
    simp only [List.cons_append, sumD, this]; omega
theorem Dep.sum {Q : List HT} {D : List Nat} (h : Dep Q D) : ∀ (n : Nat) (t : HT) (s : Nat), Q.length ≤ n + 1 → huff n Q = [t] → dpt s t = sumD s Q D := by
  induction h with
  | one u =>
    intro n t s _ ht
    rw [huff_small (by simp)] at ht
    injection ht with ht
    rw [ht]; simp [sumD]
  | step h1 h2 h3 h4 h5 ih =>
    rename_i a b s1 s2 d1 d2 e
    intro n t s hl ht
    cases n with
    | zero => simp at hl
    | succ n =>
      have h' : huff n (insK HT.wt (s1 ++ s2) (.br (a.wt + b.wt) a b)) = [t] := ht
      rw [h1] at h'
      rw [ih n t s (by simp at hl ⊢; omega) h', sumD_app s _ _ h3]
      simp only [sumD]
      rw [sumD_app s _ _ h3]
      have e1 : dpt s (.br (a.wt + b.wt) a b) = dpt s a + cntS s a + (dpt s b + cntS s b) := rfl
      have e2 : cntS s (.br (a.wt + b.wt) a b) = cntS s a + cntS s b := rfl
      rw [e1, e2, Int.mul_add, Int.natCast_add, Int.add_mul, Int.add_mul]
      omega
end Go.Fw

set_option linter.unusedSimpArgs false
set_option linter.unusedVariables false
set_option maxRecDepth 4000
namespace Go.Fw
open Go.Proofs Go.RowKit
/-! Light weights: no word is too long. -/
def phi : Nat → Nat
  | 0 => 1
  | 1 => 2
  | n + 2 => phi (n + 1) + phi n
theorem phi_succ : ∀ n, phi n ≤ phi (n + 1)
  | 0 => by decide
  | 1 => by decide
  | n + 2 => by
    have := phi_succ n
    have e : phi (n + 2 + 1) = phi (n + 2) + phi (n + 1) := rfl
    omega
theorem phi_mono {a b : Nat} (h : a ≤ b) : phi a ≤ phi b := by
  induction h with
  | refl => exact Nat.le_refl _
  | step h ih => exact Nat.le_trans ih (phi_succ _)
def FT : HT → Prop
  | .leaf w _ => 1 ≤ w
  | .br w a b => FT a ∧ FT b ∧ (phi (max a.ht b.ht + 1) : Int) ≤ w
theorem FT.le : ∀ {t : HT}, FT t → (phi t.ht : Int) ≤ t.wt
  | .leaf w s, h => h
  | .br w a b, h => h.2.2
def kidsLe (y : Int) : HT → Prop
  | .leaf _ _ => True
  | .br _ a b => a.wt ≤ y ∧ b.wt ≤ y
structure FQ (Q : List HT) : Prop where
  ft : ∀ t ∈ Q, FT t
  top : ∃ y : Int, (∀ t ∈ Q, y ≤ t.wt) ∧ ∀ t ∈ Q, kidsLe y t
theorem ft_pair {y : Int} {c s : HT} (hc : FT c) (hs : FT s) (hk : kidsLe y c) (hy : y ≤ s.wt) : (phi (c.ht + 1) : Int) ≤ c.wt + s.wt := by
  have h1 := hc.le
  have h2 := hs.le
  have h0 : 1 ≤ phi s.ht := phi_mono (a := 0) (Nat.zero_le _)
  match c, hc, hk, h1 with
  | .leaf w j, hc, _, h1 =>
    have e : phi ((HT.leaf w j).ht + 1) = 2 := rfl
    have : (1 : Int) ≤ w := hc
    rw [e]
    show (2 : Int) ≤ w + s.wt
    omega
  | .br w a b, hc, hk, h1 =>
    have e : (HT.br w a b).ht = max a.ht b.ht + 1 := rfl
    rw [e] at h1 ⊢
    have e2 : phi (max a.ht b.ht + 1 + 1) = phi (max a.ht b.ht + 1) + phi (max a.ht b.ht) := rfl
    have ha := hc.1.le
    have hb := hc.2.1.le
    have hk1 : a.wt ≤ y := hk.1
    have hk2 : b.wt ≤ y := hk.2
    rw [e2]
    rcases Nat.le_total a.ht b.ht with h | h
    · rw [Nat.max_eq_right h] at *; omega
    · rw [Nat.max_eq_left h] at *; omega
theorem FQ.step {a b : HT} {Q : List HT} (h : FQ (a :: b :: Q)) (hs : Srtd HT.wt (a :: b :: Q)) : FQ (insK HT.wt Q (.br (a.wt + b.wt) a b)) := by
  obtain ⟨y, h1, h2⟩ := h.top
  unfold Srtd at hs
  rw [List.pairwise_cons, List.pairwise_cons] at hs
  have hab : a.wt ≤ b.wt := hs.1 b (by simp)
  have fa := h.ft a (by simp)
  have fb := h.ft b (by simp)
  have ya := h1 a (by simp)
  have yb := h1 b (by simp)
  have pa : 1 ≤ phi a.ht := phi_mono (a := 0) (Nat.zero_le _)
  have la := fa.le
  refine ⟨fun t ht => ?_, b.wt, fun t ht => ?_, fun t ht => ?_⟩
  · rcases insK_memH.1 ht with rfl | ht
    · refine ⟨fa, fb, ?_⟩
      rcases Nat.le_total a.ht b.ht with h | h
      · rw [Nat.max_eq_right h]
        have := ft_pair fb fa (h2 b (by simp)) ya
        omega
      · rw [Nat.max_eq_left h]
        exact ft_pair fa fb (h2 a (by simp)) yb
    · exact h.ft t (by simp [ht])
  · rcases insK_memH.1 ht with rfl | ht
    · show b.wt ≤ a.wt + b.wt; omega
    · exact hs.2.1 t ht
  · rcases insK_memH.1 ht with rfl | ht
    · exact ⟨hab, Int.le_refl _⟩
    · have := h2 t (by simp [ht])
      cases t with
      | leaf w s => trivial
      | br w c d => exact ⟨Int.le_trans this.1 yb, Int.le_trans this.2 yb⟩
theorem FQ.huff : ∀ (n : Nat) (Q : List HT), Srtd HT.wt Q → FQ Q → FQ (huff n Q)
  | 0, Q, _, h => h
  | n + 1, [], _, h => h
  | n + 1, [a], _, h => h
  | n + 1, a :: b :: Q, hs, h => FQ.huff n _ (insH_srtd hs.tail2 _) (h.step hs)
theorem FQ.init (f : List Int) : FQ (srtK HT.wt (leafs f 0)) := by
  have hm : ∀ t ∈ srtK HT.wt (leafs f 0), ∃ x j, t = .leaf x j ∧ 0 < x := fun t ht => by
    obtain ⟨x, j, e, h, _⟩ := leafs_mem (((srtK_same (k := HT.wt) (leafs f 0)).mem t).2 ht)
    exact ⟨x, j, e, h⟩
  refine ⟨fun t ht => ?_, 0, fun t ht => ?_, fun t ht => ?_⟩
  · obtain ⟨x, j, rfl, h⟩ := hm t ht
    show 1 ≤ x; omega
  · obtain ⟨x, j, rfl, h⟩ := hm t ht
    show 0 ≤ x; omega
  · obtain ⟨x, j, rfl, h⟩ := hm t ht
    trivial
end Go.Fw

set_option linter.unusedSimpArgs false
set_option linter.unusedVariables false
set_option maxRecDepth 4000
namespace Go.Fw
open Go.Proofs Go.RowKit
theorem hok_of {f : List Int} {L : Nat} (hf : ∀ x ∈ f, 0 ≤ x ∧ x ≤ 1048576) (hu : usedN f ≤ 2 ^ L) : HOk 20 f L := ⟨fun x hx => (hf x hx).1, fun x hx => (hf x hx).2, hu⟩
theorem lengthsP_of {f : List Int} {L : Nat} (hf : ∀ x ∈ f, 0 ≤ x ∧ x ≤ 1048576) (hn : f.length ≤ 300) (h1 : 1 ≤ L) (h15 : L ≤ 15) (hu : usedN f ≤ 2 ^ L) : lengthsP f L = (lenF 20 f L, 0) := by
  unfold lengthsP
  rw [if_neg (by omega), if_neg (no_bad hf), Int.toNat_natCast, if_neg (by omega)]
end Go.Fw

set_option linter.unusedSimpArgs false
set_option linter.unusedVariables false
set_option maxRecDepth 4000
namespace Go.Fw
open Go.Proofs Go.RowKit
/-! Kraft, the program's and the document's. -/
theorem Try.enters57 : Enters Try.prog 57 := enters_of Try.func57 rfl (by kernel_rfl)
theorem Try.enters64 : Enters Try.prog 64 := enters_of Try.func64 rfl (by kernel_rfl)
theorem ishl_kr {x : Int} (h1 : 1 ≤ x) (h2 : x ≤ 15) : ishl .i64 1 (15 - x) = ((krT x : Nat) : Int) := by
  obtain ⟨n, rfl⟩ := Int.eq_ofNat_of_zero_le (show 0 ≤ x by omega)
  have : ∀ L : Fin 16, 1 ≤ L.1 → ishl .i64 1 (15 - (L.1 : Int)) = ((krT (L.1 : Int) : Nat) : Int) := by decide
  exact this ⟨n, by omega⟩ (by show 1 ≤ n; omega)
set_option maxHeartbeats 2000000 in
theorem kraft_ok (w0 : World) (A : St) (l : List Int) (v : Value) (hv : InView A l v) (hl : l.length ≤ 1000) : ACalls Try.prog w0 57 #[v] A (fin (.int .i64 (kr l : Nat)) A) := by
  refine call_E (l := [v]) Try.enters57 Try.func57 rfl (Nat.le_of_ble_eq_true rfl) fun hw hbd => ?_
  have hlen : ∀ X, lenU X (some (.slice 3)) v = some (.int .i64 l.length, X) := View.lenX hv
  simp (maxSteps := 1000000) (disch := first | omega | (simp only [z1, z2, z3, z4, z5, z6, z7] <;> omega) | fail) only [go_sem, Try.ntmps57, Try.results57, hlen]
  refine aw_loop (fun k x A' => ∃ (ρ : Nat → Value) (i : Nat), x = E 25 ρ [] ∧ A' = A ∧ k = l.length - i ∧ i ≤ l.length ∧ ρ 3 = .int .i64 (kr (l.take i) : Nat) ∧ ρ 6 = v ∧ ρ 7 = .int .i64 l.length ∧ ρ 8 = .int .i64 i) l.length
    ⟨_, 0, rfl, rfl, rfl, Nat.zero_le _, rfl, rfl, rfl, rfl⟩ ?_
  rintro k x A' ⟨ρ, i, rfl, rfl, hk, hi, g3, g6, g7, g8⟩
  refine aw_of ?_
  have hkl := kr_le (l.take i)
  have htl : (l.take i).length ≤ i := List.length_take_le ..
  by_cases hend : i = l.length
  · have e1 : ¬ ((i : Int) < l.length) := by omega
    rw [hend, List.take_length] at g3
    simp (maxSteps := 1000000) (disch := first | omega | (simp only [z1, z2, z3, z4, z5, z6, z7] <;> omega) | fail) only [go_sem, g3, g6, g7, g8, e1, Try.results57]
    exact gc_here ⟨rfl, rfl⟩
  have e1 : ((i : Int) < l.length) := by omega
  obtain ⟨n, hx⟩ : ∃ x, l[i]? = some x := ⟨_, List.getElem?_eq_getElem (by omega)⟩
  obtain ⟨pb, po, hb1, hb2, hb3, cells, e', md, hb4, hb5⟩ := View.at1 (P := Try.prog) (e := 3) hv Try.sz3 (i64E_at _ i n hx)
  have hkt := krT_le n
  have hs : kr (l.take (i + 1)) = kr (l.take i) + krT n := by rw [List.take_add_one, hx]; exact kr_snoc _ _
  by_cases h1 : n ≥ 1
  · by_cases h2 : n ≤ 15
    · have hsh := ishl_kr h1 h2
      simp (maxSteps := 1000000) (disch := first | omega | (simp only [z1, z2, z3, z4, z5, z6, z7] <;> omega) | fail) only [go_sem, g3, g6, g7, g8, e1, hb3, hb4, hb5, h1, h2, hsh]
      refine ⟨k - 1, by omega, _, i + 1, rfl, by omega, by omega, ?_, ?_, ?_, ?_⟩
      · simp (maxSteps := 1000000) (disch := first | omega | (simp only [z1, z2, z3, z4, z5, z6, z7] <;> omega) | fail) only [go_sem]
        rw [hs]; rfl
      · simp (maxSteps := 1000000) (disch := first | omega | (simp only [z1, z2, z3, z4, z5, z6, z7] <;> omega) | fail) only [go_sem, g6]
      · simp (maxSteps := 1000000) (disch := first | omega | (simp only [z1, z2, z3, z4, z5, z6, z7] <;> omega) | fail) only [go_sem, g7]
      · simp (maxSteps := 1000000) (disch := first | omega | (simp only [z1, z2, z3, z4, z5, z6, z7] <;> omega) | fail) only [go_sem]
        rfl
    · have hz : krT n = 0 := if_neg (by omega)
      simp (maxSteps := 1000000) (disch := first | omega | (simp only [z1, z2, z3, z4, z5, z6, z7] <;> omega) | fail) only [go_sem, g3, g6, g7, g8, e1, hb3, hb4, hb5, h1, h2]
      refine ⟨k - 1, by omega, _, i + 1, rfl, by omega, by omega, ?_, ?_, ?_, ?_⟩
      · simp (maxSteps := 1000000) (disch := first | omega | (simp only [z1, z2, z3, z4, z5, z6, z7] <;> omega) | fail) only [go_sem, g3]
        rw [hs, hz]; rfl
      · simp (maxSteps := 1000000) (disch := first | omega | (simp only [z1, z2, z3, z4, z5, z6, z7] <;> omega) | fail) only [go_sem, g6]
      · simp (maxSteps := 1000000) (disch := first | omega | (simp only [z1, z2, z3, z4, z5, z6, z7] <;> omega) | fail) only [go_sem, g7]
      · simp (maxSteps := 1000000) (disch := first | omega | (simp only [z1, z2, z3, z4, z5, z6, z7] <;> omega) | fail) only [go_sem]
        rfl
  · have hz : krT n = 0 := if_neg (by omega)
    simp (maxSteps := 1000000) (disch := first | omega | (simp only [z1, z2, z3, z4, z5, z6, z7] <;> omega) | fail) only [go_sem, g3, g6, g7, g8, e1, hb3, hb4, hb5, h1]
    refine ⟨k - 1, by omega, _, i + 1, rfl, by omega, by omega, ?_, ?_, ?_, ?_⟩
    · simp (maxSteps := 1000000) (disch := first | omega | (simp only [z1, z2, z3, z4, z5, z6, z7] <;> omega) | fail) only [go_sem, g3]
      rw [hs, hz]; rfl
    · simp (maxSteps := 1000000) (disch := first | omega | (simp only [z1, z2, z3, z4, z5, z6, z7] <;> omega) | fail) only [go_sem, g6]
    · simp (maxSteps := 1000000) (disch := first | omega | (simp only [z1, z2, z3, z4, z5, z6, z7] <;> omega) | fail) only [go_sem, g7]
    · simp (maxSteps := 1000000) (disch := first | omega | (simp only [z1, z2, z3, z4, z5, z6, z7] <;> omega) | fail) only [go_sem]
      rfl
set_option maxHeartbeats 2000000 in
theorem rkraft_ok (w0 : World) (A : St) (l : List Int) (v : Value) (hv : InView A l v) (hl : l.length ≤ 1000) : ACalls Try.prog w0 64 #[v] A (fin (.int .i64 (kr l : Nat)) A) := by
  refine call_E (l := [v]) Try.enters64 Try.func64 rfl (Nat.le_of_ble_eq_true rfl) fun hw hbd => ?_
  have hlen : ∀ X, lenU X (some (.slice 3)) v = some (.int .i64 l.length, X) := View.lenX hv
  simp (maxSteps := 1000000) (disch := first | omega | (simp only [z1, z2, z3, z4, z5, z6, z7] <;> omega) | fail) only [go_sem, Try.ntmps64, Try.results64]
  refine aw_loop (fun k x A' => ∃ (ρ : Nat → Value) (i : Nat), x = E 32 ρ [] ∧ A' = A ∧ k = l.length - i ∧ i ≤ l.length ∧ ρ 0 = v ∧ ρ 3 = .int .i64 (kr (l.take i) : Nat) ∧ ρ 4 = .int .i64 i) l.length
    ⟨_, 0, rfl, rfl, rfl, Nat.zero_le _, rfl, rfl, rfl⟩ ?_
  rintro k x A' ⟨ρ, i, rfl, rfl, hk, hi, g0, g3, g4⟩
  refine aw_of ?_
  have hkl := kr_le (l.take i)
  have htl : (l.take i).length ≤ i := List.length_take_le ..
  by_cases hend : i = l.length
  · have e1 : ¬ ((i : Int) < l.length) := by omega
    rw [hend, List.take_length] at g3
    simp (maxSteps := 1000000) (disch := first | omega | (simp only [z1, z2, z3, z4, z5, z6, z7] <;> omega) | fail) only [go_sem, g0, g3, g4, hlen, e1, Try.results64]
    exact gc_here ⟨rfl, rfl⟩
  have e1 : ((i : Int) < l.length) := by omega
  obtain ⟨n, hx⟩ : ∃ x, l[i]? = some x := ⟨_, List.getElem?_eq_getElem (by omega)⟩
  obtain ⟨pb, po, hb1, hb2, hb3, cells, e', md, hb4, hb5⟩ := View.at1 (P := Try.prog) (e := 3) hv Try.sz3 (i64E_at _ i n hx)
  have hkt := krT_le n
  have hs : kr (l.take (i + 1)) = kr (l.take i) + krT n := by rw [List.take_add_one, hx]; exact kr_snoc _ _
  by_cases h1 : n ≥ 1
  · by_cases h2 : n ≤ 15
    · have hsh := ishl_kr h1 h2
      simp (maxSteps := 1000000) (disch := first | omega | (simp only [z1, z2, z3, z4, z5, z6, z7] <;> omega) | fail) only [go_sem, g0, g3, g4, hlen, e1, hb3, hb4, hb5, h1, h2, hsh]
      refine ⟨k - 1, by omega, _, i + 1, rfl, by omega, by omega, ?_, ?_, ?_⟩
      · simp (maxSteps := 1000000) (disch := first | omega | (simp only [z1, z2, z3, z4, z5, z6, z7] <;> omega) | fail) only [go_sem, g0]
      · simp (maxSteps := 1000000) (disch := first | omega | (simp only [z1, z2, z3, z4, z5, z6, z7] <;> omega) | fail) only [go_sem]
        rw [hs]; rfl
      · simp (maxSteps := 1000000) (disch := first | omega | (simp only [z1, z2, z3, z4, z5, z6, z7] <;> omega) | fail) only [go_sem]
        rfl
    · have hz : krT n = 0 := if_neg (by omega)
      simp (maxSteps := 1000000) (disch := first | omega | (simp only [z1, z2, z3, z4, z5, z6, z7] <;> omega) | fail) only [go_sem, g0, g3, g4, hlen, e1, hb3, hb4, hb5, h1, h2]
      refine ⟨k - 1, by omega, _, i + 1, rfl, by omega, by omega, ?_, ?_, ?_⟩
      · simp (maxSteps := 1000000) (disch := first | omega | (simp only [z1, z2, z3, z4, z5, z6, z7] <;> omega) | fail) only [go_sem, g0]
      · simp (maxSteps := 1000000) (disch := first | omega | (simp only [z1, z2, z3, z4, z5, z6, z7] <;> omega) | fail) only [go_sem, g3]
        rw [hs, hz]; rfl
      · simp (maxSteps := 1000000) (disch := first | omega | (simp only [z1, z2, z3, z4, z5, z6, z7] <;> omega) | fail) only [go_sem]
        rfl
  · have hz : krT n = 0 := if_neg (by omega)
    simp (maxSteps := 1000000) (disch := first | omega | (simp only [z1, z2, z3, z4, z5, z6, z7] <;> omega) | fail) only [go_sem, g0, g3, g4, hlen, e1, hb3, hb4, hb5, h1]
    refine ⟨k - 1, by omega, _, i + 1, rfl, by omega, by omega, ?_, ?_, ?_⟩
    · simp (maxSteps := 1000000) (disch := first | omega | (simp only [z1, z2, z3, z4, z5, z6, z7] <;> omega) | fail) only [go_sem, g0]
    · simp (maxSteps := 1000000) (disch := first | omega | (simp only [z1, z2, z3, z4, z5, z6, z7] <;> omega) | fail) only [go_sem, g3]
      rw [hs, hz]; rfl
    · simp (maxSteps := 1000000) (disch := first | omega | (simp only [z1, z2, z3, z4, z5, z6, z7] <;> omega) | fail) only [go_sem]
      rfl
end Go.Fw
