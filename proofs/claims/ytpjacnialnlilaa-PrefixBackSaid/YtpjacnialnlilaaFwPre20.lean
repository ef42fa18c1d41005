import Derived.Test.YtpjacnialnlilaaFwPre19
set_option linter.unusedSimpArgs false
set_option linter.unusedVariables false
set_option maxRecDepth 4000
namespace Go.Fw
open Go.Proofs Go.RowKit
/-! The heavier one lies no deeper; few and light ones lie not deep. -/
theorem insK_where {x : HT} : ∀ {Q : List HT}, Srtd HT.wt Q → ∃ s1 s2, Q = s1 ++ s2 ∧ insK HT.wt Q x = s1 ++ x :: s2 ∧ (∀ y ∈ s1, y.wt ≤ x.wt) ∧ ∀ y ∈ s2, x.wt < y.wt
  | [], _ => ⟨[], [], rfl, rfl, fun y hy => (by cases hy), fun y hy => (by cases hy)⟩
  | q :: Q, h => by
    have h' := h
    unfold Srtd at h'
    rw [List.pairwise_cons] at h'
    by_cases hq : q.wt ≤ x.wt
    · obtain ⟨s1, s2, e1, e2, h1, h2⟩ := insK_where (x := x) (Q := Q) h'.2
      refine ⟨q :: s1, s2, by rw [e1]; rfl, by rw [insK, if_pos hq, e2]; rfl, fun y hy => ?_, h2⟩
      rcases List.mem_cons.1 hy with rfl | hy
      · exact hq
      · exact h1 y hy
    · refine ⟨[], q :: Q, rfl, by rw [insK, if_neg hq]; rfl, fun y hy => (by cases hy), fun y hy => ?_⟩
      rcases List.mem_cons.1 hy with rfl | hy
      · omega
      · have := h'.1 y hy; omega
inductive Dep : List HT → List Nat → Prop
  | one (t : HT) : Dep [t] [0]
  | step {a b : HT} {s1 s2 : List HT} {d1 d2 : List Nat} {e : Nat} : insK HT.wt (s1 ++ s2) (.br (a.wt + b.wt) a b) = s1 ++ .br (a.wt + b.wt) a b :: s2 → (∀ y ∈ s2, a.wt + b.wt < y.wt) → d1.length = s1.length → d2.length = s2.length →
      Dep (s1 ++ .br (a.wt + b.wt) a b :: s2) (d1 ++ e :: d2) → Dep (a :: b :: (s1 ++ s2)) ((e + 1) :: (e + 1) :: (d1 ++ d2))
theorem Dep.len {Q : List HT} {D : List Nat} (h : Dep Q D) : D.length = Q.length := by
  cases h with
  | one t => rfl
  | step h1 h2 h3 h4 h5 => simp [h3, h4]
theorem Dep.inv {Q : List HT} {D : List Nat} (h : Dep Q D) {a b : HT} {R : List HT} (hQ : Q = a :: b :: R) : ∃ s1 s2 d1 d2 e, R = s1 ++ s2 ∧ D = (e + 1) :: (e + 1) :: (d1 ++ d2) ∧ insK HT.wt R (.br (a.wt + b.wt) a b) = s1 ++ .br (a.wt + b.wt) a b :: s2 ∧ (∀ y ∈ s2, a.wt + b.wt < y.wt) ∧ d1.length = s1.length ∧ d2.length = s2.length ∧ Dep (s1 ++ .br (a.wt + b.wt) a b :: s2) (d1 ++ e :: d2) := by
  cases h with
  | one t => cases hQ
  | step h1 h2 h3 h4 h5 =>
    injection hQ with e1 e2
    injection e2 with e2 e3
    subst e1 e2 e3
    exact ⟨_, _, _, _, _, rfl, rfl, h1, h2, h3, h4, h5⟩
theorem Dep.all : ∀ (n : Nat) (Q : List HT), Q.length = n + 1 → Srtd HT.wt Q → ∃ D, Dep Q D
  | 0, Q, h, _ => by
    obtain ⟨t, rfl⟩ := List.length_eq_one_iff.1 h
    exact ⟨_, .one t⟩
  | n + 1, [], h, _ => by simp at h
  | n + 1, [a], h, _ => by simp at h
  | n + 1, a :: b :: Q, h, hs => by
    obtain ⟨s1, s2, e1, e2, h1, h2⟩ := insK_where (x := .br (a.wt + b.wt) a b) hs.tail2
    subst e1
    obtain ⟨D, hD⟩ := Dep.all n (s1 ++ .br (a.wt + b.wt) a b :: s2) (by simp at h ⊢; omega) (by rw [← e2]; exact insH_srtd hs.tail2 _)
    have hl := hD.len
    rw [List.length_append, List.length_cons] at hl
    obtain ⟨e, he⟩ : ∃ e, D[s1.length]? = some e := ⟨_, List.getElem?_eq_getElem (by omega)⟩
    have hsp : D = D.take s1.length ++ e :: D.drop (s1.length + 1) := by
      have : D.drop s1.length = e :: D.drop (s1.length + 1) := by
        rw [List.drop_eq_getElem_cons (by omega)]
        congr 1
        exact (List.getElem?_eq_some_iff.1 he).2
      rw [← this, List.take_append_drop]
    rw [hsp] at hD
    exact ⟨_, .step e2 h2 (List.length_take_of_le (by omega)) (by rw [List.length_drop]; omega) hD⟩
theorem Dep.mono : ∀ (n : Nat) {Q : List HT} {D : List Nat}, Q.length ≤ n → Srtd HT.wt Q → Dep Q D → D.Pairwise fun x y => y ≤ x
  | 0, Q, D, hl, _, h => by cases h <;> simp at hl
  | n + 1, Q, D, hl, hs, h => by
    cases h with
    | one t => simp
    | step h1 h2 h3 h4 h5 =>
    rename_i a b s1 s2 d1 d2 e
    have hs1 : Srtd HT.wt (s1 ++ .br (a.wt + b.wt) a b :: s2) := by rw [← h1]; exact insH_srtd hs.tail2 _
    have p1 := Dep.mono n (by simp at hl ⊢; omega) hs1 h5
    rw [List.pairwise_append, List.pairwise_cons] at p1
    obtain ⟨q1, ⟨q2, q3⟩, q4⟩ := p1
    have hab : a.wt ≤ b.wt := by unfold Srtd at hs; rw [List.pairwise_cons] at hs; exact hs.1 b (by simp)
    have hb : ∀ y ∈ s1 ++ s2, b.wt ≤ y.wt := by unfold Srtd at hs; rw [List.pairwise_cons, List.pairwise_cons] at hs; exact hs.2.1
    have key : ∀ x ∈ d1, x ≤ e + 1 := by
      match s1, d1, h3, h5, q1 with
      | [], [], _, _, _ => intro x hx; cases hx
      | [c], [x], _, h5, _ =>
        obtain ⟨t1, t2, f1, f2, e', _, hD, _⟩ := h5.inv rfl
        injection hD with e1 e2
        injection e2 with e2 _
        intro y hy
        rw [List.mem_singleton.1 hy]; omega
      | c :: c' :: s1, x :: x' :: d1, h3, h5, q1 =>
        have h5' := h5
        obtain ⟨t1, t2, f1, f2, e', hR0, hD, hi0, g2, g3, g4, g5⟩ := h5'.inv rfl
        have hR : s1 ++ .br (a.wt + b.wt) a b :: s2 = t1 ++ t2 := hR0
        have hi : insK HT.wt (t1 ++ t2) (.br (c.wt + c'.wt) c c') = t1 ++ .br (c.wt + c'.wt) c c' :: t2 := by rw [← hR]; exact hi0
        injection hD with e1 e2
        injection e2 with e2 e3
        rw [List.pairwise_cons] at q1
        have hx : x ≤ e + 1 := by
          have hs2 : Srtd HT.wt (s1 ++ .br (a.wt + b.wt) a b :: s2) := (show Srtd HT.wt (c :: c' :: (s1 ++ .br (a.wt + b.wt) a b :: s2)) from hs1).tail2
          rw [hR] at hs2
          have p2 := Dep.mono n (by
            have := congrArg List.length hR
            simp at hl this ⊢; omega) (by rw [← hi]; exact insH_srtd hs2 _) g5
          rw [List.pairwise_append] at p2
          have hlt : s1.length < t1.length := by
            rcases Nat.lt_or_ge s1.length t1.length with h | h
            · exact h
            · exfalso
              have hat : (s1 ++ .br (a.wt + b.wt) a b :: s2)[s1.length]? = some (.br (a.wt + b.wt) a b) := at_app ..
              rw [hR, List.getElem?_append_right h] at hat
              have := g2 _ (List.mem_of_getElem? hat)
              have hc := hb c (by simp)
              have hc' := hb c' (by simp)
              rw [show (HT.br (a.wt + b.wt) a b).wt = a.wt + b.wt from rfl] at this
              omega
          have hd1 : d1.length = s1.length := by simp at h3; omega
          have hat : (d1 ++ e :: d2)[d1.length]? = some e := at_app ..
          rw [show d1 ++ e :: d2 = f1 ++ f2 from e3, List.getElem?_append_left (by omega)] at hat
          have := p2.2.2 e (List.mem_of_getElem? hat) e' (by simp)
          omega
        intro y hy
        rcases List.mem_cons.1 hy with rfl | hy
        · exact hx
        · have := q1.1 y hy; omega
    have hall : ∀ y ∈ d1 ++ d2, y ≤ e + 1 := fun y hy => by
      rcases List.mem_append.1 hy with hy | hy
      · exact key y hy
      · have := q2 y hy; omega
    rw [List.pairwise_cons, List.pairwise_cons]
    refine ⟨fun y hy => ?_, hall, ?_⟩
    · rcases List.mem_cons.1 hy with rfl | hy
      · exact Nat.le_refl _
      · exact hall y hy
    · rw [List.pairwise_append]
      exact ⟨q1, q3, fun x hx y hy => q4 x hx y (List.mem_cons_of_mem _ hy)⟩
def sumD (s : Nat) : List HT → List Nat → Int
  | q :: Q, d :: D => dpt s q + (d : Int) * cntS s q + sumD s Q D
  | _, _ => 0
theorem sumD_app (s : Nat) : ∀ {Q : List HT} {D : List Nat} (R : List HT) (E : List Nat), D.length = Q.length → sumD s (Q ++ R) (D ++ E) = sumD s Q D + sumD s R E
  | [], [], R, E, _ => by simp [sumD]
  | q :: Q, d :: D, R, E, h => by
    have := sumD_app s (Q := Q) (D := D) R E (by simpa using h)
    simp only [List.cons_append, sumD, this]; omega
theorem Dep.sum {Q : List HT} {D : List Nat} (h : Dep Q D) : ∀ (n : Nat) (t : HT) (s : Nat), Q.length ≤ n + 1 → huff n Q = [t] → dpt s t = sumD s Q D := by
  induction h with
  | one u =>
    intro n t s _ ht
    rw [huff_small (by simp)] at ht
    injection ht with ht
    rw [ht]; simp [sumD]
  | step h1 h2 h3 h4 h5 ih =>
    rename_i a b s1 s2 d1 d2 e
    intro n t s hl ht
    cases n with
    | zero => simp at hl
    | succ n =>
      have h' : huff n (insK HT.wt (s1 ++ s2) (.br (a.wt + b.wt) a b)) = [t] := ht
      rw [h1] at h'
      rw [ih n t s (by simp at hl ⊢; omega) h', sumD_app s _ _ h3]
      simp only [sumD]
      rw [sumD_app s _ _ h3]
      have e1 : dpt s (.br (a.wt + b.wt) a b) = dpt s a + cntS s a + (dpt s b + cntS s b) := rfl
      have e2 : cntS s (.br (a.wt + b.wt) a b) = cntS s a + cntS s b := rfl
      rw [e1, e2, Int.mul_add, Int.natCast_add, Int.add_mul, Int.add_mul]
      omega
theorem sumD_none {s : Nat} : ∀ {Q : List HT} {D : List Nat}, (∀ q ∈ Q, dpt s q = 0) → sumG (cntS s) Q ≤ 0 → sumD s Q D = 0
  | [], D, _, _ => by cases D <;> rfl
  | q :: Q, [], _, _ => rfl
  | q :: Q, d :: D, h, hc => by
    rw [sumG_cons] at hc
    have h1 := cntS_nn s q
    have h2 := sumG_nn (cntS s) (l := Q) fun t _ => cntS_nn s t
    have e : cntS s q = 0 := by omega
    have ih := sumD_none (s := s) (Q := Q) (D := D) (fun t ht => h t (List.mem_cons_of_mem _ ht)) (by omega)
    simp only [sumD, h q (by simp), e, ih]; simp
theorem sumD_one {s : Nat} : ∀ {Q : List HT} {D : List Nat} {p : Nat} {x : HT} {d : Nat}, (∀ q ∈ Q, dpt s q = 0) → sumG (cntS s) Q ≤ 1 → Q[p]? = some x → cntS s x = 1 → D[p]? = some d → sumD s Q D = d
  | q :: Q, d0 :: D, 0, x, d, h, hc, hx, hcx, hd => by
    simp at hx hd
    subst hx hd
    rw [sumG_cons] at hc
    have h2 := sumG_nn (cntS s) (l := Q) fun t _ => cntS_nn s t
    have ih := sumD_none (s := s) (Q := Q) (D := D) (fun t ht => h t (List.mem_cons_of_mem _ ht)) (by omega)
    simp only [sumD, h q (by simp), hcx, ih]; simp
  | q :: Q, d0 :: D, p + 1, x, d, h, hc, hx, hcx, hd => by
    rw [List.getElem?_cons_succ] at hx hd
    rw [sumG_cons] at hc
    have h1 := cntS_nn s q
    have h3 := sumG_mem (fun t => cntS_nn s t) (List.mem_of_getElem? hx)
    have e : cntS s q = 0 := by omega
    have ih := sumD_one (s := s) (Q := Q) (D := D) (fun t ht => h t (List.mem_cons_of_mem _ ht)) (by omega) hx hcx hd
    simp only [sumD, h q (by simp), e, ih]; simp
/-- What comes more often lies no deeper. -/
theorem order_dpt {f : List Int} {t : HT} (ht : hufP f = [t]) {i k : Nat} {x y : Int} (hi : f[i]? = some x) (hk : f[k]? = some y) (hxy : y < x) (hy : 0 < y) : dpt i t ≤ dpt k t := by
  have mem : ∀ (f : List Int) (o i : Nat) (x : Int), f[i]? = some x → 0 < x → HT.leaf x (o + i) ∈ leafs f o := by
    intro f
    induction f with
    | nil => intro o i x h; cases h
    | cons z f ih =>
      intro o i x h h0
      rw [leafs]
      cases i with
      | zero =>
        simp at h
        subst h
        rw [if_pos h0]; simp
      | succ i =>
        rw [List.getElem?_cons_succ] at h
        have := ih (o + 1) i x h h0
        rw [show o + 1 + i = o + (i + 1) by omega] at this
        split
        · exact List.mem_cons_of_mem _ this
        · exact this
  have m1 : HT.leaf x i ∈ srtK HT.wt (leafs f 0) := ((srtK_same (k := HT.wt) (leafs f 0)).mem _).1 (by have := mem f 0 i x hi (by omega); rwa [Nat.zero_add] at this)
  have m2 : HT.leaf y k ∈ srtK HT.wt (leafs f 0) := ((srtK_same (k := HT.wt) (leafs f 0)).mem _).1 (by have := mem f 0 k y hk hy; rwa [Nat.zero_add] at this)
  have hz : ∀ s, ∀ q ∈ srtK HT.wt (leafs f 0), dpt s q = 0 := fun s q hq => by
    obtain ⟨z, j, rfl, _⟩ := leafs_mem (((srtK_same (k := HT.wt) (leafs f 0)).mem q).2 hq); rfl
  have hc : ∀ s, sumG (cntS s) (srtK HT.wt (leafs f 0)) ≤ 1 := fun s => by rw [sumG_srtK, leafs_cnt]; split <;> omega
  have hlen := srtK_len (k := HT.wt) (leafs f 0)
  have hlf := leafs_len f 0
  have hsd := srtK_srtd (k := HT.wt) (leafs f 0)
  have hh : huff f.length (srtK HT.wt (leafs f 0)) = [t] := ht
  generalize srtK HT.wt (leafs f 0) = Q at *
  have hne : 0 < Q.length := List.length_pos_of_mem m1
  obtain ⟨D, hD⟩ := Dep.all (Q.length - 1) Q (by omega) hsd
  have hmono := Dep.mono Q.length (Nat.le_refl _) hsd hD
  have hsum := fun s => hD.sum f.length t s (by omega) hh
  have hDl := hD.len
  obtain ⟨p, hp⟩ := List.mem_iff_getElem?.1 m1
  obtain ⟨q, hq⟩ := List.mem_iff_getElem?.1 m2
  have hpl := (List.getElem?_eq_some_iff.1 hp).1
  have hql := (List.getElem?_eq_some_iff.1 hq).1
  obtain ⟨dp, hdp⟩ : ∃ d, D[p]? = some d := ⟨_, List.getElem?_eq_getElem (by omega)⟩
  obtain ⟨dq, hdq⟩ : ∃ d, D[q]? = some d := ⟨_, List.getElem?_eq_getElem (by omega)⟩
  rw [hsum i, hsum k, sumD_one (hz i) (hc i) hp (by simp [cntS]) hdp, sumD_one (hz k) (hc k) hq (by simp [cntS]) hdq]
  have hqp : q < p := by
    rcases Nat.lt_trichotomy q p with h | h | h
    · exact h
    · subst h; rw [hp] at hq; injection hq with hq; injection hq with hq _; omega
    · exfalso
      unfold Srtd at hsd
      have := List.pairwise_iff_getElem.1 hsd p q hpl hql h
      rw [(List.getElem?_eq_some_iff.1 hp).2, (List.getElem?_eq_some_iff.1 hq).2] at this
      have h' : x ≤ y := this
      omega
  have := List.pairwise_iff_getElem.1 hmono q p (by omega) (by omega) hqp
  rw [(List.getElem?_eq_some_iff.1 hdp).2, (List.getElem?_eq_some_iff.1 hdq).2] at this
  omega
end Go.Fw
