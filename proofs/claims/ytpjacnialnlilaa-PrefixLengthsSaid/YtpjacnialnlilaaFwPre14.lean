import Derived.Test.YtpjacnialnlilaaFwPre13
set_option linter.unusedSimpArgs false
set_option linter.unusedVariables false
set_option maxRecDepth 4000
namespace Go.Fw
open Go.Proofs Go.RowKit
/-! depths of the document: what it answers. -/
theorem Try.enters28 : Enters Try.prog 28 := enters_of Try.func28 rfl (by kernel_rfl)
theorem DI.block {A A' : St} {o : List Int} {ov : Value} {l : List HT} {v : Value} (h : DI A A' o ov l v) (hn : 0 < o.length) : ∃ ob sp, ov = .slice (some ⟨ob, 0, sp⟩) o.length o.length ∧ A.next ≤ ob ∧ ob < A'.next ∧ A'.get ob = intB o ∧ (∀ i : Nat, i < o.length → indexAddrU Try.prog (some (.slice 3)) ov (.int .i64 i) = some (.pointer (some ⟨ob, i, none⟩))) ∧
    ∀ o', o'.length = o.length → DI A (A'.upd ob (intB o')) o' ov l v := by
  have hout := h.out
  rcases hout.2 with ⟨h0, _⟩ | ⟨ob, sp, rfl, h1, h2, h3, h4⟩
  · omega
  · refine ⟨ob, sp, rfl, h2, h3, h4, fun i hi => ?_, fun o' ho' => ⟨h.nx, fun b hb => (get_upd_old (by omega)).trans (h.get b hb), ?_, ?_⟩⟩
    · refine (indexAddr_slice Try.prog .i64 3 ob 0 sp o.length o.length i (by omega) (by omega)).trans ?_
      rw [Try.sz3]; simp
    · exact ⟨by rw [List.length_map, Nat.mul_one], .inr ⟨ob, sp, by rw [ho'], h1, h2, h3, get_upd_same ..⟩⟩
    · obtain ⟨css, ha, hr⟩ := h.row
      refine ⟨css, ha.imp fun t cs ht => ht.kp (KpI.hide (Nat.le_refl _) fun b cs hb hL _ => ⟨hL, get_upd_old fun e => hL (by rw [e]; exact mem_rbL.2 rfl)⟩), hr.keepT (Nat.le_refl _) (fun b cs _ hb hx => get_upd_old fun e => ?_) (Nat.le_refl _)⟩
      rw [e, h4] at hx
      injection hx with hx
      injection hx with _ hx
      exact absurd hx (by decide)
theorem All2.split {α β : Type} {R : α → β → Prop} : ∀ {l1 : List α} {x : α} {l2 : List α} {m : List β}, All2 R (l1 ++ x :: l2) m → ∃ m1 y m2, m = m1 ++ y :: m2 ∧ All2 R l1 m1 ∧ R x y ∧ All2 R l2 m2
  | [], x, l2, _, .cons h t => ⟨[], _, _, rfl, .nil, h, t⟩
  | a :: l1, x, l2, _, .cons h t => by
    obtain ⟨m1, y, m2, rfl, h1, h2, h3⟩ := All2.split (l1 := l1) t
    exact ⟨_ :: m1, y, m2, rfl, .cons h h1, h2, h3⟩
set_option maxHeartbeats 8000000 in
theorem rdepths_ok (w0 : World) (A : St) (f : List Int) (v : Value) (hv : InView A f v) (hf : ∀ x ∈ f, 0 ≤ x ∧ x ≤ 1048576) (hn : f.length ≤ 1000) :
    ACalls Try.prog w0 28 #[v] A (RowPost A (grownP f)) := by
  refine call_E (l := [v]) Try.enters28 Try.func28 rfl (Nat.le_of_ble_eq_true rfl) fun hw hbd => ?_
  have hlen : ∀ X, lenU X (some (.slice 3)) v = some (.int .i64 f.length, X) := View.lenX hv
  have hvx : ∀ A' : St, A.next ≤ A'.next → (∀ b, b < A.next → A'.get b = A.get b) → InView A' f v := fun A' h1 h2 => View.over hv ⟨h1, h2⟩
  simp (maxSteps := 1000000) (disch := (first | omega | (simp only [nx_alloc, nx_upd, len_cons, len_nil, List.length_set, List.length_map, List.length_append] <;> omega) | fail)) only [go_sem, Try.ntmps28, Try.results28]
  have hdi0 : DI A ((A.alloc (.cells [] 3 (some 0))).alloc (.cells [] 89 (some 0))) [] (.slice (some ⟨A.next, 0, none⟩) 0 0) [] (.slice (some ⟨A.next + 1, 0, none⟩) 0 0) := by
    refine ⟨by simp only [nx_alloc]; omega, fun b hb => by rw [get_alloc_old (by simp only [nx_alloc]; omega), get_alloc_old hb], ⟨rfl, .inr ⟨A.next, none, rfl, .inl rfl, Nat.le_refl _, by simp only [nx_alloc]; omega, ?_⟩⟩, [], .nil, rfl, .inr ⟨A.next + 1, none, rfl, .inl rfl, by omega, by simp only [nx_alloc]; omega, get_alloc_same ..⟩⟩
    rw [get_alloc_old (by rw [nx_alloc]; omega)]; exact get_alloc_same ..
  refine cutL 0 (fun a' A' => ∃ (ρ : Nat → Value) (ov lv : Value), a' = E 112 ρ [] ∧ DI A A' (List.replicate f.length 0) ov (leafs f 0) lv ∧ ρ 3 = ov ∧ ρ 4 = lv) ?_ ?_
  · refine aw_loop (fun m x A' => ∃ (ρ : Nat → Value) (i : Nat) (ov lv : Value), x = E 112 ρ [] ∧ m = f.length - i ∧ i ≤ f.length ∧ DI A A' (List.replicate i 0) ov (leafs (f.take i) 0) lv ∧ ρ 0 = v ∧ ρ 3 = ov ∧ ρ 4 = lv ∧ ρ 5 = .int .i64 i) f.length
      ⟨_, 0, _, _, rfl, rfl, Nat.zero_le _, by exact hdi0, rfl, rfl, rfl, rfl⟩ ?_
    clear hdi0
    rintro m x A' ⟨ρ, i, ov, lv, rfl, hm, hi, d, r0, r3, r4, r5⟩
    refine aw_of ?_
    have hlf := leafs_len (f.take i) 0
    have htk : (f.take i).length ≤ i := List.length_take_le ..
    by_cases hend : i = f.length
    · have e1 : ¬ ((i : Int) < (f.length : Int)) := by omega
      rw [hend, List.take_length] at d
      simp (maxSteps := 1000000) (disch := (first | omega | (simp only [nx_alloc, nx_upd, len_cons, len_nil, List.length_set, List.length_map, List.length_append] <;> omega) | fail)) only [go_sem, r0, r3, r4, r5, hlen, e1, exitQ_exit]
      refine ⟨_, ov, lv, rfl, d, ?_, ?_⟩
      · simp (maxSteps := 1000000) (disch := (first | omega | (simp only [nx_alloc, nx_upd, len_cons, len_nil, List.length_set, List.length_map, List.length_append] <;> omega) | fail)) only [go_sem, r3]
      · simp (maxSteps := 1000000) (disch := (first | omega | (simp only [nx_alloc, nx_upd, len_cons, len_nil, List.length_set, List.length_map, List.length_append] <;> omega) | fail)) only [go_sem, r4]
    have e1 : (i : Int) < (f.length : Int) := by omega
    obtain ⟨n, hx⟩ : ∃ x, f[i]? = some x := ⟨_, List.getElem?_eq_getElem (by omega)⟩
    obtain ⟨ov', A2, z1, z2⟩ := d.zero (by rw [List.length_replicate]; omega)
    rw [show List.replicate i (0 : Int) ++ [0] = List.replicate (i + 1) 0 from List.replicate_succ'.symm] at z2
    obtain ⟨pb, po, hb1, hb2, hb3, cells, e', md, hb4, hb5⟩ := View.at1 (P := Try.prog) (e := 3) (hvx A2 z2.nx z2.get) Try.sz3 (i64E_at _ i n hx)
    have htl : (f.take i).length = i := List.length_take_of_le hi
    have hlx : leafs (f.take (i + 1)) 0 = if 0 < n then leafs (f.take i) 0 ++ [.leaf n i] else leafs (f.take i) 0 := by
      rw [List.take_add_one, hx]; show leafs (f.take i ++ [n]) 0 = _
      rw [leafs_app, htl, Nat.zero_add]
    by_cases h0 : n > 0
    · rw [if_pos h0] at hlx
      obtain ⟨v', A3, y1, y2⟩ := z2.leaf n i (by omega)
      rw [← hlx] at y2
      simp (maxSteps := 1000000) (disch := (first | omega | (simp only [nx_alloc, nx_upd, len_cons, len_nil, List.length_set, List.length_map, List.length_append] <;> omega) | fail)) only [go_sem, r0, r3, r4, r5, hlen, e1, z1, hb3, hb4, hb5, h0, y1]
      refine ⟨m - 1, by omega, _, i + 1, ov', v', rfl, by omega, by omega, y2, ?_, ?_, ?_, ?_⟩
      · simp (maxSteps := 1000000) (disch := (first | omega | (simp only [nx_alloc, nx_upd, len_cons, len_nil, List.length_set, List.length_map, List.length_append] <;> omega) | fail)) only [go_sem, r0]
      · simp (maxSteps := 1000000) (disch := (first | omega | (simp only [nx_alloc, nx_upd, len_cons, len_nil, List.length_set, List.length_map, List.length_append] <;> omega) | fail)) only [go_sem]
      · simp (maxSteps := 1000000) (disch := (first | omega | (simp only [nx_alloc, nx_upd, len_cons, len_nil, List.length_set, List.length_map, List.length_append] <;> omega) | fail)) only [go_sem]
      · simp (maxSteps := 1000000) (disch := (first | omega | (simp only [nx_alloc, nx_upd, len_cons, len_nil, List.length_set, List.length_map, List.length_append] <;> omega) | fail)) only [go_sem]
        rfl
    · rw [if_neg h0] at hlx
      rw [← hlx] at z2
      simp (maxSteps := 1000000) (disch := (first | omega | (simp only [nx_alloc, nx_upd, len_cons, len_nil, List.length_set, List.length_map, List.length_append] <;> omega) | fail)) only [go_sem, r0, r3, r4, r5, hlen, e1, z1, hb3, hb4, hb5, h0]
      refine ⟨m - 1, by omega, _, i + 1, ov', lv, rfl, by omega, by omega, z2, ?_, ?_, ?_, ?_⟩
      · simp (maxSteps := 1000000) (disch := (first | omega | (simp only [nx_alloc, nx_upd, len_cons, len_nil, List.length_set, List.length_map, List.length_append] <;> omega) | fail)) only [go_sem, r0]
      · simp (maxSteps := 1000000) (disch := (first | omega | (simp only [nx_alloc, nx_upd, len_cons, len_nil, List.length_set, List.length_map, List.length_append] <;> omega) | fail)) only [go_sem]
      · simp (maxSteps := 1000000) (disch := (first | omega | (simp only [nx_alloc, nx_upd, len_cons, len_nil, List.length_set, List.length_map, List.length_append] <;> omega) | fail)) only [go_sem, r4]
      · simp (maxSteps := 1000000) (disch := (first | omega | (simp only [nx_alloc, nx_upd, len_cons, len_nil, List.length_set, List.length_map, List.length_append] <;> omega) | fail)) only [go_sem]
        rfl
  clear hdi0
  rintro a' A' ⟨ρ, ov, lv, rfl, d, r3, r4⟩
  simp only [blockQ_exit, if_true, thenQ_normal]
  rw [wpA_seq]
  have hlf := leafs_len f 0
  refine cutW (fun a' A' => ∃ (ρ : Nat → Value) (o : List Int) (ov lv : Value), a' = E 112 ρ [] ∧ DI A A' o ov (leafs f 0) lv ∧ o.length = f.length ∧ ((leafs f 0).length = 1 → o = grownP f) ∧ ((leafs f 0).length ≠ 1 → o = List.replicate f.length 0) ∧ ρ 3 = ov ∧ ρ 4 = lv) ?_ ?_
  · obtain ⟨css, ha, hr⟩ := d.row
    have hcl := ha.length
    have hll : ∀ X, lenU X (some (.slice 89)) lv = some (.int .i64 (leafs f 0).length, X) := fun X => by rw [hcl]; exact View.lenX hr.view X
    by_cases h1 : (leafs f 0).length = 1
    · obtain ⟨t, ht⟩ := List.length_eq_one_iff.1 h1
      obtain ⟨w, j, rfl, hw1, hw2, _, hj⟩ := leafs_mem (by rw [ht]; exact List.mem_singleton.2 rfl : t ∈ leafs f 0)
      have hjf : j < f.length := by omega
      generalize hoo : List.replicate f.length (0 : Int) = oo at d
      have hol : oo.length = f.length := by rw [← hoo, List.length_replicate]
      obtain ⟨ob, sp, rfl, hb1, hb2, hb3, hb4, hb5⟩ := d.block (by omega)
      have d2 := hb5 (grownP f) ((grownP_len f).trans hol.symm)
      have hgr := one_grown ht
      rw [hoo] at hgr
      obtain ⟨cs0, hc0, sv0, rfl, hs0⟩ := ha.get (by rw [ht]; rfl : (leafs f 0)[0]? = some (.leaf w j))
      have h2 : ∀ cs ∈ css, cs.length = 2 := fun cs hc => by obtain ⟨t, _, ht⟩ := ha.mem_r cs hc; exact ht.wt.w2.len
      obtain ⟨b1, o1, q1, q2, ce1, e1', n1, q3, q4, q5, q6⟩ := tl_at hr.view h2 hc0
      obtain ⟨b2, o2, p1, p2, p3, ce2, e2', n2, p4, p5⟩ := View.at1 (P := Try.prog) (e := 3) ((hs0.view).ge (hide_ge _ _)) Try.sz3 (by rfl : (symC (.leaf w j))[0]? = some (.int .i64 j))
      have e1 : (((leafs f 0).length : Nat) : Int) = 1 := by omega
      have q2' : indexAddrU Try.prog (some (.slice 89)) lv (.int .i64 0) = _ := q2 .i64
      have p3' : indexAddrU Try.prog (some (.slice 3)) sv0 (.int .i64 0) = _ := p3 .i64
      have q6' : ce1[o1 + 1]? = some sv0 := q6
      have hb4' := hb4 j (by omega)
      have hst := map_set oo j 1
      rw [← hgr] at hst
      unfold intB at hb3 d2
      simp (maxSteps := 1000000) (disch := (first | omega | (simp only [nx_alloc, nx_upd, len_cons, len_nil, List.length_set, List.length_map, List.length_append] <;> omega) | fail)) only [go_sem, r3, r4, hll, e1, q2', q3, q6', p3', p4, p5, hb4', hb3, hst]
      rw [normQ_normal]
      refine ⟨_, grownP f, _, lv, rfl, d2, grownP_len f, fun _ => rfl, fun h => absurd h1 h, ?_, ?_⟩
      · simp (maxSteps := 1000000) (disch := (first | omega | (simp only [nx_alloc, nx_upd, len_cons, len_nil, List.length_set, List.length_map, List.length_append] <;> omega) | fail)) only [go_sem, r3]
      · simp (maxSteps := 1000000) (disch := (first | omega | (simp only [nx_alloc, nx_upd, len_cons, len_nil, List.length_set, List.length_map, List.length_append] <;> omega) | fail)) only [go_sem, r4]
    · have e1 : ¬ (((leafs f 0).length : Nat) : Int) = 1 := by omega
      simp (maxSteps := 1000000) (disch := (first | omega | (simp only [nx_alloc, nx_upd, len_cons, len_nil, List.length_set, List.length_map, List.length_append] <;> omega) | fail)) only [go_sem, r3, r4, hll, e1]
      rw [normQ_normal]
      refine ⟨_, _, ov, lv, rfl, d, List.length_replicate, fun h => absurd h h1, fun _ => rfl, ?_, ?_⟩
      · simp (maxSteps := 1000000) (disch := (first | omega | (simp only [nx_alloc, nx_upd, len_cons, len_nil, List.length_set, List.length_map, List.length_append] <;> omega) | fail)) only [go_sem, r3]
      · simp (maxSteps := 1000000) (disch := (first | omega | (simp only [nx_alloc, nx_upd, len_cons, len_nil, List.length_set, List.length_map, List.length_append] <;> omega) | fail)) only [go_sem, r4]
  clear r3 r4 d
  rintro a' A' ⟨ρ, o, ov, lv, rfl, d, hol, ho1, ho2, r3, r4⟩
  simp (maxSteps := 1000000) (disch := (first | omega | (simp only [nx_alloc, nx_upd, len_cons, len_nil, List.length_set, List.length_map, List.length_append] <;> omega) | fail)) only [go_sem]
  have hq1 : QOk f.length [] (leafs f 0) := by
    have h := QOk.init (fun x hx => (hf x hx).2) hn
    refine ⟨fun t ht => h.nn t (.inl (((srtK_same (k := HT.wt) (leafs f 0)).mem t).1 (ht.elim (fun h => by cases h) id))), ?_, ?_⟩
    · have := h.wt; rw [sumG_srtK] at this; omega
    · have := h.cnt; rw [sumG_srtK] at this; omega
  have hc1 : ∀ s, sumG (cntS s) (leafs f 0) ≤ 1 := fun s => by rw [leafs_cnt]; split <;> omega
  refine aw_loop (fun m x A' => ∃ (ρ : Nat → Value) (o : List Int) (ov : Value) (l : List HT) (lv : Value), x = E 112 ρ [] ∧ m = l.length ∧ l.length ≤ f.length ∧ DI A A' o ov l lv ∧ o.length = f.length ∧ QOk f.length [] l ∧ (∀ s, sumG (cntS s) l ≤ 1) ∧ (∀ k, l.length ≤ k + 1 → huff k (srtK HT.wt l) = hufP f) ∧ ((leafs f 0).length = 1 → l.length = 1 ∧ o = grownP f) ∧ ((leafs f 0).length ≠ 1 → ∀ s, s < f.length → o[s]? = some (sumG (dpt s) l)) ∧ ρ 3 = ov ∧ ρ 4 = lv) (leafs f 0).length
    ⟨_, o, ov, _, lv, rfl, rfl, by omega, d, hol, hq1, hc1, fun k hk => ?_, fun h => ⟨h, ho1 h⟩, fun h s hs => ?_, r3, r4⟩ ?_
  · unfold hufP
    rcases Nat.le_total k f.length with h | h
    · exact (huff_fuel k _ (by rw [srtK_len]; exact hk) _ h).symm
    · exact huff_fuel f.length _ (by rw [srtK_len]; omega) _ h
  · rw [ho2 h, List.getElem?_replicate, if_pos hs]
    congr 1
    have : ∀ l : List HT, (∀ t ∈ l, dpt s t = 0) → sumG (dpt s) l = 0 := fun l => by
      induction l with
      | nil => intro _; rfl
      | cons t l ih =>
        intro h
        rw [sumG_cons, h t (List.mem_cons_self ..), ih fun q hq => h q (List.mem_cons_of_mem _ hq)]; rfl
    exact (this _ fun t ht => by obtain ⟨x, j, rfl, _⟩ := leafs_mem ht; rfl).symm
  clear r3 r4 d hol ho1 ho2 hq1 hc1
  rintro m x A' ⟨ρ, o, ov, l, lv, rfl, rfl, hlf2, d, hol, hq, hc1, hhf, ho1, ho2, r3, r4⟩
  refine aw_of ?_
  obtain ⟨css, ha, hr⟩ := d.row
  have hcl := ha.length
  have hll : ∀ X, lenU X (some (.slice 89)) lv = some (.int .i64 l.length, X) := fun X => by rw [hcl]; exact View.lenX hr.view X
  have hql := hq.len
  rw [List.length_nil, Nat.zero_add] at hql
  by_cases hgt : 1 < l.length
  rotate_left
  · have e1 : ¬ ((l.length : Nat) : Int) > 1 := by omega
    simp (maxSteps := 1000000) (disch := (first | omega | (simp only [nx_alloc, nx_upd, len_cons, len_nil, List.length_set, List.length_map, List.length_append] <;> omega) | fail)) only [go_sem, r3, r4, hll, e1, Try.results28]
    have hog : o = grownP f := by
      by_cases h1 : (leafs f 0).length = 1
      · exact (ho1 h1).2
      · refine out_grown h1 hol fun s hs => ?_
        have e2 : hufP f = l := by
          rw [← hhf 0 (by omega)]
          show srtK HT.wt l = l
          match l, hgt with
          | [], _ => rfl
          | [t], _ => rfl
          | a :: b :: l, h => exact absurd (by simp) h
        rw [e2]; exact ho2 h1 s hs
    refine gc_here ⟨ov, rfl, ⟨d.nx, d.get⟩, ?_⟩
    rw [← hog]
    unfold InRow
    rw [flat_i64]
    exact d.out
  have e1 : ((l.length : Nat) : Int) > 1 := by omega
  have h1 : ¬ (leafs f 0).length = 1 := fun h => by have := (ho1 h).1; omega
  have ho := ho2 h1
  simp (maxSteps := 1000000) (disch := (first | omega | (simp only [nx_alloc, nx_upd, len_cons, len_nil, List.length_set, List.length_map, List.length_append] <;> omega) | fail)) only [go_sem, r3, r4, hll, e1]
  have hne : l ≠ [] := fun h => by rw [h] at hgt; simp at hgt
  obtain ⟨ob, sp, hovv, hb1, hb2, hb3, hb4, hb5⟩ := d.block (by rw [hol]; omega)
  refine (rlight_ok w0 A' l css lv (ha.imp fun t cs h => h.wt) hr.view hne (by omega)).mono ?_
  rintro e B ⟨l1, a, l2, rfl, rfl, rfl, m1, m2⟩
  obtain ⟨c1, cs1, c2, rfl, ha1, hx1, ha2⟩ := ha.split
  have tk := rtake_ok w0 B c1 c2 cs1 lv (fun c hc => by obtain ⟨t, _, ht⟩ := ha.mem_r c hc; exact ht.wt.w2) hr.view (by omega)
  rw [← ha1.length] at tk
  simp (maxSteps := 1000000) (disch := (first | omega | (simp only [nx_alloc, nx_upd, len_cons, len_nil, List.length_set, List.length_map, List.length_append] <;> omega) | fail)) only [go_sem]
  refine tk.mono ?_
  clear tk hr hll
  rintro e A1 ⟨rv, rfl, ov1, rr⟩
  obtain ⟨sva, rfl, ra⟩ := hx1
  have hsa : cell1 sva = true := by rcases ra.2 with ⟨_, rfl⟩ | ⟨_, _, rfl, _⟩ <;> rfl
  simp (maxSteps := 1000000) (disch := (first | omega | (simp only [nx_alloc, nx_upd, len_cons, len_nil, List.length_set, List.length_map, List.length_append] <;> omega) | fail)) only [go_sem, hsa]
  have oB1 : Over A1 ((A1.alloc (.cells [.int .i64 0, .slice none 0 0] 89 (some 0))).upd A1.next (some (.cells [.int .i64 a.wt, sva] 89 (some 0)))) := ((Over.refl A1).alloc _).upd (Nat.le_refl _) _
  have gB1 : ((A1.alloc (.cells [.int .i64 0, .slice none 0 0] 89 (some 0))).upd A1.next (some (.cells [.int .i64 a.wt, sva] 89 (some 0)))).get A1.next = _ := get_upd_same ..
  have nB1 : ((A1.alloc (.cells [.int .i64 0, .slice none 0 0] 89 (some 0))).upd A1.next (some (.cells [.int .i64 a.wt, sva] 89 (some 0)))).next = A1.next + 1 := rfl
  generalize (A1.alloc (.cells [.int .i64 0, .slice none 0 0] 89 (some 0))).upd A1.next (some (.cells [.int .i64 a.wt, sva] 89 (some 0))) = B1 at oB1 gB1 nB1 ⊢
  have hs1 := srtK_split m1 m2
  obtain ⟨q1, wa, ea, fa⟩ := hq.cut
  have ha' := All2.app ha1 ha2
  have hcs : ∀ s, cntS s a + sumG (cntS s) (l1 ++ l2) ≤ 1 := fun s => by have := hc1 s; rw [sumG_cut] at this; exact this
  have hds : ∀ s, sumG (dpt s) (l1 ++ a :: l2) = dpt s a + sumG (dpt s) (l1 ++ l2) := fun s => sumG_cut _ _ _ _
  have hll' : (l1 ++ a :: l2).length = (l1 ++ l2).length + 1 := by simp; omega
  have hcl' := ha'.length
  generalize hl' : l1 ++ l2 = l' at *
  generalize hc' : c1 ++ c2 = css' at *
  have hne' : l' ≠ [] := fun h => by rw [h] at hll'; rw [hll'] at hgt; simp at hgt
  have rr1 := rr.over oB1
  refine (rlight_ok w0 B1 l' css' rv (ha'.imp fun t cs h => h.wt) rr1.view hne' (by omega)).mono ?_
  rintro e B0 ⟨k1, b, k2, rfl, rfl, rfl, n1, n2⟩
  obtain ⟨d1, cs2, d2, rfl, hd1, hx2, hd2⟩ := ha'.split
  have tk := rtake_ok w0 B0 d1 d2 cs2 rv (fun c hc => by obtain ⟨t, _, ht⟩ := ha'.mem_r c hc; exact ht.wt.w2) rr1.view (by omega)
  rw [← hd1.length] at tk
  simp (maxSteps := 1000000) (disch := (first | omega | (simp only [nx_alloc, nx_upd, len_cons, len_nil, List.length_set, List.length_map, List.length_append] <;> omega) | fail)) only [go_sem]
  refine tk.mono ?_
  clear tk rr rr1
  rintro e A2 ⟨rv2, rfl, ov2, rr2⟩
  obtain ⟨svb, rfl, rb⟩ := hx2
  have hsb : cell1 svb = true := by rcases rb.2 with ⟨_, rfl⟩ | ⟨_, _, rfl, _⟩ <;> rfl
  simp (maxSteps := 1000000) (disch := (first | omega | (simp only [nx_alloc, nx_upd, len_cons, len_nil, List.length_set, List.length_map, List.length_append] <;> omega) | fail)) only [go_sem, hsb]
  have oB2 : Over A2 ((A2.alloc (.cells [.int .i64 0, .slice none 0 0] 89 (some 0))).upd A2.next (some (.cells [.int .i64 b.wt, svb] 89 (some 0)))) := ((Over.refl A2).alloc _).upd (Nat.le_refl _) _
  have gB2 : ((A2.alloc (.cells [.int .i64 0, .slice none 0 0] 89 (some 0))).upd A2.next (some (.cells [.int .i64 b.wt, svb] 89 (some 0)))).get A2.next = _ := get_upd_same ..
  have nB2 : ((A2.alloc (.cells [.int .i64 0, .slice none 0 0] 89 (some 0))).upd A2.next (some (.cells [.int .i64 b.wt, svb] 89 (some 0)))).next = A2.next + 1 := rfl
  generalize (A2.alloc (.cells [.int .i64 0, .slice none 0 0] 89 (some 0))).upd A2.next (some (.cells [.int .i64 b.wt, svb] 89 (some 0))) = B2 at oB2 gB2 nB2 ⊢
  have gA1 : B2.get A1.next = some (.cells [.int .i64 a.wt, sva] 89 (some 0)) := by
    rw [oB2.get _ (by have := ov2.next; omega), ov2.get _ (by omega)]; exact gB1
  have oB : Over B B2 := ((ov1.trans oB1).trans ov2).trans oB2
  have ra2 : Row B2 3 1 A.next (symC a) a.syms.length sva := (ra.ge (hide_ge _ _)).over oB
  have rb2 : Row B2 3 1 A.next (symC b) b.syms.length svb := (rb.ge (hide_ge _ _)).over oB
  obtain ⟨q2, wb, eb, fb⟩ := q1.cut
  have pa := cnt_pos a
  have pb := cnt_pos b
  have na0 : 0 ≤ sumG HT.wt (k1 ++ k2) := sumG_nn _ fun t ht => (q2.nn t (.inr ht)).1
  have nc0 := len_cnt (k1 ++ k2)
  have hwc := hq.wt
  have hcc := hq.cnt
  rw [sumG_cut] at ea fa
  have hal : (a.syms.length : Int) = a.cnt := rfl
  have hbl : (b.syms.length : Int) = b.cnt := rfl
  obtain ⟨v1, A4, y1, y2, y3, o4, v2, A5, z1, z2, z3, o5, r5, n5⟩ := both_heap (.cells [.int .i64 0, .slice none 0 0] 89 (some 0)) (a.wt + b.wt) ra2 rb2 (symC_cell a) (symC_cell b) (by omega) (by omega)
  have o3 : Over B2 ((B2.alloc (.cells [.int .i64 0, .slice none 0 0] 89 (some 0))).upd B2.next (some (.cells [.int .i64 (a.wt + b.wt), .slice none 0 0] 89 (some 0)))) := ((Over.refl B2).alloc _).upd (Nat.le_refl _) _
  have gA3 := (o3.get A1.next (by have := ov2.next; have := oB2.next; omega)).trans gA1
  have gB4 := (o4.get A2.next (by omega)).trans gB2
  have s1 := fun X => storeC_val (A := X) (b := B2.next) (off := 1) (k := 0) (cs := [.int .i64 (a.wt + b.wt), .slice none 0 0]) (e := 89) y3 (by omega) (by simp)
  have s2 := fun X => storeC_val (A := X) (b := B2.next) (off := 1) (k := 0) (cs := [.int .i64 (a.wt + b.wt), v1]) (e := 89) z3 (by omega) (by simp)
  simp (maxSteps := 1000000) (disch := (first | omega | (simp only [nx_alloc, nx_upd, len_cons, len_nil, List.length_set, List.length_map, List.length_append] <;> omega) | fail)) only [go_sem, gA1, gB2, gA3, gB4, y1, y2, s1, s2, z1, z2]
  have g10 : (A5.upd B2.next (some (.cells [.int .i64 (a.wt + b.wt), v2] 89 (some 0)))).get B2.next = some (.cells [.int .i64 (a.wt + b.wt), v2] 89 (some 0)) := get_upd_same ..
  have n5' : B2.next + 1 ≤ (A5.upd B2.next (some (.cells [.int .i64 (a.wt + b.wt), v2] 89 (some 0)))).next := n5
  generalize A5.upd B2.next (some (.cells [.int .i64 (a.wt + b.wt), v2] 89 (some 0))) = B5 at o5 r5 g10 n5' ⊢
  clear y1 y2 z1 z2 o4 o3 gA3 gB4 s1 s2
  have oBB := oB.trans o5
  have hbo : ob < B2.next := Nat.lt_of_lt_of_le hb2 oB.next
  have gob : B5.get ob = intB o := (oBB.get ob hb2).trans hb3
  have hsy : symC a ++ symC b = (a.syms ++ b.syms).map fun s : Nat => Value.int .i64 (s : Int) := by unfold symC; rw [List.map_append]
  have hsl : a.syms.length + b.syms.length = (a.syms ++ b.syms).length := (List.length_append ..).symm
  have hsn : ∀ s ∈ a.syms ++ b.syms, s < f.length := fun s hs => by
    rcases List.mem_append.1 hs with hs | hs
    · exact wa.2 s hs
    · exact wb.2 s hs
  rw [hsl] at r5
  rw [hsy] at r5
  have hS : (a.syms ++ b.syms).length ≤ 1000 := by rw [← hsl]; omega
  have hcnt : ∀ s, ((a.syms ++ b.syms).count s : Int) = cntS s a + cntS s b := fun s => by rw [List.count_append, cnt_syms, cnt_syms]; omega
  have hdb : ∀ s, 0 ≤ sumG (dpt s) (l1 ++ a :: l2) ∧ sumG (dpt s) (l1 ++ a :: l2) ≤ 1000 := fun s => by
    have h1 := dpt_sum (hc1 s)
    have h2 := hq.cnt
    rw [sumG_nil] at h2
    exact ⟨sumG_nn _ fun t _ => dpt_nn s t, by omega⟩
  generalize hss : a.syms ++ b.syms = ss at *
  refine aw_loop (fun m x A' => ∃ (ρ : Nat → Value) (i : Nat), x = E 112 ρ [] ∧ m = ss.length - i ∧ i ≤ ss.length ∧ A' = B5.upd ob (intB (incL (ss.take i) o)) ∧ ρ 3 = ov ∧ ρ 9 = rv2 ∧ ρ 10 = .pointer (some ⟨B2.next, 0, none⟩) ∧ ρ 11 = .int .i64 i) ss.length
    ⟨_, 0, rfl, rfl, Nat.zero_le _, (upd_id gob).symm, r3, rfl, rfl, rfl⟩ ?_
  rintro m x A' ⟨ρ', i, rfl, hm, hi, hA', r3', r9, r10, r11⟩
  refine aw_of ?_
  have hol2 := incL_len (ss.take i) o
  have gC : A'.get ob = intB (incL (ss.take i) o) := by rw [hA']; exact get_upd_same ..
  have gC10 : A'.get B2.next = some (.cells [.int .i64 (a.wt + b.wt), v2] 89 (some 0)) := by rw [hA', get_upd_old (by omega)]; exact g10
  have rC : Row A' 3 1 (B2.next + 1) (ss.map fun s : Nat => Value.int .i64 (s : Int)) ss.length v2 := by
    rw [hA']; exact r5.keep (Nat.le_refl _) (fun b hb hlo _ => get_upd_old (by omega)) (Nat.le_refl _)
  have hlv : ∀ X, lenU X (some (.slice 3)) v2 = some (.int .i64 ss.length, X) := View.lenX rC.view
  by_cases hend : i = ss.length
  rotate_left
  · have e2 : (i : Int) < (ss.length : Nat) := by omega
    obtain ⟨s, hs⟩ : ∃ s, ss[i]? = some s := ⟨_, List.getElem?_eq_getElem (by omega)⟩
    obtain ⟨b2, o2, p1, p2, p3, ce2, e2', n2', p4, p5⟩ := View.at1 (P := Try.prog) (e := 3) rC.view Try.sz3 (show (ss.map fun s : Nat => Value.int .i64 (s : Int))[i]? = some (.int .i64 (s : Int)) by rw [List.getElem?_map, hs]; rfl)
    have hsf := hsn s (List.mem_of_getElem? hs)
    have hix := hb4 s (by omega)
    have hx := incL_at (ss.take i) o s _ (ho s hsf)
    have hcb : (ss.take i).count s ≤ 1000 := Nat.le_trans List.count_le_length (Nat.le_trans (List.length_take_le ..) (by omega))
    have hdb' := hdb s
    have hinc := incL_snoc (ss.take i) s o
    rw [List.getD_eq_getElem?_getD, hx, Option.getD_some] at hinc
    have hxx : 0 ≤ sumG (dpt s) (l1 ++ a :: l2) + ((ss.take i).count s : Nat) ∧ sumG (dpt s) (l1 ++ a :: l2) + ((ss.take i).count s : Nat) ≤ 2000 := by omega
    generalize sumG (dpt s) (l1 ++ a :: l2) + ((ss.take i).count s : Nat) = xx at hx hinc hxx
    have hx' : ((incL (ss.take i) o).map (Value.int .i64 ·))[s]? = some (.int .i64 xx) := by rw [List.getElem?_map, hx]; rfl
    have hst := map_set (incL (ss.take i) o) s (xx + 1)
    rw [← hinc] at hst
    have htk : ss.take (i + 1) = ss.take i ++ [s] := by rw [List.take_add_one, hs]; rfl
    unfold intB at gC
    simp (maxSteps := 1000000) (disch := (first | omega | (simp only [nx_alloc, nx_upd, len_cons, len_nil, List.length_set, List.length_map, List.length_append] <;> omega) | fail)) only [go_sem, r3', r9, r10, r11, gC10, hlv, e2]
    refine aw_draw2 [⟨false, [], [0]⟩, ⟨false, [], [0]⟩, ⟨false, [1], [0]⟩, ⟨false, [], [0]⟩, ⟨false, [1, 2, 3], [0]⟩, ⟨false, [1, 2, 3, 4], [0]⟩, ⟨false, [], [0]⟩, ⟨false, [], [0]⟩, ⟨false, [7], [0]⟩, ⟨false, [], [0]⟩, ⟨false, [7, 8, 9], [0]⟩, ⟨false, [7, 8, 9, 10], [0]⟩, ⟨false, [6, 7, 8, 9, 10, 11], [0]⟩, ⟨false, [6, 7, 8, 9, 10, 11, 12], [0]⟩, ⟨false, [6, 7, 8, 9, 10, 11, 12, 13], [0]⟩, ⟨false, [0, 1, 2, 3, 4, 5, 6, 7, 8, 9, 10, 11, 12, 13, 14], [0]⟩, ⟨true, [0, 1, 2, 3, 4, 5, 6, 7, 8, 9, 10, 11, 12, 13, 14, 15], [0]⟩] [A', A'.upd ob (intB (incL (ss.take i ++ [s]) o))] 1 (by kernel_rfl) (by kernel_rfl) rfl ?_
    simp (maxSteps := 1000000) (disch := (first | omega | (simp only [nx_alloc, nx_upd, len_cons, len_nil, List.length_set, List.length_map, List.length_append] <;> omega) | fail)) only [go_sem, r3', r10, r11, gC10, p3, p4, p5, hix, gC, hx', hst]
    refine ⟨m - 1, by omega, _, i + 1, rfl, by omega, by omega, ?_, ?_, ?_, ?_, ?_⟩
    · rw [hA', upd_upd, htk]
    · simp (maxSteps := 1000000) (disch := (first | omega | (simp only [nx_alloc, nx_upd, len_cons, len_nil, List.length_set, List.length_map, List.length_append] <;> omega) | fail)) only [go_sem, r3']
    · simp (maxSteps := 1000000) (disch := (first | omega | (simp only [nx_alloc, nx_upd, len_cons, len_nil, List.length_set, List.length_map, List.length_append] <;> omega) | fail)) only [go_sem, r9]
    · simp (maxSteps := 1000000) (disch := (first | omega | (simp only [nx_alloc, nx_upd, len_cons, len_nil, List.length_set, List.length_map, List.length_append] <;> omega) | fail)) only [go_sem, r10]
    · simp (maxSteps := 1000000) (disch := (first | omega | (simp only [nx_alloc, nx_upd, len_cons, len_nil, List.length_set, List.length_map, List.length_append] <;> omega) | fail)) only [go_sem]
      rfl
  have e2 : ¬ ((i : Int) < (ss.length : Nat)) := by omega
  rw [hend, List.take_length] at hA' hol2
  have hnA : A'.next = B5.next := by rw [hA']; rfl
  have hrbo : ∀ b, b ∈ rbL ov → b = ob := fun b hb => by
    have := mem_rbL.1 hb
    rw [hovv] at this
    cases this; rfl
  have gAo : ∀ b, b ≠ ob → A'.get b = B5.get b := fun b hb => by rw [hA']; exact get_upd_old hb
  have oC : Over (B.upd ob (intB (incL ss o))) A' := ⟨by rw [nx_upd, hnA]; exact oBB.next, fun c hc => by
    rw [hA', St.get_upd, St.get_upd]
    split
    · rfl
    · exact oBB.get c hc⟩
  have dC : DI A A' (incL ss o) ov (k1 ++ k2) rv2 := by
    refine ⟨by have := d.nx; have := oBB.next; omega, fun c hc => ?_, (hb5 _ hol2).out.over oC, d1 ++ d2, (All2.app hd1 hd2).imp fun t cs ht => ht.kp (KpI.hide (by rw [hnA]; exact oBB.next) fun c cs hc hL _ => ⟨hL, ?_⟩), ?_⟩
    · rw [gAo c (by omega), oBB.get c (by have := d.nx; omega)]; exact d.get c hc
    · have hne : c ≠ ob := fun e => hL (mem_rbL.2 (by rw [hovv, e]; rfl))
      rw [gAo c hne]; exact oBB.get c hc
    · have hlo : B.next ≤ B0.next := Nat.le_trans ov1.next oB1.next
      exact ((rr2.over oB2).over o5).keep (by rw [hnA]; exact Nat.le_refl _) (fun c _ hc _ => gAo c (by omega)) (by have := d.nx; omega)
  have hsyb : symC (.br (a.wt + b.wt) a b) = ss.map fun s : Nat => Value.int .i64 (s : Int) := by unfold symC HT.syms; rw [hss]
  have hsyl : (HT.br (a.wt + b.wt) a b).syms.length = ss.length := by unfold HT.syms; rw [hss]
  have htr : TrR (A'.hide (rbL ov)) A.next (.br (a.wt + b.wt) a b) [.int .i64 (a.wt + b.wt), v2] := by
    refine ⟨v2, rfl, ?_⟩
    rw [hsyb, hsyl]
    exact rC.keep (by rw [hide_next]; exact Nat.le_refl _) (fun c _ hc _ => by rw [hide_get, if_neg fun hm => by have := hrbo c hm; omega]) (by have := d.nx; have := oB.next; omega)
  have hkl : (k1 ++ b :: k2).length = (k1 ++ k2).length + 1 := by simp; omega
  obtain ⟨lv', A7, x1, x2⟩ := dC.push htr (by omega)
  have hcv2 : cell1 v2 = true := by rcases rC.2 with ⟨_, rfl⟩ | ⟨_, _, rfl, _⟩ <;> rfl
  simp (maxSteps := 1000000) (disch := (first | omega | (simp only [nx_alloc, nx_upd, len_cons, len_nil, List.length_set, List.length_map, List.length_append] <;> omega) | fail)) only [go_sem, r3', r9, r10, r11, gC10, hlv, e2, hcv2, x1]
  have hs2 := srtK_split n1 n2
  refine ⟨(k1 ++ k2).length + 1, by omega, _, incL ss o, ov, (k1 ++ k2) ++ [.br (a.wt + b.wt) a b], lv', rfl, by simp; omega, by simp; simp at hlf2 hll' hkl; omega, x2, hol2.trans hol, q2.push wa wb ?_ ?_, fun s => ?_, fun k hk => ?_, fun h => absurd h h1, fun _ s hs => ?_, ?_, ?_⟩
  · rw [sumG_nil]; omega
  · rw [sumG_nil]; omega
  · have h1 := hcs s
    rw [sumG_cut] at h1
    rw [sumG_app, sumG_cons, sumG_nil]
    show _ + (cntS s a + cntS s b + 0) ≤ 1
    omega
  · rw [srtK_app, ← hhf (k + 1) (by rw [List.length_append, List.length_singleton] at hk; omega), hs1, hs2]
    rfl
  · rw [incL_at ss o s _ (ho s hs), hcnt, hds, sumG_cut, sumG_app (dpt s) (k1 ++ k2), sumG_cons, sumG_nil]
    show some _ = some (_ + (dpt s a + cntS s a + (dpt s b + cntS s b) + 0))
    congr 1; omega
  · simp (maxSteps := 1000000) (disch := (first | omega | (simp only [nx_alloc, nx_upd, len_cons, len_nil, List.length_set, List.length_map, List.length_append] <;> omega) | fail)) only [go_sem, r3']
  · simp (maxSteps := 1000000) (disch := (first | omega | (simp only [nx_alloc, nx_upd, len_cons, len_nil, List.length_set, List.length_map, List.length_append] <;> omega) | fail)) only [go_sem]
end Go.Fw
