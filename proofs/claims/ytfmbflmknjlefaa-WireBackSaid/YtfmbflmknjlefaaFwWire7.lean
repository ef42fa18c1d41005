import Derived.Test.YtfmbflmknjlefaaFwWire6
set_option linter.unusedSimpArgs false
set_option linter.unusedVariables false
set_option maxRecDepth 4000
namespace Go.Fw
open Go.Proofs Go.RowKit
theorem Try.enters43 : Enters Try.prog 43 := enters_of Try.func43 rfl (by kernel_rfl)
theorem Try.enters46 : Enters Try.prog 46 := enters_of Try.func46 rfl (by kernel_rfl)
theorem Try.enters47 : Enters Try.prog 47 := enters_of Try.func47 rfl (by kernel_rfl)
theorem Row.keepT {A A' : St} {e sz lo lo' : Nat} {cs : List Value} {len : Nat} {v : Value} (h : Row A e sz lo cs len v) (hn : A.next ≤ A'.next) (hg : ∀ b cs, lo ≤ b → b < A.next → A.get b = some (.cells cs e (some 0)) → A'.get b = A.get b) (hl : lo' ≤ lo) : Row A' e sz lo' cs len v := by
  refine ⟨h.1, ?_⟩
  rcases h.2 with h | ⟨b, sp, rfl, h1, h2, h3, h4⟩
  · exact .inl h
  · exact .inr ⟨b, sp, rfl, h1, by omega, by omega, by rw [hg b cs h2 h3 h4]; exact h4⟩
theorem Row.tag {A : St} {e e' sz lo b : Nat} {cs cs' : List Value} {len : Nat} {v : Value} (h : Row A e sz lo cs len v) (he : e ≠ e') (hb : A.get b = some (.cells cs' e' (some 0))) : rowB v ≠ some b := by
  rcases h.2 with ⟨_, rfl⟩ | ⟨b', sp, rfl, h1, h2, h3, h4⟩
  · exact fun h => by cases h
  · intro h
    injection h with h
    subst h
    rw [hb] at h4
    injection h4 with h4
    injection h4 with _ h4 _
    exact he h4.symm
theorem ReqRow.keepT {A A' : St} {lo lo' sz len : Nat} {cs : List Value} {w : Value} {r : ReqT} {v : Value} (h : ReqRow A lo r v) (hw : Row A 31 sz lo' cs len w) (hn : A.next ≤ A'.next) (hk : ∀ b, lo ≤ b → b < A.next → rowB w ≠ some b → A'.get b = A.get b) : ReqRow A' lo r v := by
  obtain ⟨p, q, u, h1, h2, h3, h4⟩ := h
  refine ⟨p, q, u, h1, Row.keepT h2 hn (fun b cs hb hlt hg => hk b hb hlt (hw.tag (by decide) hg)) (Nat.le_refl _), Row.keepT h3 hn (fun b cs hb hlt hg => hk b hb hlt (hw.tag (by decide) hg)) (Nat.le_refl _), Row.keepT h4 hn (fun b cs hb hlt hg => hk b hb hlt (hw.tag (by decide) hg)) (Nat.le_refl _)⟩
/-- A log that is nobody else's. -/
def LgRow (A : St) (lo : Nat) (l : List ReqT) (v : Value) : Prop := ∃ css : List (List Value), All2 (fun x cs => ReqRow A lo x (.agg cs.toArray)) l css ∧ Row A 31 8 lo css.flatten l.length v
theorem LgRow.keep {A A' : St} {lo lo' : Nat} {l : List ReqT} {v : Value} (h : LgRow A lo l v) (hn : A.next ≤ A'.next) (hk : ∀ b, lo ≤ b → b < A.next → A'.get b = A.get b) (hl : lo' ≤ lo) : LgRow A' lo' l v := by
  obtain ⟨css, h1, h2⟩ := h
  exact ⟨css, h1.imp fun x cs hx => hx.keep hn hk hl, Row.keep h2 hn (fun b _ hb hlt => hk b hb hlt) hl⟩
theorem ReqRow.len {A : St} {lo : Nat} {x : ReqT} {cs : List Value} (h : ReqRow A lo x (.agg cs.toArray)) : cs.length = 8 ∧ cs.all cell1 = true := by
  obtain ⟨rc, h1, h2⟩ := h.req
  injection h1 with h1
  have h1 : cs = rc := by injection h1
  subst h1
  exact ⟨h2.len, h2.cell⟩
theorem LgRow.view {A : St} {lo : Nat} {l : List ReqT} {v : Value} (h : LgRow A lo l v) : RqV A l v := by
  obtain ⟨css, h1, h2⟩ := h
  refine ⟨css, h1.imp fun x cs hx => ?_, fun cs hcs => ?_, Row.view h2⟩
  · obtain ⟨rc, e1, e2⟩ := hx.req
    injection e1 with e1
    have e1 : cs = rc := by injection e1
    subst e1
    exact e2
  · obtain ⟨i, hi, rfl⟩ := List.getElem_of_mem hcs
    have hl := h1.length
    obtain ⟨b, hb, hr⟩ := h1.get (i := i) (a := l[i]'(by omega)) (List.getElem?_eq_getElem (by omega))
    rw [List.getElem?_eq_getElem hi] at hb
    injection hb with hb
    rw [hb]
    exact hr.len.1
theorem rq_push {A : St} {lo : Nat} {l : List ReqT} {v : Value} (h : LgRow A lo l v) {x : ReqT} {xs : List Value} (hx : ReqRow A lo x (.agg xs.toArray)) (hlo : lo ≤ A.next) (hl : l.length ≤ 1048576) :
    ∃ v' A', aappend Try.prog (A.alloc (.cells xs 31 (some 0))) 37 37 v (.slice (some ⟨A.next, 0, none⟩) 1 1) = some (v', A') ∧ LgRow A' lo (l ++ [x]) v' ∧ A'.next = A.next + 2 ∧ ∀ b, b < A.next → rowB v ≠ some b → A'.get b = A.get b := by
  obtain ⟨css, h1, h2⟩ := h
  obtain ⟨x8, xc⟩ := hx.len
  obtain ⟨v', A2, hap, hr2, hn2, hrb, hf2⟩ := row_push (A := A) (sp := none) (c := 1) (xs := xs) Try.el37 Try.underlying37 (by intro k; exact TypeDesc.noConfusion) Try.sz31 Try.byt31 Try.zero31 rfl h2 hlo (by omega) (by omega) xc x8
  refine ⟨v', A2, hap, ⟨css ++ [xs], All2.app (h1.imp fun a cs ha => ha.keepT h2 (by omega) fun b _ hb hne => hf2 b hb hne) (.cons (hx.keepT h2 (by omega) fun b _ hb hne => hf2 b hb hne) .nil), ?_⟩, hn2, hf2⟩
  rw [List.flatten_append, List.length_append]
  simpa using hr2
set_option maxHeartbeats 4000000 in
theorem listR_ok (w0 : World) (A : St) (c : Nat) (r : List Int) (most : Int) (hc : A.get c = some (rdW r)) (hr : RW r) (hm : most ≤ 1000) : ACalls Try.prog w0 43 #[.pointer (some ⟨c, 0, none⟩), .int .i64 most, .func (.func 44) #[.pointer (some ⟨c, 0, none⟩)] #[]] A (RdPost c (fun l A' v => LgRow A' A.next l v) (listR most r) A) := by
  refine call_E Try.enters43 Try.func43 rfl (Nat.le_of_ble_eq_true rfl) fun hw hbd => ?_
  have hcn := (hw c _ hc).1
  rcases h1 : fixL r 1 with ⟨n, t1, e1⟩
  obtain ⟨w1, _, c1, d1, _, _⟩ := fixL_facts hr (by omega) (by omega) h1
  simp (maxSteps := 1000000) (disch := (first | omega | (simp only [nx_alloc, nx_upd, len_cons, len_nil, List.length_set, List.length_map, List.length_append] <;> omega) | fail)) only [go_sem, Try.ntmps43, Try.results43]
  by_cases z1 : e1 = 0
  rotate_left
  · rw [pan_rd (x := e1) (by unfold listR; simp [h1, z1]) z1]
    refine callp (numI_pan w0 A c r 1 hc hr h1 z1) ?_
    simp (maxSteps := 1000000) (disch := (first | omega | (simp only [nx_alloc, nx_upd, len_cons, len_nil, List.length_set, List.length_map, List.length_append] <;> omega) | fail)) only [go_sem, after_pan]
    exact gc_panP hw hc (RdJ.refl hc)
  subst z1
  refine call1 (numI_ok w0 A c r 1 hc hr (by omega) (by omega) h1) ?_
  have j1 := (RdJ.refl hc).upd t1
  obtain ⟨A1, hA1⟩ : ∃ A1, A1 = A.upd c (some (rdW t1)) := ⟨_, rfl⟩
  by_cases hbig : n > most
  · simp (maxSteps := 1000000) (disch := (first | omega | (simp only [nx_alloc, nx_upd, len_cons, len_nil, List.length_set, List.length_map, List.length_append] <;> omega) | fail)) only [go_sem, hbig, ifU]
    rw [pan_rd (x := 111) (by unfold listR; simp [h1, hbig]) (by decide)]
    exact gc_panP hw hc j1
  obtain ⟨k, rfl⟩ := Int.eq_ofNat_of_zero_le c1
  have hlr : listR most r = reqN k [] t1 := by unfold listR; simp [h1, hbig]
  simp (maxSteps := 1000000) (disch := (first | omega | (simp only [nx_alloc, nx_upd, len_cons, len_nil, List.length_set, List.length_map, List.length_append] <;> omega) | fail)) only [go_sem, hbig]
  rw [← hA1]
  rw [← hA1] at j1
  refine aw_loop (fun m x A' => ∃ (ρ : Nat → Value) (i : Nat) (l : List ReqT) (t : List Int) (v : Value), x = E 24 ρ [] ∧ m = k - i ∧ i ≤ k ∧ RdJ A c t A' ∧ RW t ∧ LgRow A' A.next l v ∧ l.length = i ∧ reqN (k - i) l t = listR most r ∧
      ρ 0 = .pointer (some ⟨c, 0, none⟩) ∧ ρ 2 = .func (.func 44) #[.pointer (some ⟨c, 0, none⟩)] #[] ∧ ρ 6 = v ∧ ρ 14 = .int .i64 k ∧ ρ 15 = .int .i64 i) k
    ⟨_, 0, [], t1, _, rfl, rfl, Nat.zero_le _, j1, w1, ⟨[], .nil, Row.nil ..⟩, rfl, hlr.symm, rfl, rfl, rfl, rfl, rfl⟩ ?_
  rintro m x A' ⟨ρ, i, l, t, v, rfl, hk, hi, j, wt, hl, hll, hrn, g0, g2, g6, g14, g15⟩
  refine aw_of ?_
  have jn := j.n
  by_cases hend : i = k
  · have e1 : ¬ ((i : Int) < k) := by omega
    have hfin : listR most r = (l, t, 0) := by rw [← hrn, hend, Nat.sub_self]; rfl
    rw [ok_rd hfin]
    simp (maxSteps := 1000000) (disch := (first | omega | (simp only [nx_alloc, nx_upd, len_cons, len_nil, List.length_set, List.length_map, List.length_append] <;> omega) | fail)) only [go_sem, g0, g2, g6, g14, g15, Try.results43]
    exact gc_here ⟨_, rfl, j.over, hl⟩
  have e1 : ((i : Int) < k) := by omega
  obtain ⟨q, hq⟩ : ∃ q, k - i = q + 1 := ⟨k - i - 1, by omega⟩
  simp (maxSteps := 1000000) (disch := (first | omega | (simp only [nx_alloc, nx_upd, len_cons, len_nil, List.length_set, List.length_map, List.length_append] <;> omega) | fail)) only [go_sem, g0, g2, g6, g14, g15]
  refine (wreq_ok w0 A' c t j.rd wt).mono ?_
  rcases hp : reqP t with ⟨x, s, f⟩
  intro e A2 he
  by_cases hf : f = 0
  rotate_left
  · obtain ⟨rfl, s', rfl⟩ := rd_pan hf he
    rw [pan_rd (x := f) (by rw [← hrn, hq, reqN_stop hp hf]) hf]
    simp (maxSteps := 1000000) (disch := (first | omega | (simp only [nx_alloc, nx_upd, len_cons, len_nil, List.length_set, List.length_map, List.length_append] <;> omega) | fail)) only [go_sem, after_pan]
    exact gc_panP hw hc (j.upd s')
  subst hf
  obtain ⟨v2, rfl, o2, hx2⟩ := rd_ok he
  obtain ⟨_, _, _, _, ws⟩ := reqP_inv wt hp
  have hx2' := hx2
  obtain ⟨p, q', u, rfl, v1, v2, v3⟩ := hx2'
  have j2 := (j.upd s).ext hcn o2
  have hl2 : LgRow A2 A.next l v := hl.keep o2.next (fun b h1 h2 => by rw [o2.get b h2]; exact get_upd_old (by omega)) (Nat.le_refl _)
  obtain ⟨v', A3, hap, hl3, n3, hf3⟩ := rq_push hl2 (hx2.keep (Nat.le_refl _) (fun b _ _ => rfl) jn) j2.n (by omega)
  simp (maxSteps := 1000000) (disch := (first | omega | (simp only [nx_alloc, nx_upd, len_cons, len_nil, List.length_set, List.length_map, List.length_append] <;> omega) | fail)) only [go_sem, g0, g2, g6, g14, g15]
  rw [hap]
  have hne : ∀ b, b < A.next → rowB v ≠ some b := fun b hb => by obtain ⟨_, _, hw2⟩ := hl2; exact hw2.ne hb
  have j3 : RdJ A c s A3 := ⟨by have := j2.n; omega, fun b hb hbc => by rw [hf3 b (by have := j2.n; omega) (hne b hb)]; exact j2.ov b hb hbc, by rw [hf3 c (by have := j2.n; omega) (hne c hcn)]; exact j2.rd⟩
  simp (maxSteps := 1000000) (disch := (first | omega | (simp only [nx_alloc, nx_upd, len_cons, len_nil, List.length_set, List.length_map, List.length_append] <;> omega) | fail)) only [go_sem, g0, g2, g6, g14, g15]
  refine ⟨m - 1, by omega, _, i + 1, l ++ [x], s, v', rfl, by omega, by omega, j3, ws, hl3, by simp [hll], ?_, ?_, ?_, ?_, ?_, ?_⟩
  · rw [← hrn, hq, reqN_go hp, show k - (i + 1) = q by omega]
  · simp (maxSteps := 1000000) (disch := (first | omega | (simp only [nx_alloc, nx_upd, len_cons, len_nil, List.length_set, List.length_map, List.length_append] <;> omega) | fail)) only [go_sem, g0]
  · simp (maxSteps := 1000000) (disch := (first | omega | (simp only [nx_alloc, nx_upd, len_cons, len_nil, List.length_set, List.length_map, List.length_append] <;> omega) | fail)) only [go_sem, g2]
  · simp (maxSteps := 1000000) (disch := (first | omega | (simp only [nx_alloc, nx_upd, len_cons, len_nil, List.length_set, List.length_map, List.length_append] <;> omega) | fail)) only [go_sem]
  · simp (maxSteps := 1000000) (disch := (first | omega | (simp only [nx_alloc, nx_upd, len_cons, len_nil, List.length_set, List.length_map, List.length_append] <;> omega) | fail)) only [go_sem, g14]
  · simp (maxSteps := 1000000) (disch := (first | omega | (simp only [nx_alloc, nx_upd, len_cons, len_nil, List.length_set, List.length_map, List.length_append] <;> omega) | fail)) only [go_sem]
    rfl
theorem dec2_ok (w0 : World) (A : St) (c d : Nat) (r : List Int) (e0 : TypeId) (m0 : Option Nat) (hd : A.get d = some (.cells [.pointer (some ⟨c, 0, none⟩)] e0 m0)) (hc : A.get c = some (rdW r)) (hr : RW r) {n : Int} {t : List Int} (h : fixL r 4 = (n, t, 0)) : ACalls Try.prog w0 47 #[.pointer (some ⟨d, 0, none⟩)] A (fin (.int .u32 n) (A.upd c (some (rdW t)))) := by
  refine call_E Try.enters47 Try.func47 rfl (Nat.le_of_ble_eq_true rfl) fun hw hbd => ?_
  simp (maxSteps := 1000000) (disch := (first | omega | (simp only [nx_alloc, nx_upd, len_cons, len_nil, List.length_set, List.length_map, List.length_append] <;> omega) | fail)) only [go_sem, Try.ntmps47, Try.results47, hd]
  refine call1 (numU_ok w0 A c r 4 hc hr (by omega) (by omega) h) ?_
  simp (maxSteps := 1000000) (disch := (first | omega | (simp only [nx_alloc, nx_upd, len_cons, len_nil, List.length_set, List.length_map, List.length_append] <;> omega) | fail)) only [go_sem, Try.results47]
  exact gc_rw hw hc (Over.refl _) rfl (.int _ _)
theorem dec2_pan (w0 : World) (A : St) (c d : Nat) (r : List Int) (e0 : TypeId) (m0 : Option Nat) (hd : A.get d = some (.cells [.pointer (some ⟨c, 0, none⟩)] e0 m0)) (hc : A.get c = some (rdW r)) (hr : RW r) {n : Int} {t : List Int} {e : Int} (h : fixL r 4 = (n, t, e)) (he : e ≠ 0) : ACalls Try.prog w0 47 #[.pointer (some ⟨d, 0, none⟩)] A (pan (pE e) A) := by
  refine call_E Try.enters47 Try.func47 rfl (Nat.le_of_ble_eq_true rfl) fun hw hbd => ?_
  simp (maxSteps := 1000000) (disch := (first | omega | (simp only [nx_alloc, nx_upd, len_cons, len_nil, List.length_set, List.length_map, List.length_append] <;> omega) | fail)) only [go_sem, Try.ntmps47, Try.results47, hd]
  refine callp (numU_pan w0 A c r 4 hc hr h he) ?_
  simp (maxSteps := 1000000) (disch := (first | omega | (simp only [nx_alloc, nx_upd, len_cons, len_nil, List.length_set, List.length_map, List.length_append] <;> omega) | fail)) only [go_sem, after_pan]
  exact gc_pan hw (Over.refl _) (pE_bnd _ _)
set_option maxHeartbeats 4000000 in
theorem listU_ok (w0 : World) (A : St) (c : Nat) (r : List Int) (most : Int) (hc : A.get c = some (rdW r)) (hr : RW r) (hm : most ≤ 1000) (d : Nat) (e0 : TypeId) (m0 : Option Nat) (hdn : d < A.next) (hdc : d ≠ c) (hd : A.get d = some (.cells [.pointer (some ⟨c, 0, none⟩)] e0 m0)) : ACalls Try.prog w0 46 #[.pointer (some ⟨c, 0, none⟩), .int .i64 most, .func (.func 47) #[] #[.pointer (some ⟨d, 0, none⟩)]] A (RdPost c (fun l A' v => IdRow A' A.next l v) (listU most r) A) := by
  refine call_E Try.enters46 Try.func46 rfl (Nat.le_of_ble_eq_true rfl) fun hw hbd => ?_
  have hcn := (hw c _ hc).1
  rcases h1 : fixL r 1 with ⟨n, t1, e1⟩
  obtain ⟨w1, _, c1, d1, _, _⟩ := fixL_facts hr (by omega) (by omega) h1
  simp (maxSteps := 1000000) (disch := (first | omega | (simp only [nx_alloc, nx_upd, len_cons, len_nil, List.length_set, List.length_map, List.length_append] <;> omega) | fail)) only [go_sem, Try.ntmps46, Try.results46]
  by_cases z1 : e1 = 0
  rotate_left
  · rw [pan_rd (x := e1) (by unfold listU; simp [h1, z1]) z1]
    refine callp (numI_pan w0 A c r 1 hc hr h1 z1) ?_
    simp (maxSteps := 1000000) (disch := (first | omega | (simp only [nx_alloc, nx_upd, len_cons, len_nil, List.length_set, List.length_map, List.length_append] <;> omega) | fail)) only [go_sem, after_pan]
    exact gc_panP hw hc (RdJ.refl hc)
  subst z1
  refine call1 (numI_ok w0 A c r 1 hc hr (by omega) (by omega) h1) ?_
  have j1 := (RdJ.refl hc).upd t1
  obtain ⟨A1, hA1⟩ : ∃ A1, A1 = A.upd c (some (rdW t1)) := ⟨_, rfl⟩
  by_cases hbig : n > most
  · simp (maxSteps := 1000000) (disch := (first | omega | (simp only [nx_alloc, nx_upd, len_cons, len_nil, List.length_set, List.length_map, List.length_append] <;> omega) | fail)) only [go_sem, hbig, ifU]
    rw [pan_rd (x := 111) (by unfold listU; simp [h1, hbig]) (by decide)]
    exact gc_panP hw hc j1
  obtain ⟨k, rfl⟩ := Int.eq_ofNat_of_zero_le c1
  have hlr : listU most r = u32N k [] t1 := by unfold listU; simp [h1, hbig]
  simp (maxSteps := 1000000) (disch := (first | omega | (simp only [nx_alloc, nx_upd, len_cons, len_nil, List.length_set, List.length_map, List.length_append] <;> omega) | fail)) only [go_sem, hbig]
  rw [← hA1]
  rw [← hA1] at j1
  refine aw_loop (fun m x A' => ∃ (ρ : Nat → Value) (i : Nat) (l : List Int) (t : List Int) (v : Value), x = E 24 ρ [] ∧ m = k - i ∧ i ≤ k ∧ RdJ A c t A' ∧ RW t ∧ IdRow A' A.next l v ∧ l.length = i ∧ u32N (k - i) l t = listU most r ∧
      ρ 0 = .pointer (some ⟨c, 0, none⟩) ∧ ρ 2 = .func (.func 47) #[] #[.pointer (some ⟨d, 0, none⟩)] ∧ ρ 6 = v ∧ ρ 14 = .int .i64 k ∧ ρ 15 = .int .i64 i) k
    ⟨_, 0, [], t1, _, rfl, rfl, Nat.zero_le _, j1, w1, Row.nil .., rfl, hlr.symm, rfl, rfl, rfl, rfl, rfl⟩ ?_
  rintro m x A' ⟨ρ, i, l, t, v, rfl, hk, hi, j, wt, hl, hll, hrn, g0, g2, g6, g14, g15⟩
  refine aw_of ?_
  have jn := j.n
  by_cases hend : i = k
  · have e1 : ¬ ((i : Int) < k) := by omega
    have hfin : listU most r = (l, t, 0) := by rw [← hrn, hend, Nat.sub_self]; rfl
    rw [ok_rd hfin]
    simp (maxSteps := 1000000) (disch := (first | omega | (simp only [nx_alloc, nx_upd, len_cons, len_nil, List.length_set, List.length_map, List.length_append] <;> omega) | fail)) only [go_sem, g0, g2, g6, g14, g15, Try.results46]
    exact gc_here ⟨_, rfl, j.over, hl⟩
  have e1 : ((i : Int) < k) := by omega
  obtain ⟨q, hq⟩ : ∃ q, k - i = q + 1 := ⟨k - i - 1, by omega⟩
  simp (maxSteps := 1000000) (disch := (first | omega | (simp only [nx_alloc, nx_upd, len_cons, len_nil, List.length_set, List.length_map, List.length_append] <;> omega) | fail)) only [go_sem, g0, g2, g6, g14, g15]
  have hd' : A'.get d = _ := (j.ov d hdn hdc).trans hd
  rcases hp : fixL t 4 with ⟨x, s, f⟩
  by_cases hf : f = 0
  rotate_left
  · rw [pan_rd (x := f) (by rw [← hrn, hq, u32N_stop hp hf]) hf]
    refine callp (dec2_pan w0 A' c d t _ _ hd' j.rd wt hp hf) ?_
    simp (maxSteps := 1000000) (disch := (first | omega | (simp only [nx_alloc, nx_upd, len_cons, len_nil, List.length_set, List.length_map, List.length_append] <;> omega) | fail)) only [go_sem, after_pan]
    exact gc_panP hw hc j
  subst hf
  obtain ⟨ws, _, _, _, _, _⟩ := fixL_facts wt (by omega) (by omega) hp
  refine call1 (dec2_ok w0 A' c d t _ _ hd' j.rd wt hp) ?_
  have j2 := j.upd s
  have hl2 : IdRow (A'.upd c (some (rdW s))) A.next l v := Row.keep hl (Nat.le_refl _) (fun b _ h1 h2 => get_upd_old (by omega)) (Nat.le_refl _)
  generalize A'.upd c (some (rdW s)) = A2 at *
  obtain ⟨v', A3, hap, hl3, n3, hrb3, hf3⟩ := id_push hl2 x j2.n (by omega)
  simp (maxSteps := 1000000) (disch := (first | omega | (simp only [nx_alloc, nx_upd, len_cons, len_nil, List.length_set, List.length_map, List.length_append] <;> omega) | fail)) only [go_sem, g0, g2, g6, g14, g15]
  rw [hap]
  have hne : ∀ b, b < A.next → rowB v ≠ some b := fun b hb => Row.ne hl2 hb
  have j3 : RdJ A c s A3 := ⟨by have := j2.n; omega, fun b hb hbc => by rw [hf3 b (by have := j2.n; omega) (hne b hb)]; exact j2.ov b hb hbc, by rw [hf3 c (by have := j2.n; omega) (hne c hcn)]; exact j2.rd⟩
  simp (maxSteps := 1000000) (disch := (first | omega | (simp only [nx_alloc, nx_upd, len_cons, len_nil, List.length_set, List.length_map, List.length_append] <;> omega) | fail)) only [go_sem, g0, g2, g6, g14, g15]
  refine ⟨m - 1, by omega, _, i + 1, l ++ [x], s, v', rfl, by omega, by omega, j3, ws, hl3, by simp [hll], ?_, ?_, ?_, ?_, ?_, ?_⟩
  · rw [← hrn, hq, u32N_go hp, show k - (i + 1) = q by omega]
  · simp (maxSteps := 1000000) (disch := (first | omega | (simp only [nx_alloc, nx_upd, len_cons, len_nil, List.length_set, List.length_map, List.length_append] <;> omega) | fail)) only [go_sem, g0]
  · simp (maxSteps := 1000000) (disch := (first | omega | (simp only [nx_alloc, nx_upd, len_cons, len_nil, List.length_set, List.length_map, List.length_append] <;> omega) | fail)) only [go_sem, g2]
  · simp (maxSteps := 1000000) (disch := (first | omega | (simp only [nx_alloc, nx_upd, len_cons, len_nil, List.length_set, List.length_map, List.length_append] <;> omega) | fail)) only [go_sem]
  · simp (maxSteps := 1000000) (disch := (first | omega | (simp only [nx_alloc, nx_upd, len_cons, len_nil, List.length_set, List.length_map, List.length_append] <;> omega) | fail)) only [go_sem, g14]
  · simp (maxSteps := 1000000) (disch := (first | omega | (simp only [nx_alloc, nx_upd, len_cons, len_nil, List.length_set, List.length_map, List.length_append] <;> omega) | fail)) only [go_sem]
    rfl
end Go.Fw
