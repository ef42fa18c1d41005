import Derived.Test.YtfmbflmknjlefaaFwWire4
set_option linter.unusedSimpArgs false
set_option linter.unusedVariables false
set_option maxRecDepth 4000
namespace Go.Fw
open Go.Proofs Go.RowKit
def rq0 : ReqT := ⟨0, 0, ⟨0, 0, verN⟩⟩
/-- Which request bytes begin with. -/
def reqP (r : List Int) : ReqT × List Int × Int :=
  match fixL r 1 with
  | (cl, r1, e1) => if e1 ≠ 0 then (rq0, [], e1) else if cliB cl = false then (rq0, [], 1) else
  match fixL r1 4 with
  | (q, r2, e2) => if e2 ≠ 0 then (rq0, [], e2) else
  match fixL r2 1 with
  | (k, r3, e3) => if e3 ≠ 0 then (rq0, [], e3) else if ¬ (1 ≤ k ∧ k ≤ 5) then (rq0, [], 1) else
  match fixL r3 4 with
  | (i, r4, e4) => if e4 ≠ 0 then (rq0, [], e4) else
  match (if k = 1 then progR r4 else (verN, r4, 0)) with
  | (V, r5, e5) => if e5 ≠ 0 then (rq0, [], e5) else if rightB ⟨cl, q, ⟨k, i, V⟩⟩ = false then (rq0, [], 1) else (⟨cl, q, ⟨k, i, V⟩⟩, r5, 0)
def ReqRow (A : St) (lo : Nat) (r : ReqT) (v : Value) : Prop := ∃ p q u, v = .agg #[.int .i64 r.client, .int .u32 r.seq, .int .i64 r.op.kind, .int .u32 r.op.id, .int .u32 r.op.v.id, p, q, u] ∧ HsRow A lo r.op.v.blocks p ∧ StRow A lo r.op.v.names q ∧ InRow A lo r.op.v.sizes u
theorem ReqRow.keep {A A' : St} {lo lo' : Nat} {r : ReqT} {v : Value} (h : ReqRow A lo r v) (hn : A.next ≤ A'.next) (hk : ∀ b, lo ≤ b → b < A.next → A'.get b = A.get b) (hl : lo' ≤ lo) : ReqRow A' lo' r v := by
  obtain ⟨p, q, u, h1, h2, h3, h4⟩ := h
  exact ⟨p, q, u, h1, Row.keep h2 hn (fun b _ hb hlt => hk b hb hlt) hl, Row.keep h3 hn (fun b _ hb hlt => hk b hb hlt) hl, Row.keep h4 hn (fun b _ hb hlt => hk b hb hlt) hl⟩
theorem ReqRow.req {A : St} {lo : Nat} {r : ReqT} {v : Value} (h : ReqRow A lo r v) : ReqV A r v := by
  obtain ⟨p, q, u, rfl, h2, h3, h4⟩ := h
  exact ⟨_, rfl, _, rfl, _, rfl, _, _, _, rfl, Row.view h2, Row.view h3, Row.view h4⟩
theorem progR_rw {r : List Int} (h : RW r) {V : VerT} {t : List Int} (hp : progR r = (V, t, 0)) : RW t ∧ V.small ∧ V.ok ∧ mayB V = true := by
  obtain ⟨h1, h2, h3, h4⟩ := progR_inv h.1 (by rw [hp])
  rw [hp] at h1 h2 h3 h4
  change mayB V = true at h1
  change V.ok at h2
  change r = encV V ++ t at h3
  refine ⟨⟨h4, ?_⟩, ?_, h2, h1⟩
  · have := congrArg List.length h3; rw [List.length_append] at this; have := h.2; omega
  · obtain ⟨q1, q2, q3, _⟩ := may_facts' h1; exact ⟨by omega, by omega, by omega⟩
set_option maxHeartbeats 8000000 in
theorem wreq_ok (w0 : World) (A : St) (c : Nat) (r : List Int) (hc : A.get c = some (rdW r)) (hr : RW r) : ACalls Try.prog w0 44 #[.pointer (some ⟨c, 0, none⟩)] A (RdPost c (fun x A' v => ReqRow A' A.next x v) (reqP r) A) := by
  refine call_E Try.enters44 Try.func44 rfl (Nat.le_of_ble_eq_true rfl) fun hw hbd => ?_
  have hcn := (hw c _ hc).1
  have hne : A.next ≠ c := by omega
  obtain ⟨A1, hA1⟩ : ∃ A1, A1 = A.alloc (.cells [.int .i64 0, .int .u32 0, .int .i64 0, .int .u32 0, .int .u32 0, .slice none 0 0, .slice none 0 0, .slice none 0 0] 31 (some 0)) := ⟨_, rfl⟩
  have o1 : Over A A1 := hA1 ▸ (Over.refl A).alloc _
  have n1 : A1.next = A.next + 1 := by rw [hA1]; rfl
  have g1 : A1.get A.next = some (.cells [.int .i64 0, .int .u32 0, .int .i64 0, .int .u32 0, .int .u32 0, .slice none 0 0, .slice none 0 0, .slice none 0 0] 31 (some 0)) := by rw [hA1]; exact get_alloc_same ..
  have j1 := (RdJ.refl hc).ext hcn o1
  simp (maxSteps := 1000000) (disch := (first | omega | (simp only [nx_alloc, nx_upd, len_cons, len_nil, List.length_set, List.length_map, List.length_append] <;> omega) | fail)) only [go_sem, Try.ntmps44, Try.results44]
  rw [← hA1]
  rcases h1 : fixL r 1 with ⟨cl, r1, e1⟩
  obtain ⟨w1, _, c1, d1, _, _⟩ := fixL_facts hr (by omega) (by omega) h1
  by_cases z1 : e1 = 0
  rotate_left
  · rw [pan_rd (x := e1) (by unfold reqP; simp [z1, h1]) z1]
    refine callp (numI_pan w0 A1 c r 1 j1.rd hr h1 z1) ?_
    simp (maxSteps := 1000000) (disch := (first | omega | (simp only [nx_alloc, nx_upd, len_cons, len_nil, List.length_set, List.length_map, List.length_append] <;> omega) | fail)) only [go_sem, after_pan]
    exact gc_panP hw hc j1
  subst z1
  refine call1 (numI_ok w0 A1 c r 1 j1.rd hr (by omega) (by omega) h1) ?_
  obtain ⟨A2, hA2⟩ : ∃ A', A' = (A1.upd c (some (rdW r1))).upd A.next (some (.cells [.int .i64 cl, .int .u32 0, .int .i64 0, .int .u32 0, .int .u32 0, .slice none 0 0, .slice none 0 0, .slice none 0 0] 31 (some 0))) := ⟨_, rfl⟩
  have g1' : (A1.upd c (some (rdW r1))).get A.next = _ := (get_upd_old hne).trans g1
  have j2 : RdJ A c r1 A2 := hA2 ▸ (j1.upd r1).set (Nat.le_refl _) hcn _
  have g2 : A2.get A.next = some (.cells [.int .i64 cl, .int .u32 0, .int .i64 0, .int .u32 0, .int .u32 0, .slice none 0 0, .slice none 0 0, .slice none 0 0] 31 (some 0)) := by rw [hA2]; exact get_upd_same ..
  have n2 : A2.next = A.next + 1 := by rw [hA2]; exact n1
  simp (maxSteps := 1000000) (disch := (first | omega | (simp only [nx_alloc, nx_upd, len_cons, len_nil, List.length_set, List.length_map, List.length_append] <;> omega) | fail)) only [go_sem, g1']
  rw [← hA2]
  try simp (maxSteps := 1000000) (disch := (first | omega | (simp only [nx_alloc, nx_upd, len_cons, len_nil, List.length_set, List.length_map, List.length_append] <;> omega) | fail)) only [go_sem, g2]
  try simp (maxSteps := 1000000) (disch := (first | omega | (simp only [nx_alloc, nx_upd, len_cons, len_nil, List.length_set, List.length_map, List.length_append] <;> omega) | fail)) only [go_sem, g2]
  refine call1 (client_ok w0 A2 cl) ?_
  cases hcl : cliB cl
  · simp (maxSteps := 1000000) (disch := (first | omega | (simp only [nx_alloc, nx_upd, len_cons, len_nil, List.length_set, List.length_map, List.length_append] <;> omega) | fail)) only [go_sem]
    rw [pan_rd (x := 1) (by unfold reqP; simp [h1, hcl]) (by decide)]
    refine callp (sure_pan w0 A2) ?_
    simp (maxSteps := 1000000) (disch := (first | omega | (simp only [nx_alloc, nx_upd, len_cons, len_nil, List.length_set, List.length_map, List.length_append] <;> omega) | fail)) only [go_sem, after_pan]
    exact gc_panP hw hc j2
  simp (maxSteps := 1000000) (disch := (first | omega | (simp only [nx_alloc, nx_upd, len_cons, len_nil, List.length_set, List.length_map, List.length_append] <;> omega) | fail)) only [go_sem]
  refine call1 (sure_ok w0 A2) ?_
  try simp (maxSteps := 1000000) (disch := (first | omega | (simp only [nx_alloc, nx_upd, len_cons, len_nil, List.length_set, List.length_map, List.length_append] <;> omega) | fail)) only [go_sem]
  rcases h2 : fixL r1 4 with ⟨q, r2, e2⟩
  obtain ⟨w2, _, c2, d2, _, _⟩ := fixL_facts w1 (by omega) (by omega) h2
  by_cases z2 : e2 = 0
  rotate_left
  · rw [pan_rd (x := e2) (by unfold reqP; simp [z2, h1, h2, hcl]) z2]
    refine callp (numU_pan w0 A2 c r1 4 j2.rd w1 h2 z2) ?_
    simp (maxSteps := 1000000) (disch := (first | omega | (simp only [nx_alloc, nx_upd, len_cons, len_nil, List.length_set, List.length_map, List.length_append] <;> omega) | fail)) only [go_sem, after_pan]
    exact gc_panP hw hc j2
  subst z2
  refine call1 (numU_ok w0 A2 c r1 4 j2.rd w1 (by omega) (by omega) h2) ?_
  obtain ⟨A3, hA3⟩ : ∃ A', A' = (A2.upd c (some (rdW r2))).upd A.next (some (.cells [.int .i64 cl, .int .u32 q, .int .i64 0, .int .u32 0, .int .u32 0, .slice none 0 0, .slice none 0 0, .slice none 0 0] 31 (some 0))) := ⟨_, rfl⟩
  have g2' : (A2.upd c (some (rdW r2))).get A.next = _ := (get_upd_old hne).trans g2
  have j3 : RdJ A c r2 A3 := hA3 ▸ (j2.upd r2).set (Nat.le_refl _) hcn _
  have g3 : A3.get A.next = some (.cells [.int .i64 cl, .int .u32 q, .int .i64 0, .int .u32 0, .int .u32 0, .slice none 0 0, .slice none 0 0, .slice none 0 0] 31 (some 0)) := by rw [hA3]; exact get_upd_same ..
  have n3 : A3.next = A.next + 1 := by rw [hA3]; exact n2
  simp (maxSteps := 1000000) (disch := (first | omega | (simp only [nx_alloc, nx_upd, len_cons, len_nil, List.length_set, List.length_map, List.length_append] <;> omega) | fail)) only [go_sem, g2']
  rw [← hA3]
  try simp (maxSteps := 1000000) (disch := (first | omega | (simp only [nx_alloc, nx_upd, len_cons, len_nil, List.length_set, List.length_map, List.length_append] <;> omega) | fail)) only [go_sem, g3]
  try simp (maxSteps := 1000000) (disch := (first | omega | (simp only [nx_alloc, nx_upd, len_cons, len_nil, List.length_set, List.length_map, List.length_append] <;> omega) | fail)) only [go_sem]
  rcases h3 : fixL r2 1 with ⟨k, r3, e3⟩
  obtain ⟨w3, _, c3, d3, _, _⟩ := fixL_facts w2 (by omega) (by omega) h3
  by_cases z3 : e3 = 0
  rotate_left
  · rw [pan_rd (x := e3) (by unfold reqP; simp [z3, h1, h2, h3, hcl]) z3]
    refine callp (numI_pan w0 A3 c r2 1 j3.rd w2 h3 z3) ?_
    simp (maxSteps := 1000000) (disch := (first | omega | (simp only [nx_alloc, nx_upd, len_cons, len_nil, List.length_set, List.length_map, List.length_append] <;> omega) | fail)) only [go_sem, after_pan]
    exact gc_panP hw hc j3
  subst z3
  refine call1 (numI_ok w0 A3 c r2 1 j3.rd w2 (by omega) (by omega) h3) ?_
  obtain ⟨A4, hA4⟩ : ∃ A', A' = (A3.upd c (some (rdW r3))).upd A.next (some (.cells [.int .i64 cl, .int .u32 q, .int .i64 k, .int .u32 0, .int .u32 0, .slice none 0 0, .slice none 0 0, .slice none 0 0] 31 (some 0))) := ⟨_, rfl⟩
  have g3' : (A3.upd c (some (rdW r3))).get A.next = _ := (get_upd_old hne).trans g3
  have j4 : RdJ A c r3 A4 := hA4 ▸ (j3.upd r3).set (Nat.le_refl _) hcn _
  have g4 : A4.get A.next = some (.cells [.int .i64 cl, .int .u32 q, .int .i64 k, .int .u32 0, .int .u32 0, .slice none 0 0, .slice none 0 0, .slice none 0 0] 31 (some 0)) := by rw [hA4]; exact get_upd_same ..
  have n4 : A4.next = A.next + 1 := by rw [hA4]; exact n3
  simp (maxSteps := 1000000) (disch := (first | omega | (simp only [nx_alloc, nx_upd, len_cons, len_nil, List.length_set, List.length_map, List.length_append] <;> omega) | fail)) only [go_sem, g3']
  rw [← hA4]
  try simp (maxSteps := 1000000) (disch := (first | omega | (simp only [nx_alloc, nx_upd, len_cons, len_nil, List.length_set, List.length_map, List.length_append] <;> omega) | fail)) only [go_sem, g4]
  by_cases k1 : 1 ≤ k
  rotate_left
  · simp (maxSteps := 1000000) (disch := (first | omega | (simp only [nx_alloc, nx_upd, len_cons, len_nil, List.length_set, List.length_map, List.length_append] <;> omega) | fail)) only [go_sem, k1]
    rw [pan_rd (x := 1) (by unfold reqP; simp [h1, hcl, h2, h3, k1]) (by decide)]
    refine callp (sure_pan w0 A4) ?_
    simp (maxSteps := 1000000) (disch := (first | omega | (simp only [nx_alloc, nx_upd, len_cons, len_nil, List.length_set, List.length_map, List.length_append] <;> omega) | fail)) only [go_sem, after_pan]
    exact gc_panP hw hc j4
  by_cases k5 : k ≤ 5
  rotate_left
  · simp (maxSteps := 1000000) (disch := (first | omega | (simp only [nx_alloc, nx_upd, len_cons, len_nil, List.length_set, List.length_map, List.length_append] <;> omega) | fail)) only [go_sem, k1, k5, g4]
    rw [pan_rd (x := 1) (by unfold reqP; simp [h1, hcl, h2, h3, k5]) (by decide)]
    refine callp (sure_pan w0 A4) ?_
    simp (maxSteps := 1000000) (disch := (first | omega | (simp only [nx_alloc, nx_upd, len_cons, len_nil, List.length_set, List.length_map, List.length_append] <;> omega) | fail)) only [go_sem, after_pan]
    exact gc_panP hw hc j4
  simp (maxSteps := 1000000) (disch := (first | omega | (simp only [nx_alloc, nx_upd, len_cons, len_nil, List.length_set, List.length_map, List.length_append] <;> omega) | fail)) only [go_sem, k1, k5, g4]
  refine call1 (sure_ok w0 A4) ?_
  try simp (maxSteps := 1000000) (disch := (first | omega | (simp only [nx_alloc, nx_upd, len_cons, len_nil, List.length_set, List.length_map, List.length_append] <;> omega) | fail)) only [go_sem]
  rcases h4 : fixL r3 4 with ⟨i, r4, e4⟩
  obtain ⟨w4, _, c4, d4, _, _⟩ := fixL_facts w3 (by omega) (by omega) h4
  by_cases z4 : e4 = 0
  rotate_left
  · rw [pan_rd (x := e4) (by unfold reqP; simp [z4, h1, h2, h3, h4, hcl, k1, k5]) z4]
    refine callp (numU_pan w0 A4 c r3 4 j4.rd w3 h4 z4) ?_
    simp (maxSteps := 1000000) (disch := (first | omega | (simp only [nx_alloc, nx_upd, len_cons, len_nil, List.length_set, List.length_map, List.length_append] <;> omega) | fail)) only [go_sem, after_pan]
    exact gc_panP hw hc j4
  subst z4
  refine call1 (numU_ok w0 A4 c r3 4 j4.rd w3 (by omega) (by omega) h4) ?_
  obtain ⟨A5, hA5⟩ : ∃ A', A' = (A4.upd c (some (rdW r4))).upd A.next (some (.cells [.int .i64 cl, .int .u32 q, .int .i64 k, .int .u32 i, .int .u32 0, .slice none 0 0, .slice none 0 0, .slice none 0 0] 31 (some 0))) := ⟨_, rfl⟩
  have g4' : (A4.upd c (some (rdW r4))).get A.next = _ := (get_upd_old hne).trans g4
  have j5 : RdJ A c r4 A5 := hA5 ▸ (j4.upd r4).set (Nat.le_refl _) hcn _
  have g5 : A5.get A.next = some (.cells [.int .i64 cl, .int .u32 q, .int .i64 k, .int .u32 i, .int .u32 0, .slice none 0 0, .slice none 0 0, .slice none 0 0] 31 (some 0)) := by rw [hA5]; exact get_upd_same ..
  have n5 : A5.next = A.next + 1 := by rw [hA5]; exact n4
  simp (maxSteps := 1000000) (disch := (first | omega | (simp only [nx_alloc, nx_upd, len_cons, len_nil, List.length_set, List.length_map, List.length_append] <;> omega) | fail)) only [go_sem, g4']
  rw [← hA5]
  try simp (maxSteps := 1000000) (disch := (first | omega | (simp only [nx_alloc, nx_upd, len_cons, len_nil, List.length_set, List.length_map, List.length_append] <;> omega) | fail)) only [go_sem, g5]
  have hz : ∀ V t, (if k = 1 then progR r4 else (verN, r4, 0)) = (V, t, 0) → rightB ⟨cl, q, ⟨k, i, V⟩⟩ = true → reqP r = (⟨cl, q, ⟨k, i, V⟩⟩, t, 0) := fun V t hp hb => by unfold reqP; simp [h1, h2, h3, h4, hcl, k1, k5, hp, hb]
  have hf : ∀ V t, (if k = 1 then progR r4 else (verN, r4, 0)) = (V, t, 0) → rightB ⟨cl, q, ⟨k, i, V⟩⟩ = false → (reqP r).2.2 = 1 := fun V t hp hb => by unfold reqP; simp [h1, h2, h3, h4, hcl, k1, k5, hp, hb]
  have hpn : ∀ V t e, (if k = 1 then progR r4 else (verN, r4, 0)) = (V, t, e) → e ≠ 0 → (reqP r).2.2 = e := fun V t e hp hb => by unfold reqP; simp [h1, h2, h3, h4, hcl, k1, k5, hp, hb]
  have hls : ∀ (X : St) (p q' u : Value) (vi : Int) (B : Nat), cell1 p = true → cell1 q' = true → cell1 u = true → storeC X (some 4) (some (.cells [.int .i64 cl, .int .u32 q, .int .i64 k, .int .u32 i, .int .u32 0, .slice none 0 0, .slice none 0 0, .slice none 0 0] 31 (some 0))) B 4 (.agg #[.int .u32 vi, p, q', u]) = some (X.upd B (some (.cells [.int .i64 cl, .int .u32 q, .int .i64 k, .int .u32 i, .int .u32 vi, p, q', u] 31 (some 0)))) := fun X p q' u vi B h1 h2 h3 => by
    refine (storeC_cells _ 4 B 4 0 _ _ _ ⟨rfl, by omega, by simp [Value.cells], ?_⟩).trans rfl
    simp [Value.cells, h1, h2, h3]; rfl
  by_cases hk : k = 1
  · subst hk
    simp (maxSteps := 1000000) (disch := (first | omega | (simp only [nx_alloc, nx_upd, len_cons, len_nil, List.length_set, List.length_map, List.length_append] <;> omega) | fail)) only [go_sem, g5]
    refine (wver_ok w0 A5 c r4 j5.rd w4).mono ?_
    rcases hp : progR r4 with ⟨V, t, x⟩
    intro e A6 he
    by_cases hx : x = 0
    · subst hx
      obtain ⟨v, rfl, o6, p, q', u, rfl, v1, v2, v3⟩ := rd_ok he
      obtain ⟨wt, hvs, hvk, hvm⟩ := progR_rw w4 hp
      have j6 : RdJ A c t A6 := (j5.upd t).ext hcn o6
      have g6 : A6.get A.next = _ := (o6.get _ (by show A.next < A5.next; omega)).trans ((get_upd_old hne).trans g5)
      have hvc : VerC A6 V [.int .u32 V.id, p, q', u] := ⟨_, _, _, rfl, Row.view v1, Row.view v2, Row.view v3⟩
      have hcc := hvc.cell
      have cp : cell1 p = true := List.all_eq_true.1 hcc p (by simp)
      have cq : cell1 q' = true := List.all_eq_true.1 hcc q' (by simp)
      have cu : cell1 u = true := List.all_eq_true.1 hcc u (by simp)
      obtain ⟨A7, hA7⟩ : ∃ A', A' = A6.upd A.next (some (.cells [.int .i64 cl, .int .u32 q, .int .i64 1, .int .u32 i, .int .u32 V.id, p, q', u] 31 (some 0))) := ⟨_, rfl⟩
      have j7 : RdJ A c t A7 := hA7 ▸ j6.set (Nat.le_refl _) hcn _
      have g7 : A7.get A.next = some (.cells [.int .i64 cl, .int .u32 q, .int .i64 1, .int .u32 i, .int .u32 V.id, p, q', u] 31 (some 0)) := by rw [hA7]; exact get_upd_same ..
      simp (maxSteps := 1000000) (disch := (first | omega | (simp only [nx_alloc, nx_upd, len_cons, len_nil, List.length_set, List.length_map, List.length_append] <;> omega) | fail)) only [go_sem, g6, hls _ _ _ _ _ _ cp cq cu]
      rw [← hA7]
      have hv7 : VerRow A7 A5.next V (.agg #[.int .u32 V.id, p, q', u]) := VerRow.keep (A := A6) ⟨p, q', u, rfl, v1, v2, v3⟩ (by rw [hA7]; exact Nat.le_refl _) (fun b hb _ => by rw [hA7]; exact get_upd_old (by omega)) (Nat.le_refl _)
      obtain ⟨_, _, _, he0, v1', v2', v3'⟩ := hv7
      injection he0 with he0
      injection he0 with he0
      simp only [List.cons.injEq, and_true, true_and] at he0
      obtain ⟨rfl, rfl, rfl⟩ := he0
      have hrq : ReqC A7 ⟨cl, q, ⟨1, i, V⟩⟩ [.int .i64 cl, .int .u32 q, .int .i64 1, .int .u32 i, .int .u32 V.id, p, q', u] := ⟨_, rfl, _, rfl, _, _, _, rfl, Row.view v1', Row.view v2', Row.view v3'⟩
      have hld8 := fun e' m => ldN (e := e') (m := m) hrq.len
      have hst8 := stN (X := A7) (b := A.next) (e := 31) hrq.len hrq.len hrq.cell
      have hpp : (if (1 : Int) = 1 then progR r4 else (verN, r4, 0)) = (V, t, 0) := by rw [if_pos rfl]; exact hp
      refine call1 (right_ok w0 A7 ⟨cl, q, ⟨1, i, V⟩⟩ _ hrq hvs) ?_
      cases hb : rightB ⟨cl, q, ⟨1, i, V⟩⟩
      · simp (maxSteps := 1000000) (disch := (first | omega | (simp only [nx_alloc, nx_upd, len_cons, len_nil, List.length_set, List.length_map, List.length_append] <;> omega) | fail)) only [go_sem]
        rw [pan_rd (x := 1) (hf V t hpp hb) (by decide)]
        refine callp (sure_pan w0 A7) ?_
        simp (maxSteps := 1000000) (disch := (first | omega | (simp only [nx_alloc, nx_upd, len_cons, len_nil, List.length_set, List.length_map, List.length_append] <;> omega) | fail)) only [go_sem, after_pan]
        exact gc_panP hw hc j7
      simp (maxSteps := 1000000) (disch := (first | omega | (simp only [nx_alloc, nx_upd, len_cons, len_nil, List.length_set, List.length_map, List.length_append] <;> omega) | fail)) only [go_sem]
      refine call1 (sure_ok w0 A7) ?_
      rw [ok_rd (hz V t hpp hb)]
      simp (maxSteps := 1000000) (disch := (first | omega | (simp only [nx_alloc, nx_upd, len_cons, len_nil, List.length_set, List.length_map, List.length_append] <;> omega) | fail)) only [go_sem, g7, hld8, hst8, Try.results44]
      refine gc_here ⟨_, rfl, (j7.set (b := A.next) (Nat.le_refl _) hcn _).over, _, _, _, rfl, ?_, ?_, ?_⟩
      · exact Row.keep v1' (Nat.le_refl _) (fun b _ hb _ => get_upd_old (by omega)) (by omega)
      · exact Row.keep v2' (Nat.le_refl _) (fun b _ hb _ => get_upd_old (by omega)) (by omega)
      · exact Row.keep v3' (Nat.le_refl _) (fun b _ hb _ => get_upd_old (by omega)) (by omega)
    · obtain ⟨rfl, s, rfl⟩ := rd_pan hx he
      rw [pan_rd (x := x) (hpn V t x (by rw [if_pos rfl]; exact hp) hx) hx]
      simp (maxSteps := 1000000) (disch := (first | omega | (simp only [nx_alloc, nx_upd, len_cons, len_nil, List.length_set, List.length_map, List.length_append] <;> omega) | fail)) only [go_sem, after_pan]
      exact gc_panP hw hc (j5.upd s)
  · simp (maxSteps := 1000000) (disch := (first | omega | (simp only [nx_alloc, nx_upd, len_cons, len_nil, List.length_set, List.length_map, List.length_append] <;> omega) | fail)) only [go_sem, g5, hk]
    have hrq : ReqC A5 ⟨cl, q, ⟨k, i, verN⟩⟩ [.int .i64 cl, .int .u32 q, .int .i64 k, .int .u32 i, .int .u32 0, .slice none 0 0, .slice none 0 0, .slice none 0 0] := ⟨_, rfl, _, rfl, verN_c _⟩
    have hld8 := fun e' m => ldN (e := e') (m := m) hrq.len
    have hst8 := stN (X := A5) (b := A.next) (e := 31) hrq.len hrq.len hrq.cell
    have hpp : (if (k : Int) = 1 then progR r4 else (verN, r4, 0)) = (verN, r4, 0) := if_neg hk
    refine call1 (right_ok w0 A5 ⟨cl, q, ⟨k, i, verN⟩⟩ _ hrq verN_small) ?_
    cases hb : rightB ⟨cl, q, ⟨k, i, verN⟩⟩
    · simp (maxSteps := 1000000) (disch := (first | omega | (simp only [nx_alloc, nx_upd, len_cons, len_nil, List.length_set, List.length_map, List.length_append] <;> omega) | fail)) only [go_sem]
      rw [pan_rd (x := 1) (hf verN r4 hpp hb) (by decide)]
      refine callp (sure_pan w0 A5) ?_
      simp (maxSteps := 1000000) (disch := (first | omega | (simp only [nx_alloc, nx_upd, len_cons, len_nil, List.length_set, List.length_map, List.length_append] <;> omega) | fail)) only [go_sem, after_pan]
      exact gc_panP hw hc j5
    simp (maxSteps := 1000000) (disch := (first | omega | (simp only [nx_alloc, nx_upd, len_cons, len_nil, List.length_set, List.length_map, List.length_append] <;> omega) | fail)) only [go_sem]
    refine call1 (sure_ok w0 A5) ?_
    rw [ok_rd (hz verN r4 hpp hb)]
    simp (maxSteps := 1000000) (disch := (first | omega | (simp only [nx_alloc, nx_upd, len_cons, len_nil, List.length_set, List.length_map, List.length_append] <;> omega) | fail)) only [go_sem, g5, hld8, hst8, Try.results44]
    exact gc_here ⟨_, rfl, (j5.set (b := A.next) (Nat.le_refl _) hcn _).over, _, _, _, rfl, Row.nil .., Row.nil .., Row.nil ..⟩
end Go.Fw
