import Derived.Test.YtfmbflmknjlefaaFwWire21
set_option linter.unusedSimpArgs false
set_option linter.unusedVariables false
set_option maxRecDepth 4000
namespace Go.Fw
open Go.Proofs Go.RowKit
theorem Try.enters7 : Enters Try.prog 7 := enters_of Try.func7 rfl (by kernel_rfl)
set_option maxHeartbeats 16000000 in
theorem encodes_walk (w0 : World) (A : St) (vm : Value) (m : MsgT) (vn : Value) (n : MsgT) (vr : Value) (r : ReqT) (hm : MsgV A m vm) (km : m.okA) (hn : MsgV A n vn) (kn : n.okA) (hr : ReqV A r vr) (kr : r.okA) : ACalls Try.prog w0 7 #[vm, vn, vr] A (fin (.bool true) A) := by
  obtain ⟨mc, rfl, hmc⟩ := hm
  obtain ⟨nc, rfl, hnc⟩ := hn
  obtain ⟨rc, rfl, hrc⟩ := hr
  have hrc0 := hrc
  obtain ⟨oc, rfl, vs, rfl, hvs⟩ := hrc
  have hvl := hvs.len
  have hvtk : vs.take 4 = vs := List.take_of_length_le (by omega)
  have hml := hmc.len
  have hnl := hnc.len
  refine call_E Try.enters7 Try.func7 rfl (Nat.le_of_ble_eq_true rfl) fun hw hbd => ?_
  obtain ⟨A1, hA1⟩ : ∃ A1, A1 = ((A.alloc (.cells mc 45 (some 0))).alloc (.cells nc 45 (some 0))).alloc (.cells (.int .i64 r.client :: .int .u32 r.seq :: .int .i64 r.op.kind :: .int .u32 r.op.id :: vs) 31 (some 0)) := ⟨_, rfl⟩
  have o1 : Over A A1 := hA1 ▸ (((Over.refl A).alloc _).alloc _).alloc _
  have g1 : A1.get A.next = some (.cells mc 45 (some 0)) := by rw [hA1]; simp (disch := (first | omega | (simp only [nx_alloc, nx_upd, len_cons, len_nil, List.length_set, List.length_map, List.length_append] <;> omega) | fail)) only [St.get_upd, St.get_alloc, St.next_alloc, St.next_upd, ↓reduceIte, natF_lt, natF_gt, natF_ne, Nat.add_assoc, Nat.reduceAdd, Nat.reduceEqDiff, Nat.add_left_cancel_iff]
  have g2 : A1.get (A.next + 1) = some (.cells nc 45 (some 0)) := by rw [hA1]; simp (disch := (first | omega | (simp only [nx_alloc, nx_upd, len_cons, len_nil, List.length_set, List.length_map, List.length_append] <;> omega) | fail)) only [St.get_upd, St.get_alloc, St.next_alloc, St.next_upd, ↓reduceIte, natF_lt, natF_gt, natF_ne, Nat.add_assoc, Nat.reduceAdd, Nat.reduceEqDiff, Nat.add_left_cancel_iff]
  have g3 : A1.get (A.next + 2) = some (.cells (.int .i64 r.client :: .int .u32 r.seq :: .int .i64 r.op.kind :: .int .u32 r.op.id :: vs) 31 (some 0)) := by rw [hA1]; simp (disch := (first | omega | (simp only [nx_alloc, nx_upd, len_cons, len_nil, List.length_set, List.length_map, List.length_append] <;> omega) | fail)) only [St.get_upd, St.get_alloc, St.next_alloc, St.next_upd, ↓reduceIte, natF_lt, natF_gt, natF_ne, Nat.add_assoc, Nat.reduceAdd, Nat.reduceEqDiff, Nat.add_left_cancel_iff]
  have ldm := ldN (n := 49) (cs := mc) (e := 45) (m := some 0) hml
  have ldn := ldN (n := 49) (cs := nc) (e := 45) (m := some 0) hnl
  have ldr := ldN (n := 8) (e := 31) (m := some 0) hrc0.len
  have ld4 := ld_agg (sz := 4) (off := 4) (e' := 31) (m := some 0) (cells := .int .i64 r.client :: .int .u32 r.seq :: .int .i64 r.op.kind :: .int .u32 r.op.id :: vs) (cs := vs) (by simp; omega) (by rw [List.drop_succ_cons, List.drop_succ_cons, List.drop_succ_cons, List.drop_succ_cons, List.drop_zero, hvtk])
  have hsh := shown18_ok w0 A1
  have hm1 := hmc.ge o1.ge
  have hn1 := hnc.ge o1.ge
  have hr1 := hrc0.ge o1.ge
  have hv1 := (hvs.ge o1.ge).ver
  have LD := ldm
  simp (maxSteps := 1000000) (disch := (first | omega | (simp only [nx_alloc, nx_upd, len_cons, len_nil, List.length_set, List.length_map, List.length_append] <;> omega) | fail)) only [go_sem, Try.ntmps7, Try.results7, ldm, hml]
  rw [← hA1]
  try simp (maxSteps := 1000000) (disch := (first | omega | (simp only [nx_alloc, nx_upd, len_cons, len_nil, List.length_set, List.length_map, List.length_append] <;> omega) | fail)) only [go_sem, g1, ldm]
  refine call1 (heavyM_ok w0 A1 m _ hm1) ?_
  cases q1 : hvM m
  rotate_left
  · simp (maxSteps := 1000000) (disch := (first | omega | (simp only [nx_alloc, nx_upd, len_cons, len_nil, List.length_set, List.length_map, List.length_append] <;> omega) | fail)) only [go_sem]
    refine call1 hsh ?_
    simp (maxSteps := 1000000) (disch := (first | omega | (simp only [nx_alloc, nx_upd, len_cons, len_nil, List.length_set, List.length_map, List.length_append] <;> omega) | fail)) only [go_sem, Try.results7]
    exact gc_fin hw o1 (.bool _)
  simp (maxSteps := 1000000) (disch := (first | omega | (simp only [nx_alloc, nx_upd, len_cons, len_nil, List.length_set, List.length_map, List.length_append] <;> omega) | fail)) only [go_sem, g2, ldn, hnl]
  refine call1 (heavyM_ok w0 A1 n _ hn1) ?_
  cases q2 : hvM n
  rotate_left
  · simp (maxSteps := 1000000) (disch := (first | omega | (simp only [nx_alloc, nx_upd, len_cons, len_nil, List.length_set, List.length_map, List.length_append] <;> omega) | fail)) only [go_sem]
    refine call1 hsh ?_
    simp (maxSteps := 1000000) (disch := (first | omega | (simp only [nx_alloc, nx_upd, len_cons, len_nil, List.length_set, List.length_map, List.length_append] <;> omega) | fail)) only [go_sem, Try.results7]
    exact gc_fin hw o1 (.bool _)
  simp (maxSteps := 1000000) (disch := (first | omega | (simp only [nx_alloc, nx_upd, len_cons, len_nil, List.length_set, List.length_map, List.length_append] <;> omega) | fail)) only [go_sem, g3, ld4, hvtk]
  refine call1 (much_ok w0 A1 r.op.v _ hv1) ?_
  cases q3 : hvV r.op.v
  rotate_left
  · simp (maxSteps := 1000000) (disch := (first | omega | (simp only [nx_alloc, nx_upd, len_cons, len_nil, List.length_set, List.length_map, List.length_append] <;> omega) | fail)) only [go_sem]
    refine call1 hsh ?_
    simp (maxSteps := 1000000) (disch := (first | omega | (simp only [nx_alloc, nx_upd, len_cons, len_nil, List.length_set, List.length_map, List.length_append] <;> omega) | fail)) only [go_sem, Try.results7]
    exact gc_fin hw o1 (.bool _)
  have sm := hvM_small q1
  have sn := hvM_small q2
  have sr := hvV_small q3
  simp (maxSteps := 1000000) (disch := (first | omega | (simp only [nx_alloc, nx_upd, len_cons, len_nil, List.length_set, List.length_map, List.length_append] <;> omega) | fail)) only [go_sem]
  refine call1 hsh ?_
  simp (maxSteps := 1000000) (disch := (first | omega | (simp only [nx_alloc, nx_upd, len_cons, len_nil, List.length_set, List.length_map, List.length_append] <;> omega) | fail)) only [go_sem, g1, ldm, hml]
  refine call1 (wenc_ok w0 A1 m _ hm1 sm km) ?_
  unfold strIntV
  simp (maxSteps := 1000000) (disch := (first | omega | (simp only [nx_alloc, nx_upd, len_cons, len_nil, List.length_set, List.length_map, List.length_append] <;> omega) | fail)) only [go_sem, g1, ldm, hml]
  have hre := rencm_ok w0 A1 m _ hm1 sm km
  unfold strIntV at hre
  refine call1 hre ?_
  simp (maxSteps := 1000000) (disch := (first | omega | (simp only [nx_alloc, nx_upd, len_cons, len_nil, List.length_set, List.length_map, List.length_append] <;> omega) | fail)) only [go_sem]
  have pm := sameM_self m
  refine aw_draw (by kernel_rfl) ?_
  simp (maxSteps := 1000000) (disch := (first | omega | (simp only [nx_alloc, nx_upd, len_cons, len_nil, List.length_set, List.length_map, List.length_append] <;> omega) | fail)) only [go_sem, beqS, g1, ldm, hml]
  refine ⟨_, wmay_ok w0 A1 m _ hm1 sm km.2.1 km.2.2.1, ?_⟩
  try simp (maxSteps := 1000000) (disch := (first | omega | (simp only [nx_alloc, nx_upd, len_cons, len_nil, List.length_set, List.length_map, List.length_append] <;> omega) | fail)) only [go_sem, g1, ldm, hml]
  refine ⟨_, rmaym_ok w0 A1 m _ hm1 sm, ?_⟩
  try simp (maxSteps := 1000000) (disch := (first | omega | (simp only [nx_alloc, nx_upd, len_cons, len_nil, List.length_set, List.length_map, List.length_append] <;> omega) | fail)) only [go_sem, g3, ldr, hvtk]
  refine ⟨_, put_req_ok w0 A1 r _ hr1 sr kr, ?_⟩
  try simp (maxSteps := 1000000) (disch := (first | omega | (simp only [nx_alloc, nx_upd, len_cons, len_nil, List.length_set, List.length_map, List.length_append] <;> omega) | fail)) only [go_sem, g3, ldr, hvtk]
  refine ⟨_, rputq_ok w0 A1 r _ hr1 sr kr, ?_⟩
  try simp (maxSteps := 1000000) (disch := (first | omega | (simp only [nx_alloc, nx_upd, len_cons, len_nil, List.length_set, List.length_map, List.length_append] <;> omega) | fail)) only [go_sem, g1, g2, ldm, ldn, hml, hnl, beqS]
  refine ⟨_, wsame_ok w0 A1 m n _ _ hm1 hn1 sm sn, ?_⟩
  try simp (maxSteps := 1000000) (disch := (first | omega | (simp only [nx_alloc, nx_upd, len_cons, len_nil, List.length_set, List.length_map, List.length_append] <;> omega) | fail)) only [go_sem, g1, g2, ldm, ldn, hml, hnl, beqS]
  refine ⟨_, rsame_ok w0 A1 m n _ _ hm1 hn1 sm sn, ?_⟩
  try simp (maxSteps := 1000000) (disch := (first | omega | (simp only [nx_alloc, nx_upd, len_cons, len_nil, List.length_set, List.length_map, List.length_append] <;> omega) | fail)) only [go_sem, g1, g2, ldm, ldn, hml, hnl, beqS]
  refine ⟨_, wsame_ok w0 A1 m m _ _ hm1 hm1 sm sm, ?_⟩
  rw [pm]
  simp (maxSteps := 1000000) (disch := (first | omega | (simp only [nx_alloc, nx_upd, len_cons, len_nil, List.length_set, List.length_map, List.length_append] <;> omega) | fail)) only [go_sem, Try.results7]
  exact gc_fin hw o1 (.bool _)
end Go.Fw
