import Derived.Test.YtfmbflmknjlefaaFwWire16
set_option linter.unusedSimpArgs false
set_option linter.unusedVariables false
set_option maxRecDepth 4000
namespace Go.Fw
open Go.Proofs Go.RowKit
theorem Try.enters3 : Enters Try.prog 3 := enters_of Try.func3 rfl (by kernel_rfl)
set_option maxHeartbeats 8000000 in
theorem requests_walk (w0 : World) (A : St) (va : Value) (a : ReqT) (vb : Value) (b : ReqT) (ha : ReqV A a va) (ka : a.okA) (hb : ReqV A b vb) (kb : b.okA) : ACalls Try.prog w0 3 #[va, vb] A (fin (.bool true) A) := by
  obtain ⟨ac, rfl, hac⟩ := ha
  obtain ⟨bc, rfl, hbc⟩ := hb
  have hac0 := hac
  have hbc0 := hbc
  obtain ⟨oc, rfl, vs, rfl, hvs⟩ := hac
  obtain ⟨oc', rfl, us, rfl, hus⟩ := hbc
  have hvl := hvs.len
  have hul := hus.len
  have hvtk : vs.take 4 = vs := List.take_of_length_le (by omega)
  have hutk : us.take 4 = us := List.take_of_length_le (by omega)
  refine call_E Try.enters3 Try.func3 rfl (Nat.le_of_ble_eq_true rfl) fun hw hbd => ?_
  obtain ⟨A1, hA1⟩ : ∃ A1, A1 = (A.alloc (.cells (.int .i64 a.client :: .int .u32 a.seq :: .int .i64 a.op.kind :: .int .u32 a.op.id :: vs) 31 (some 0))).alloc (.cells (.int .i64 b.client :: .int .u32 b.seq :: .int .i64 b.op.kind :: .int .u32 b.op.id :: us) 31 (some 0)) := ⟨_, rfl⟩
  have o1 : Over A A1 := hA1 ▸ ((Over.refl A).alloc _).alloc _
  have g1 : A1.get A.next = some (.cells (.int .i64 a.client :: .int .u32 a.seq :: .int .i64 a.op.kind :: .int .u32 a.op.id :: vs) 31 (some 0)) := by rw [hA1]; simp (disch := (first | omega | (simp only [nx_alloc, nx_upd, len_cons, len_nil, List.length_set, List.length_map, List.length_append] <;> omega) | fail)) only [St.get_upd, St.get_alloc, St.next_alloc, St.next_upd, ↓reduceIte, natF_lt, natF_gt, natF_ne, Nat.add_assoc, Nat.reduceAdd, Nat.reduceEqDiff, Nat.add_left_cancel_iff]
  have g2 : A1.get (A.next + 1) = some (.cells (.int .i64 b.client :: .int .u32 b.seq :: .int .i64 b.op.kind :: .int .u32 b.op.id :: us) 31 (some 0)) := by rw [hA1]; simp (disch := (first | omega | (simp only [nx_alloc, nx_upd, len_cons, len_nil, List.length_set, List.length_map, List.length_append] <;> omega) | fail)) only [St.get_upd, St.get_alloc, St.next_alloc, St.next_upd, ↓reduceIte, natF_lt, natF_gt, natF_ne, Nat.add_assoc, Nat.reduceAdd, Nat.reduceEqDiff, Nat.add_left_cancel_iff]
  have ld4 := ld_agg (sz := 4) (off := 4) (e' := 31) (m := some 0) (cells := .int .i64 a.client :: .int .u32 a.seq :: .int .i64 a.op.kind :: .int .u32 a.op.id :: vs) (cs := vs) (by simp; omega) (by rw [List.drop_succ_cons, List.drop_succ_cons, List.drop_succ_cons, List.drop_succ_cons, List.drop_zero, hvtk])
  have le4 := ld_agg (sz := 4) (off := 4) (e' := 31) (m := some 0) (cells := .int .i64 b.client :: .int .u32 b.seq :: .int .i64 b.op.kind :: .int .u32 b.op.id :: us) (cs := us) (by simp; omega) (by rw [List.drop_succ_cons, List.drop_succ_cons, List.drop_succ_cons, List.drop_succ_cons, List.drop_zero, hutk])
  have hv1 := (hvs.ge o1.ge).ver
  have hu1 := (hus.ge o1.ge).ver
  have hsh := shown18_ok w0 A1
  simp (maxSteps := 1000000) (disch := (first | omega | (simp only [nx_alloc, nx_upd, len_cons, len_nil, List.length_set, List.length_map, List.length_append] <;> omega) | fail)) only [go_sem, Try.ntmps3, Try.results3]
  rw [← hA1]
  simp (maxSteps := 1000000) (disch := (first | omega | (simp only [nx_alloc, nx_upd, len_cons, len_nil, List.length_set, List.length_map, List.length_append] <;> omega) | fail)) only [go_sem, g1, ld4, hvtk]
  refine call1 (much_ok w0 A1 a.op.v _ hv1) ?_
  cases ma : hvV a.op.v
  rotate_left
  · simp (maxSteps := 1000000) (disch := (first | omega | (simp only [nx_alloc, nx_upd, len_cons, len_nil, List.length_set, List.length_map, List.length_append] <;> omega) | fail)) only [go_sem]
    refine call1 hsh ?_
    simp (maxSteps := 1000000) (disch := (first | omega | (simp only [nx_alloc, nx_upd, len_cons, len_nil, List.length_set, List.length_map, List.length_append] <;> omega) | fail)) only [go_sem, Try.results3]
    exact gc_fin hw o1 (.bool _)
  simp (maxSteps := 1000000) (disch := (first | omega | (simp only [nx_alloc, nx_upd, len_cons, len_nil, List.length_set, List.length_map, List.length_append] <;> omega) | fail)) only [go_sem, g2, le4, hutk]
  refine call1 (much_ok w0 A1 b.op.v _ hu1) ?_
  cases mb : hvV b.op.v
  rotate_left
  · simp (maxSteps := 1000000) (disch := (first | omega | (simp only [nx_alloc, nx_upd, len_cons, len_nil, List.length_set, List.length_map, List.length_append] <;> omega) | fail)) only [go_sem]
    refine call1 hsh ?_
    simp (maxSteps := 1000000) (disch := (first | omega | (simp only [nx_alloc, nx_upd, len_cons, len_nil, List.length_set, List.length_map, List.length_append] <;> omega) | fail)) only [go_sem, Try.results3]
    exact gc_fin hw o1 (.bool _)
  have sa := hvV_small ma
  have sb := hvV_small mb
  simp (maxSteps := 1000000) (disch := (first | omega | (simp only [nx_alloc, nx_upd, len_cons, len_nil, List.length_set, List.length_map, List.length_append] <;> omega) | fail)) only [go_sem]
  refine call1 hsh ?_
  simp (maxSteps := 1000000) (disch := (first | omega | (simp only [nx_alloc, nx_upd, len_cons, len_nil, List.length_set, List.length_map, List.length_append] <;> omega) | fail)) only [go_sem, g1, hvtk]
  refine call1 (put_req_ok w0 A1 a _ (hac0.ge o1.ge) sa ka) ?_
  simp (maxSteps := 1000000) (disch := (first | omega | (simp only [nx_alloc, nx_upd, len_cons, len_nil, List.length_set, List.length_map, List.length_append] <;> omega) | fail)) only [go_sem, g2, hutk]
  refine call1 (put_req_ok w0 A1 b _ (hbc0.ge o1.ge) sb kb) ?_
  simp (maxSteps := 1000000) (disch := (first | omega | (simp only [nx_alloc, nx_upd, len_cons, len_nil, List.length_set, List.length_map, List.length_append] <;> omega) | fail)) only [go_sem, g1, hvtk]
  refine call1 (maybe_ok w0 A1 a _ (hac0.ge o1.ge) sa) ?_
  have empty_size : ByteArray.empty.size = 0 := rfl
  cases ra : rightB a
  · rw [putR_neg ra]
    simp (maxSteps := 1000000) (disch := (first | omega | (simp only [nx_alloc, nx_upd, len_cons, len_nil, List.length_set, List.length_map, List.length_append] <;> omega) | fail)) only [go_sem, beq_emptyS, empty_size, Try.results3]
    exact gc_fin hw o1 (.bool _)
  have pa := putR_pos ra
  have pa' : ¬ (putR a).size = 0 := by omega
  simp (maxSteps := 1000000) (disch := (first | omega | (simp only [nx_alloc, nx_upd, len_cons, len_nil, List.length_set, List.length_map, List.length_append] <;> omega) | fail)) only [go_sem, beq_emptyS, pa']
  cases rb : rightB b
  · rw [putR_neg rb]
    simp (maxSteps := 1000000) (disch := (first | omega | (simp only [nx_alloc, nx_upd, len_cons, len_nil, List.length_set, List.length_map, List.length_append] <;> omega) | fail)) only [go_sem, beq_emptyS, empty_size, Try.results3]
    exact gc_fin hw o1 (.bool _)
  have pb := putR_pos rb
  have pb' : ¬ (putR b).size = 0 := by omega
  simp (maxSteps := 1000000) (disch := (first | omega | (simp only [nx_alloc, nx_upd, len_cons, len_nil, List.length_set, List.length_map, List.length_append] <;> omega) | fail)) only [go_sem, beq_emptyS, pb', g1, g2, hvtk, hutk]
  refine call1 (samerq_ok w0 A1 a b _ _ (hac0.ge o1.ge) (hbc0.ge o1.ge) sa sb) ?_
  have hiff := putR_iff ra rb ka kb
  have hbeq : (putR a == putR b) = sameQ a b := by rw [Bool.eq_iff_iff, beqBytes, decide_eq_true_iff, hiff, sameQ_iff]
  simp (maxSteps := 1000000) (disch := (first | omega | (simp only [nx_alloc, nx_upd, len_cons, len_nil, List.length_set, List.length_map, List.length_append] <;> omega) | fail)) only [go_sem, hbeq, Try.results3]
  exact gc_fin hw o1 (.bool _)
end Go.Fw
