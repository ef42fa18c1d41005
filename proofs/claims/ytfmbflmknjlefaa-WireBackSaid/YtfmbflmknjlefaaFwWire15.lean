import Derived.Test.YtfmbflmknjlefaaFwWire14
set_option linter.unusedSimpArgs false
set_option linter.unusedVariables false
set_option maxRecDepth 4000
namespace Go.Fw
open Go.Proofs Go.RowKit
theorem Try.enters12 : Enters Try.prog 12 := enters_of Try.func12 rfl (by kernel_rfl)
/-- Are requests the same? -/
def sameQ (a b : ReqT) : Bool := decide (a.client = b.client) && decide (a.seq = b.seq) && decide (a.op.kind = b.op.kind) && decide (a.op.id = b.op.id) && eqV a.op.v b.op.v
theorem sameQ_iff (a b : ReqT) : sameQ a b = true ↔ a = b := by
  obtain ⟨c, q, k, i, V⟩ := a
  obtain ⟨c', q', k', i', V'⟩ := b
  unfold sameQ
  simp only [Bool.and_eq_true, decide_eq_true_eq, eqV_iff]
  constructor
  · rintro ⟨⟨⟨⟨rfl, rfl⟩, rfl⟩, rfl⟩, rfl⟩; rfl
  · intro h; cases h; exact ⟨⟨⟨⟨rfl, rfl⟩, rfl⟩, rfl⟩, rfl⟩
set_option maxHeartbeats 4000000 in
theorem samerq_ok (w0 : World) (A : St) (a b : ReqT) (ac bc : List Value) (ha : ReqC A a ac) (hb : ReqC A b bc) (hs : a.op.v.small) (ht : b.op.v.small) : ACalls Try.prog w0 12 #[.agg ac.toArray, .agg bc.toArray] A (fin (.bool (sameQ a b)) A) := by
  have hal := ha.len
  have hbl := hb.len
  obtain ⟨oc, rfl, vs, rfl, hvs⟩ := ha
  obtain ⟨oc', rfl, us, rfl, hus⟩ := hb
  have hvl := hvs.len
  have hul := hus.len
  have hvtk : vs.take 4 = vs := List.take_of_length_le (by omega)
  have hutk : us.take 4 = us := List.take_of_length_le (by omega)
  refine call_E Try.enters12 Try.func12 rfl (Nat.le_of_ble_eq_true rfl) fun hw hbd => ?_
  obtain ⟨A1, hA1⟩ : ∃ A1, A1 = (A.alloc (.cells (.int .i64 a.client :: .int .u32 a.seq :: .int .i64 a.op.kind :: .int .u32 a.op.id :: vs) 31 (some 0))).alloc (.cells (.int .i64 b.client :: .int .u32 b.seq :: .int .i64 b.op.kind :: .int .u32 b.op.id :: us) 31 (some 0)) := ⟨_, rfl⟩
  have o1 : Over A A1 := hA1 ▸ ((Over.refl A).alloc _).alloc _
  have g1 : A1.get A.next = some (.cells (.int .i64 a.client :: .int .u32 a.seq :: .int .i64 a.op.kind :: .int .u32 a.op.id :: vs) 31 (some 0)) := by rw [hA1]; simp (disch := (first | omega | (simp only [nx_alloc, nx_upd, len_cons, len_nil, List.length_set, List.length_map, List.length_append] <;> omega) | fail)) only [St.get_upd, St.get_alloc, St.next_alloc, St.next_upd, ↓reduceIte, natF_lt, natF_gt, natF_ne, Nat.add_assoc, Nat.reduceAdd, Nat.reduceEqDiff, Nat.add_left_cancel_iff]
  have g2 : A1.get (A.next + 1) = some (.cells (.int .i64 b.client :: .int .u32 b.seq :: .int .i64 b.op.kind :: .int .u32 b.op.id :: us) 31 (some 0)) := by rw [hA1]; simp (disch := (first | omega | (simp only [nx_alloc, nx_upd, len_cons, len_nil, List.length_set, List.length_map, List.length_append] <;> omega) | fail)) only [St.get_upd, St.get_alloc, St.next_alloc, St.next_upd, ↓reduceIte, natF_lt, natF_gt, natF_ne, Nat.add_assoc, Nat.reduceAdd, Nat.reduceEqDiff, Nat.add_left_cancel_iff]
  have ld4 := ld_agg (sz := 4) (off := 4) (e' := 31) (m := some 0) (cells := .int .i64 a.client :: .int .u32 a.seq :: .int .i64 a.op.kind :: .int .u32 a.op.id :: vs) (cs := vs) (by simp; omega) (by rw [List.drop_succ_cons, List.drop_succ_cons, List.drop_succ_cons, List.drop_succ_cons, List.drop_zero, hvtk])
  have le4 := ld_agg (sz := 4) (off := 4) (e' := 31) (m := some 0) (cells := .int .i64 b.client :: .int .u32 b.seq :: .int .i64 b.op.kind :: .int .u32 b.op.id :: us) (cs := us) (by simp; omega) (by rw [List.drop_succ_cons, List.drop_succ_cons, List.drop_succ_cons, List.drop_succ_cons, List.drop_zero, hutk])
  have hv1 := (hvs.ge o1.ge).ver
  have hu1 := (hus.ge o1.ge).ver
  simp (maxSteps := 1000000) (disch := (first | omega | (simp only [nx_alloc, nx_upd, len_cons, len_nil, List.length_set, List.length_map, List.length_append] <;> omega) | fail)) only [go_sem, Try.ntmps12, Try.results12]
  rw [← hA1]
  by_cases c0 : a.client = b.client
  rotate_left
  · simp (maxSteps := 1000000) (disch := (first | omega | (simp only [nx_alloc, nx_upd, len_cons, len_nil, List.length_set, List.length_map, List.length_append] <;> omega) | fail)) only [go_sem, g1, g2, c0, Try.results12]
    exact gc_fin' hw o1 (congrArg Value.bool (by unfold sameQ; simp [c0])) (.bool _)
  by_cases c1 : a.seq = b.seq
  rotate_left
  · simp (maxSteps := 1000000) (disch := (first | omega | (simp only [nx_alloc, nx_upd, len_cons, len_nil, List.length_set, List.length_map, List.length_append] <;> omega) | fail)) only [go_sem, g1, g2, c0, c1, Try.results12]
    exact gc_fin' hw o1 (congrArg Value.bool (by unfold sameQ; simp [c1])) (.bool _)
  by_cases c2 : a.op.kind = b.op.kind
  rotate_left
  · simp (maxSteps := 1000000) (disch := (first | omega | (simp only [nx_alloc, nx_upd, len_cons, len_nil, List.length_set, List.length_map, List.length_append] <;> omega) | fail)) only [go_sem, g1, g2, c0, c1, c2, Try.results12]
    exact gc_fin' hw o1 (congrArg Value.bool (by unfold sameQ; simp [c2])) (.bool _)
  by_cases c3 : a.op.id = b.op.id
  rotate_left
  · simp (maxSteps := 1000000) (disch := (first | omega | (simp only [nx_alloc, nx_upd, len_cons, len_nil, List.length_set, List.length_map, List.length_append] <;> omega) | fail)) only [go_sem, g1, g2, c0, c1, c2, c3, Try.results12]
    exact gc_fin' hw o1 (congrArg Value.bool (by unfold sameQ; simp [c3])) (.bool _)
  simp (maxSteps := 1000000) (disch := (first | omega | (simp only [nx_alloc, nx_upd, len_cons, len_nil, List.length_set, List.length_map, List.length_append] <;> omega) | fail)) only [go_sem, g1, g2, c0, c1, c2, c3, ld4, le4, hvtk, hutk]
  refine call1 (rvsame_ok w0 A1 a.op.v b.op.v _ _ hv1 hu1 hs ht) ?_
  simp (maxSteps := 1000000) (disch := (first | omega | (simp only [nx_alloc, nx_upd, len_cons, len_nil, List.length_set, List.length_map, List.length_append] <;> omega) | fail)) only [go_sem, Try.results12]
  exact gc_fin' hw o1 (congrArg Value.bool (by unfold sameQ; simp [c0, c1, c2, c3])) (.bool _)
end Go.Fw
