import Derived.Test.YtfmbflmknjlefaaFwWire14
set_option linter.unusedSimpArgs false
set_option linter.unusedVariables false
set_option maxRecDepth 4000
namespace Go.Fw
open Go.Proofs Go.RowKit
theorem Try.enters11 : Enters Try.prog 11 := enters_of Try.func11 rfl (by kernel_rfl)
theorem Try.enters12 : Enters Try.prog 12 := enters_of Try.func12 rfl (by kernel_rfl)
set_option maxHeartbeats 4000000 in
theorem maybe_ok (w0 : World) (A : St) (r : ReqT) (rc : List Value) (hr : ReqC A r rc) (hs : r.op.v.small) : ACalls Try.prog w0 11 #[.agg rc.toArray] A (fin (.bool (rightB r)) A) := by
  have hrl := hr.len
  obtain ⟨oc, rfl, vs, rfl, hvs⟩ := hr
  have hvl := hvs.len
  have hvtk : vs.take 4 = vs := List.take_of_length_le (by omega)
  refine call_E Try.enters11 Try.func11 rfl (Nat.le_of_ble_eq_true rfl) fun hw hbd => ?_
  obtain ⟨A1, hA1⟩ : ∃ A1, A1 = A.alloc (.cells (.int .i64 r.client :: .int .u32 r.seq :: .int .i64 r.op.kind :: .int .u32 r.op.id :: vs) 31 (some 0)) := ⟨_, rfl⟩
  have o1 : Over A A1 := hA1 ▸ (Over.refl A).alloc _
  have g1 : A1.get A.next = some (.cells (.int .i64 r.client :: .int .u32 r.seq :: .int .i64 r.op.kind :: .int .u32 r.op.id :: vs) 31 (some 0)) := by rw [hA1]; exact get_alloc_same ..
  have ld4 := ld_agg (sz := 4) (off := 4) (e' := 31) (m := some 0) (cells := .int .i64 r.client :: .int .u32 r.seq :: .int .i64 r.op.kind :: .int .u32 r.op.id :: vs) (cs := vs) (by simp; omega) (by rw [List.drop_succ_cons, List.drop_succ_cons, List.drop_succ_cons, List.drop_succ_cons, List.drop_zero, hvtk])
  have hv1 := (hvs.ge o1.ge).ver
  simp (maxSteps := 1000000) (disch := (first | omega | (simp only [nx_alloc, nx_upd, len_cons, len_nil, List.length_set, List.length_map, List.length_append] <;> omega) | fail)) only [go_sem, Try.ntmps11, Try.results11]
  rw [← hA1]
  by_cases c0 : r.client < 0
  · simp (maxSteps := 1000000) (disch := (first | omega | (simp only [nx_alloc, nx_upd, len_cons, len_nil, List.length_set, List.length_map, List.length_append] <;> omega) | fail)) only [go_sem, g1, c0, Try.results11]
    exact gc_fin' hw o1 (congrArg Value.bool (by unfold rightB; rw [cli_f (by omega)]; rfl)) (.bool _)
  by_cases c3 : 3 ≤ r.client
  · simp (maxSteps := 1000000) (disch := (first | omega | (simp only [nx_alloc, nx_upd, len_cons, len_nil, List.length_set, List.length_map, List.length_append] <;> omega) | fail)) only [go_sem, g1, c0, c3, Try.results11]
    exact gc_fin' hw o1 (congrArg Value.bool (by unfold rightB cliB; rw [decide_eq_false (by omega)]; rfl)) (.bool _)
  have hcl : cliB r.client = true := by unfold cliB; exact decide_eq_true (by omega)
  by_cases k1 : r.op.kind < 1
  · simp (maxSteps := 1000000) (disch := (first | omega | (simp only [nx_alloc, nx_upd, len_cons, len_nil, List.length_set, List.length_map, List.length_append] <;> omega) | fail)) only [go_sem, g1, c0, c3, k1, Try.results11]
    exact gc_fin' hw o1 (congrArg Value.bool (by unfold rightB; rw [decide_eq_false (show ¬ 1 ≤ r.op.kind by omega)]; simp)) (.bool _)
  by_cases k5 : 5 < r.op.kind
  · simp (maxSteps := 1000000) (disch := (first | omega | (simp only [nx_alloc, nx_upd, len_cons, len_nil, List.length_set, List.length_map, List.length_append] <;> omega) | fail)) only [go_sem, g1, c0, c3, k1, k5, Try.results11]
    exact gc_fin' hw o1 (congrArg Value.bool (by unfold rightB; rw [decide_eq_false (show ¬ r.op.kind ≤ 5 by omega)]; simp)) (.bool _)
  simp (maxSteps := 1000000) (disch := (first | omega | (simp only [nx_alloc, nx_upd, len_cons, len_nil, List.length_set, List.length_map, List.length_append] <;> omega) | fail)) only [go_sem, g1, c0, c3, k1, k5, ld4]
  refine call1 (rmay_ok w0 A1 r.op.v _ hv1 hs) ?_
  cases hm : mayB r.op.v
  · simp (maxSteps := 1000000) (disch := (first | omega | (simp only [nx_alloc, nx_upd, len_cons, len_nil, List.length_set, List.length_map, List.length_append] <;> omega) | fail)) only [go_sem, Try.results11]
    exact gc_fin' hw o1 (congrArg Value.bool (by unfold rightB; rw [hm]; simp)) (.bool _)
  have hb : rightB r = if r.op.kind = 1 then decide (r.op.id = 0) else eqV r.op.v verN := by unfold rightB; rw [hcl, hm, decide_eq_true (show 1 ≤ r.op.kind by omega), decide_eq_true (show r.op.kind ≤ 5 by omega)]; rfl
  rw [hb]
  by_cases hk : r.op.kind = 1
  · rw [if_pos hk]
    by_cases hid : r.op.id = 0
    · simp (maxSteps := 1000000) (disch := (first | omega | (simp only [nx_alloc, nx_upd, len_cons, len_nil, List.length_set, List.length_map, List.length_append] <;> omega) | fail)) only [go_sem, g1, hk, hid, Try.results11]
      exact gc_fin' hw o1 rfl (.bool _)
    · simp (maxSteps := 1000000) (disch := (first | omega | (simp only [nx_alloc, nx_upd, len_cons, len_nil, List.length_set, List.length_map, List.length_append] <;> omega) | fail)) only [go_sem, g1, hk, hid, Try.results11]
      exact gc_fin' hw o1 rfl (.bool _)
  · rw [if_neg hk]
    simp (maxSteps := 1000000) (disch := (first | omega | (simp only [nx_alloc, nx_upd, len_cons, len_nil, List.length_set, List.length_map, List.length_append] <;> omega) | fail)) only [go_sem, g1, hk, ld4, hvtk]
    refine call1 (rvsame_ok w0 A1 r.op.v verN _ _ hv1 (verN_c A1).ver hs verN_small) ?_
    simp (maxSteps := 1000000) (disch := (first | omega | (simp only [nx_alloc, nx_upd, len_cons, len_nil, List.length_set, List.length_map, List.length_append] <;> omega) | fail)) only [go_sem, Try.results11]
    exact gc_fin' hw o1 rfl (.bool _)
/-- Are requests the same? -/
def sameQ (a b : ReqT) : Bool := decide (a.client = b.client) && decide (a.seq = b.seq) && decide (a.op.kind = b.op.kind) && decide (a.op.id = b.op.id) && eqV a.op.v b.op.v
theorem sameQ_iff (a b : ReqT) : sameQ a b = true ↔ a = b := by
  obtain ⟨c, q, k, i, V⟩ := a
  obtain ⟨c', q', k', i', V'⟩ := b
  unfold sameQ
  simp only [Bool.and_eq_true, decide_eq_true_eq, eqV_iff]
  constructor
  · rintro ⟨⟨⟨⟨rfl, rfl⟩, rfl⟩, rfl⟩, rfl⟩; rfl
  · intro h; cases h; exact ⟨⟨⟨⟨rfl, rfl⟩, rfl⟩, rfl⟩, rfl⟩
set_option maxHeartbeats 4000000 in
theorem samerq_ok (w0 : World) (A : St) (a b : ReqT) (ac bc : List Value) (ha : ReqC A a ac) (hb : ReqC A b bc) (hs : a.op.v.small) (ht : b.op.v.small) : ACalls Try.prog w0 12 #[.agg ac.toArray, .agg bc.toArray] A (fin (.bool (sameQ a b)) A) := by
  have hal := ha.len
  have hbl := hb.len
  obtain ⟨oc, rfl, vs, rfl, hvs⟩ := ha
  obtain ⟨oc', rfl, us, rfl, hus⟩ := hb
  have hvl := hvs.len
  have hul := hus.len
  have hvtk : vs.take 4 = vs := List.take_of_length_le (by omega)
  have hutk : us.take 4 = us := List.take_of_length_le (by omega)
  refine call_E Try.enters12 Try.func12 rfl (Nat.le_of_ble_eq_true rfl) fun hw hbd => ?_
  obtain ⟨A1, hA1⟩ : ∃ A1, A1 = (A.alloc (.cells (.int .i64 a.client :: .int .u32 a.seq :: .int .i64 a.op.kind :: .int .u32 a.op.id :: vs) 31 (some 0))).alloc (.cells (.int .i64 b.client :: .int .u32 b.seq :: .int .i64 b.op.kind :: .int .u32 b.op.id :: us) 31 (some 0)) := ⟨_, rfl⟩
  have o1 : Over A A1 := hA1 ▸ ((Over.refl A).alloc _).alloc _
  have g1 : A1.get A.next = some (.cells (.int .i64 a.client :: .int .u32 a.seq :: .int .i64 a.op.kind :: .int .u32 a.op.id :: vs) 31 (some 0)) := by rw [hA1]; simp (disch := (first | omega | (simp only [nx_alloc, nx_upd, len_cons, len_nil, List.length_set, List.length_map, List.length_append] <;> omega) | fail)) only [St.get_upd, St.get_alloc, St.next_alloc, St.next_upd, ↓reduceIte, natF_lt, natF_gt, natF_ne, Nat.add_assoc, Nat.reduceAdd, Nat.reduceEqDiff, Nat.add_left_cancel_iff]
  have g2 : A1.get (A.next + 1) = some (.cells (.int .i64 b.client :: .int .u32 b.seq :: .int .i64 b.op.kind :: .int .u32 b.op.id :: us) 31 (some 0)) := by rw [hA1]; simp (disch := (first | omega | (simp only [nx_alloc, nx_upd, len_cons, len_nil, List.length_set, List.length_map, List.length_append] <;> omega) | fail)) only [St.get_upd, St.get_alloc, St.next_alloc, St.next_upd, ↓reduceIte, natF_lt, natF_gt, natF_ne, Nat.add_assoc, Nat.reduceAdd, Nat.reduceEqDiff, Nat.add_left_cancel_iff]
  have ld4 := ld_agg (sz := 4) (off := 4) (e' := 31) (m := some 0) (cells := .int .i64 a.client :: .int .u32 a.seq :: .int .i64 a.op.kind :: .int .u32 a.op.id :: vs) (cs := vs) (by simp; omega) (by rw [List.drop_succ_cons, List.drop_succ_cons, List.drop_succ_cons, List.drop_succ_cons, List.drop_zero, hvtk])
  have le4 := ld_agg (sz := 4) (off := 4) (e' := 31) (m := some 0) (cells := .int .i64 b.client :: .int .u32 b.seq :: .int .i64 b.op.kind :: .int .u32 b.op.id :: us) (cs := us) (by simp; omega) (by rw [List.drop_succ_cons, List.drop_succ_cons, List.drop_succ_cons, List.drop_succ_cons, List.drop_zero, hutk])
  have hv1 := (hvs.ge o1.ge).ver
  have hu1 := (hus.ge o1.ge).ver
  simp (maxSteps := 1000000) (disch := (first | omega | (simp only [nx_alloc, nx_upd, len_cons, len_nil, List.length_set, List.length_map, List.length_append] <;> omega) | fail)) only [go_sem, Try.ntmps12, Try.results12]
  rw [← hA1]
  by_cases c0 : a.client = b.client
  rotate_left
  · simp (maxSteps := 1000000) (disch := (first | omega | (simp only [nx_alloc, nx_upd, len_cons, len_nil, List.length_set, List.length_map, List.length_append] <;> omega) | fail)) only [go_sem, g1, g2, c0, Try.results12]
    exact gc_fin' hw o1 (congrArg Value.bool (by unfold sameQ; simp [c0])) (.bool _)
  by_cases c1 : a.seq = b.seq
  rotate_left
  · simp (maxSteps := 1000000) (disch := (first | omega | (simp only [nx_alloc, nx_upd, len_cons, len_nil, List.length_set, List.length_map, List.length_append] <;> omega) | fail)) only [go_sem, g1, g2, c0, c1, Try.results12]
    exact gc_fin' hw o1 (congrArg Value.bool (by unfold sameQ; simp [c1])) (.bool _)
  by_cases c2 : a.op.kind = b.op.kind
  rotate_left
  · simp (maxSteps := 1000000) (disch := (first | omega | (simp only [nx_alloc, nx_upd, len_cons, len_nil, List.length_set, List.length_map, List.length_append] <;> omega) | fail)) only [go_sem, g1, g2, c0, c1, c2, Try.results12]
    exact gc_fin' hw o1 (congrArg Value.bool (by unfold sameQ; simp [c2])) (.bool _)
  by_cases c3 : a.op.id = b.op.id
  rotate_left
  · simp (maxSteps := 1000000) (disch := (first | omega | (simp only [nx_alloc, nx_upd, len_cons, len_nil, List.length_set, List.length_map, List.length_append] <;> omega) | fail)) only [go_sem, g1, g2, c0, c1, c2, c3, Try.results12]
    exact gc_fin' hw o1 (congrArg Value.bool (by unfold sameQ; simp [c3])) (.bool _)
  simp (maxSteps := 1000000) (disch := (first | omega | (simp only [nx_alloc, nx_upd, len_cons, len_nil, List.length_set, List.length_map, List.length_append] <;> omega) | fail)) only [go_sem, g1, g2, c0, c1, c2, c3, ld4, le4, hvtk, hutk]
  refine call1 (rvsame_ok w0 A1 a.op.v b.op.v _ _ hv1 hu1 hs ht) ?_
  simp (maxSteps := 1000000) (disch := (first | omega | (simp only [nx_alloc, nx_upd, len_cons, len_nil, List.length_set, List.length_map, List.length_append] <;> omega) | fail)) only [go_sem, Try.results12]
  exact gc_fin' hw o1 (congrArg Value.bool (by unfold sameQ; simp [c0, c1, c2, c3])) (.bool _)
end Go.Fw
