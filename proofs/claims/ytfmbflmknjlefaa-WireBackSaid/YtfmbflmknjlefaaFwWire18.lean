import Derived.Test.YtfmbflmknjlefaaFwWire17
set_option linter.unusedSimpArgs false
set_option linter.unusedVariables false
set_option maxRecDepth 4000
namespace Go.Fw
open Go.Proofs Go.RowKit
theorem Try.enters21 : Enters Try.prog 21 := enters_of Try.func21 rfl (by kernel_rfl)
theorem ld_sub {cells cs : List Value} {off sz : Nat} (h : (cells.drop off).take sz = cs) {j n : Nat} (hj : j + n ≤ sz) : (cells.drop (off + j)).take n = (cs.drop j).take n := by
  rw [← h, List.drop_take, List.take_take, List.drop_drop, Nat.min_eq_left (by omega)]
/-- Is a message more than the bound? -/
def hvM (m : MsgT) : Bool := decide (60 < m.log.length) || decide (40 < m.reply.ids.length) || hvV m.reply.v || decide (1200 < m.block.size) || m.log.any fun r => hvV r.op.v
theorem hvM_small {m : MsgT} (h : hvM m = false) : m.small := by
  unfold hvM at h
  simp only [Bool.or_eq_false_iff, decide_eq_false_iff_not] at h
  obtain ⟨⟨⟨⟨h1, h2⟩, h3⟩, h4⟩, h5⟩ := h
  refine ⟨fun r hr => hvV_small ?_, hvV_small h3, by omega, by omega, by omega⟩
  have := List.any_eq_false.1 h5 r hr
  simpa using this
set_option maxHeartbeats 8000000 in
theorem heavyM_ok (w0 : World) (A : St) (m : MsgT) (mc : List Value) (hm : MsgC A m mc) : ACalls Try.prog w0 21 #[.agg mc.toArray] A (fin (.bool (hvM m)) A) := by
  have hml := hm.len
  obtain ⟨lg, w, p, q, u, rfl, v1, v2, v3, v4, v5⟩ := hm
  obtain ⟨ad, ac, rfl⟩ := NV.sl v1
  obtain ⟨bd, bc, rfl⟩ := View.sl v2
  refine call_E Try.enters21 Try.func21 rfl (Nat.le_of_ble_eq_true rfl) fun hw hbd => ?_
  obtain ⟨A1, hA1⟩ : ∃ A1, A1 = A.alloc (.cells (.int .i64 m.kind :: .int .i64 m.src :: .int .i64 m.dst :: .int .u32 m.view :: .int .u32 m.last :: .int .i64 m.n :: .int .i64 m.commit :: .slice ad m.log.length ac :: .int .i64 m.client :: .int .u32 m.seq :: .int .i64 m.reply.e :: .slice bd m.reply.ids.length bc :: .int .u32 m.reply.v.id :: p :: q :: u :: (hsC m.hash ++ [.string m.block])) 45 (some 0)) := ⟨_, rfl⟩
  have o1 : Over A A1 := hA1 ▸ (Over.refl A).alloc _
  have g1 : A1.get A.next = some (.cells (.int .i64 m.kind :: .int .i64 m.src :: .int .i64 m.dst :: .int .u32 m.view :: .int .u32 m.last :: .int .i64 m.n :: .int .i64 m.commit :: .slice ad m.log.length ac :: .int .i64 m.client :: .int .u32 m.seq :: .int .i64 m.reply.e :: .slice bd m.reply.ids.length bc :: .int .u32 m.reply.v.id :: p :: q :: u :: (hsC m.hash ++ [.string m.block])) 45 (some 0)) := by rw [hA1]; exact get_alloc_same ..
  have hbk := blk_at m.hash (.string m.block)
  have ldV := ld_agg (sz := 4) (off := 12) (e' := 45) (m := some 0) (cells := .int .i64 m.kind :: .int .i64 m.src :: .int .i64 m.dst :: .int .u32 m.view :: .int .u32 m.last :: .int .i64 m.n :: .int .i64 m.commit :: .slice ad m.log.length ac :: .int .i64 m.client :: .int .u32 m.seq :: .int .i64 m.reply.e :: .slice bd m.reply.ids.length bc :: .int .u32 m.reply.v.id :: p :: q :: u :: (hsC m.hash ++ [.string m.block])) (cs := [.int .u32 m.reply.v.id, p, q, u]) (by rw [hml]; omega) rfl
  have w1 := v1.ge o1.ge
  simp (maxSteps := 1000000) (disch := (first | omega | (simp only [nx_alloc, nx_upd, len_cons, len_nil, List.length_set, List.length_map, List.length_append] <;> omega) | fail)) only [go_sem, Try.ntmps21, Try.results21]
  rw [← hA1]
  by_cases b0 : 60 < (m.log.length : Int)
  · simp (maxSteps := 1000000) (disch := (first | omega | (simp only [nx_alloc, nx_upd, len_cons, len_nil, List.length_set, List.length_map, List.length_append] <;> omega) | fail)) only [go_sem, g1, hbk, ldV, b0, Try.results21]
    exact gc_fin' hw o1 (congrArg Value.bool (by unfold hvM; simp [show 60 < m.log.length by omega])) (.bool _)
  try simp (maxSteps := 1000000) (disch := (first | omega | (simp only [nx_alloc, nx_upd, len_cons, len_nil, List.length_set, List.length_map, List.length_append] <;> omega) | fail)) only [go_sem, g1, b0, hbk, ldV]
  by_cases b1 : 40 < (m.reply.ids.length : Int)
  · simp (maxSteps := 1000000) (disch := (first | omega | (simp only [nx_alloc, nx_upd, len_cons, len_nil, List.length_set, List.length_map, List.length_append] <;> omega) | fail)) only [go_sem, g1, hbk, ldV, b1, Try.results21]
    exact gc_fin' hw o1 (congrArg Value.bool (by unfold hvM; simp [show 40 < m.reply.ids.length by omega])) (.bool _)
  simp (maxSteps := 1000000) (disch := (first | omega | (simp only [nx_alloc, nx_upd, len_cons, len_nil, List.length_set, List.length_map, List.length_append] <;> omega) | fail)) only [go_sem, g1, b1, hbk, ldV]
  refine call1 (much_ok w0 A1 m.reply.v _ ⟨_, _, _, rfl, View.over v3 o1, View.over v4 o1, View.over v5 o1⟩) ?_
  cases b2 : hvV m.reply.v
  rotate_left
  · simp (maxSteps := 1000000) (disch := (first | omega | (simp only [nx_alloc, nx_upd, len_cons, len_nil, List.length_set, List.length_map, List.length_append] <;> omega) | fail)) only [go_sem, g1, hbk, ldV, Try.results21]
    exact gc_fin' hw o1 (congrArg Value.bool (by unfold hvM; simp [b2])) (.bool _)
  simp (maxSteps := 1000000) (disch := (first | omega | (simp only [nx_alloc, nx_upd, len_cons, len_nil, List.length_set, List.length_map, List.length_append] <;> omega) | fail)) only [go_sem, g1, hbk, ldV]
  by_cases b3 : 1200 < (m.block.size : Int)
  · simp (maxSteps := 1000000) (disch := (first | omega | (simp only [nx_alloc, nx_upd, len_cons, len_nil, List.length_set, List.length_map, List.length_append] <;> omega) | fail)) only [go_sem, g1, hbk, ldV, b3, Try.results21]
    exact gc_fin' hw o1 (congrArg Value.bool (by unfold hvM; simp [show 1200 < m.block.size by omega])) (.bool _)
  simp (maxSteps := 1000000) (disch := (first | omega | (simp only [nx_alloc, nx_upd, len_cons, len_nil, List.length_set, List.length_map, List.length_append] <;> omega) | fail)) only [go_sem, g1, b3, hbk, ldV]
  have hb : hvM m = m.log.any fun r => hvV r.op.v := by unfold hvM; rw [b2, decide_eq_false (show ¬ 60 < m.log.length by omega), decide_eq_false (show ¬ 40 < m.reply.ids.length by omega), decide_eq_false (show ¬ 1200 < m.block.size by omega)]; rfl
  rw [hb]
  refine aw_loop (fun k x A' => ∃ (ρ : Nat → Value) (i : Nat), x = E 42 ρ [] ∧ A' = A1 ∧ k = m.log.length - i ∧ i ≤ m.log.length ∧ ((m.log.take i).any fun r => hvV r.op.v) = false ∧
      ρ 1 = .pointer (some ⟨A.next, 0, none⟩) ∧ ρ 3 = .int .i64 i) m.log.length
    ⟨_, 0, rfl, rfl, rfl, Nat.zero_le _, rfl, rfl, rfl⟩ ?_
  rintro k x A' ⟨ρ, i, rfl, rfl, hk, hi, hno, r1, r3⟩
  refine aw_of ?_
  by_cases hend : i = m.log.length
  · have e1 : ¬ ((i : Int) < m.log.length) := by omega
    rw [hend, List.take_length] at hno
    simp (maxSteps := 1000000) (disch := (first | omega | (simp only [nx_alloc, nx_upd, len_cons, len_nil, List.length_set, List.length_map, List.length_append] <;> omega) | fail)) only [go_sem, g1, r1, r3, Try.results21]
    exact gc_fin' hw o1 (by rw [hno]) (.bool _)
  have e1 : ((i : Int) < m.log.length) := by omega
  obtain ⟨r, hr⟩ : ∃ r, m.log[i]? = some r := ⟨m.log[i]'(by omega), List.getElem?_eq_getElem (by omega)⟩
  obtain ⟨b, off, qc, q1, q2, q3, q4, cells, e', md, q5, q6, q7⟩ := w1.at (P := Try.prog) (e := 31) Try.sz31 hr
  obtain ⟨oc, rfl, vs, rfl, hvs⟩ := q3
  have hvl := hvs.len
  have hld : loadC (some true) (some 4) (some (.cells cells e' md)) (off + 4) = some (.agg vs.toArray) := by
    refine ld_agg (by omega) ?_
    rw [ld_sub q7 (by decide)]
    simp only [List.drop_succ_cons, List.drop_zero]
    exact List.take_of_length_le (by omega)
  simp (maxSteps := 1000000) (disch := (first | omega | (simp only [nx_alloc, nx_upd, len_cons, len_nil, List.length_set, List.length_map, List.length_append] <;> omega) | fail)) only [go_sem, g1, r1, r3, q2, q5, hld]
  refine call1 (much_ok w0 A' r.op.v _ hvs.ver) ?_
  cases hm : hvV r.op.v
  · simp (maxSteps := 1000000) (disch := (first | omega | (simp only [nx_alloc, nx_upd, len_cons, len_nil, List.length_set, List.length_map, List.length_append] <;> omega) | fail)) only [go_sem, r3]
    refine ⟨k - 1, by omega, _, i + 1, rfl, by omega, by omega, ?_, ?_, ?_⟩
    · rw [List.take_add_one, hr, List.any_append, hno]; simp [hm]
    · simp (maxSteps := 1000000) (disch := (first | omega | (simp only [nx_alloc, nx_upd, len_cons, len_nil, List.length_set, List.length_map, List.length_append] <;> omega) | fail)) only [go_sem, r1]
    · simp (maxSteps := 1000000) (disch := (first | omega | (simp only [nx_alloc, nx_upd, len_cons, len_nil, List.length_set, List.length_map, List.length_append] <;> omega) | fail)) only [go_sem]
      rfl
  · simp (maxSteps := 1000000) (disch := (first | omega | (simp only [nx_alloc, nx_upd, len_cons, len_nil, List.length_set, List.length_map, List.length_append] <;> omega) | fail)) only [go_sem, Try.results21]
    refine gc_fin' hw o1 (congrArg Value.bool ?_) (.bool _)
    exact (List.any_eq_true.2 ⟨r, List.mem_of_getElem? hr, hm⟩).symm
end Go.Fw
