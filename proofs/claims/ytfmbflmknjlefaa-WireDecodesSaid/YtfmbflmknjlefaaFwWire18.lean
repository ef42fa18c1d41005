import Derived.Test.YtfmbflmknjlefaaFwWire17
set_option linter.unusedSimpArgs false
set_option linter.unusedVariables false
set_option maxRecDepth 4000
namespace Go.Fw
open Go.Proofs Go.RowKit
theorem Try.enters23 : Enters Try.prog 23 := enters_of Try.func23 rfl (by kernel_rfl)
theorem ops_lo {n : Int} (h : n < 0) : opsB n = false := by unfold opsB; exact decide_eq_false (by omega)
theorem ops_hi {n : Int} (h : 40 < n) : opsB n = false := by unfold opsB; exact decide_eq_false (by omega)
theorem ops_in {n : Int} (h : ¬ n < 0) (k : ¬ 40 < n) : opsB n = true := by unfold opsB; exact decide_eq_true (by omega)
theorem cli_lo {n : Int} (h : ¬ 0 ≤ n) : cliB n = false := by unfold cliB; exact decide_eq_false (by omega)
theorem cli_hi {n : Int} (h : ¬ n < 3) : cliB n = false := by unfold cliB; exact decide_eq_false (by omega)
theorem cli_in {n : Int} (h : 0 ≤ n) (k : n < 3) : cliB n = true := by unfold cliB; exact decide_eq_true (by omega)
set_option maxHeartbeats 16000000 in
theorem rmaym_ok (w0 : World) (A : St) (m : MsgT) (mc : List Value) (hm : MsgC A m mc) (hs : m.small) : ACalls Try.prog w0 23 #[.agg mc.toArray] A (fin (.bool (mayM m)) A) := by
  have hml := hm.len
  obtain ⟨s1, s2, s3, s4, s5⟩ := hs
  obtain ⟨lg, w, p, q, u, rfl, v1, v2, v3, v4, v5⟩ := hm
  obtain ⟨ad, ac, rfl⟩ := NV.sl v1
  obtain ⟨bd, bc, rfl⟩ := View.sl v2
  refine call_E Try.enters23 Try.func23 rfl (Nat.le_of_ble_eq_true rfl) fun hw hbd => ?_
  obtain ⟨A1, hA1⟩ : ∃ A1, A1 = A.alloc (.cells (.int .i64 m.kind :: .int .i64 m.src :: .int .i64 m.dst :: .int .u32 m.view :: .int .u32 m.last :: .int .i64 m.n :: .int .i64 m.commit :: .slice ad m.log.length ac :: .int .i64 m.client :: .int .u32 m.seq :: .int .i64 m.reply.e :: .slice bd m.reply.ids.length bc :: .int .u32 m.reply.v.id :: p :: q :: u :: (hsC m.hash ++ [.string m.block])) 53 (some 0)) := ⟨_, rfl⟩
  have o1 : Over A A1 := hA1 ▸ (Over.refl A).alloc _
  have g1 : A1.get A.next = some (.cells (.int .i64 m.kind :: .int .i64 m.src :: .int .i64 m.dst :: .int .u32 m.view :: .int .u32 m.last :: .int .i64 m.n :: .int .i64 m.commit :: .slice ad m.log.length ac :: .int .i64 m.client :: .int .u32 m.seq :: .int .i64 m.reply.e :: .slice bd m.reply.ids.length bc :: .int .u32 m.reply.v.id :: p :: q :: u :: (hsC m.hash ++ [.string m.block])) 53 (some 0)) := by rw [hA1]; exact get_alloc_same ..
  have hbk := blk_at m.hash (.string m.block)
  have ldV := ld_agg (sz := 4) (off := 12) (e' := 53) (m := some 0) (cells := .int .i64 m.kind :: .int .i64 m.src :: .int .i64 m.dst :: .int .u32 m.view :: .int .u32 m.last :: .int .i64 m.n :: .int .i64 m.commit :: .slice ad m.log.length ac :: .int .i64 m.client :: .int .u32 m.seq :: .int .i64 m.reply.e :: .slice bd m.reply.ids.length bc :: .int .u32 m.reply.v.id :: p :: q :: u :: (hsC m.hash ++ [.string m.block])) (cs := [.int .u32 m.reply.v.id, p, q, u]) (by rw [hml]; omega) rfl
  have w1 := v1.ge o1.ge
  simp (maxSteps := 1000000) (disch := (first | omega | (simp only [nx_alloc, nx_upd, len_cons, len_nil, List.length_set, List.length_map, List.length_append] <;> omega) | fail)) only [go_sem, Try.ntmps23, Try.results23]
  rw [← hA1]
  by_cases b0 : m.kind < 1
  · simp (maxSteps := 1000000) (disch := (first | omega | (simp only [nx_alloc, nx_upd, len_cons, len_nil, List.length_set, List.length_map, List.length_append] <;> omega) | fail)) only [go_sem, g1, hbk, ldV, b0, Try.results23]
    exact gc_fin' hw o1 (congrArg Value.bool (by unfold mayM; simp [show ¬ 1 ≤ m.kind by omega])) (.bool _)
  try simp (maxSteps := 1000000) (disch := (first | omega | (simp only [nx_alloc, nx_upd, len_cons, len_nil, List.length_set, List.length_map, List.length_append] <;> omega) | fail)) only [go_sem, g1, b0, hbk, ldV]
  by_cases b1 : 14 < m.kind
  · simp (maxSteps := 1000000) (disch := (first | omega | (simp only [nx_alloc, nx_upd, len_cons, len_nil, List.length_set, List.length_map, List.length_append] <;> omega) | fail)) only [go_sem, g1, hbk, ldV, b1, Try.results23]
    exact gc_fin' hw o1 (congrArg Value.bool (by unfold mayM; simp [show 1 ≤ m.kind by omega, show ¬ m.kind ≤ 14 by omega])) (.bool _)
  try simp (maxSteps := 1000000) (disch := (first | omega | (simp only [nx_alloc, nx_upd, len_cons, len_nil, List.length_set, List.length_map, List.length_append] <;> omega) | fail)) only [go_sem, g1, b1, hbk, ldV]
  refine call1 (rend_ok w0 A1 m.src) ?_
  cases b2 : endB m.src
  · simp (maxSteps := 1000000) (disch := (first | omega | (simp only [nx_alloc, nx_upd, len_cons, len_nil, List.length_set, List.length_map, List.length_append] <;> omega) | fail)) only [go_sem, g1, hbk, ldV, Try.results23]
    exact gc_fin' hw o1 (congrArg Value.bool (by unfold mayM; simp [show 1 ≤ m.kind by omega, show m.kind ≤ 14 by omega, b2])) (.bool _)
  simp (maxSteps := 1000000) (disch := (first | omega | (simp only [nx_alloc, nx_upd, len_cons, len_nil, List.length_set, List.length_map, List.length_append] <;> omega) | fail)) only [go_sem, g1, hbk, ldV]
  refine call1 (rend_ok w0 A1 m.dst) ?_
  cases b3 : endB m.dst
  · simp (maxSteps := 1000000) (disch := (first | omega | (simp only [nx_alloc, nx_upd, len_cons, len_nil, List.length_set, List.length_map, List.length_append] <;> omega) | fail)) only [go_sem, g1, hbk, ldV, Try.results23]
    exact gc_fin' hw o1 (congrArg Value.bool (by unfold mayM; simp [show 1 ≤ m.kind by omega, show m.kind ≤ 14 by omega, b2, b3])) (.bool _)
  simp (maxSteps := 1000000) (disch := (first | omega | (simp only [nx_alloc, nx_upd, len_cons, len_nil, List.length_set, List.length_map, List.length_append] <;> omega) | fail)) only [go_sem, g1, hbk, ldV]
  by_cases c0 : m.n < 0
  · simp (maxSteps := 1000000) (disch := (first | omega | (simp only [nx_alloc, nx_upd, len_cons, len_nil, List.length_set, List.length_map, List.length_append] <;> omega) | fail)) only [go_sem, g1, hbk, ldV, c0, Try.results23]
    exact gc_fin' hw o1 (congrArg Value.bool (by unfold mayM; simp [show 1 ≤ m.kind by omega, show m.kind ≤ 14 by omega, b2, b3, ops_lo c0])) (.bool _)
  try simp (maxSteps := 1000000) (disch := (first | omega | (simp only [nx_alloc, nx_upd, len_cons, len_nil, List.length_set, List.length_map, List.length_append] <;> omega) | fail)) only [go_sem, g1, c0, hbk, ldV]
  by_cases c1 : 40 < m.n
  · simp (maxSteps := 1000000) (disch := (first | omega | (simp only [nx_alloc, nx_upd, len_cons, len_nil, List.length_set, List.length_map, List.length_append] <;> omega) | fail)) only [go_sem, g1, hbk, ldV, c1, Try.results23]
    exact gc_fin' hw o1 (congrArg Value.bool (by unfold mayM; simp [show 1 ≤ m.kind by omega, show m.kind ≤ 14 by omega, b2, b3, show True from trivial, ops_hi c1])) (.bool _)
  try simp (maxSteps := 1000000) (disch := (first | omega | (simp only [nx_alloc, nx_upd, len_cons, len_nil, List.length_set, List.length_map, List.length_append] <;> omega) | fail)) only [go_sem, g1, c1, hbk, ldV]
  by_cases d0 : m.commit < 0
  · simp (maxSteps := 1000000) (disch := (first | omega | (simp only [nx_alloc, nx_upd, len_cons, len_nil, List.length_set, List.length_map, List.length_append] <;> omega) | fail)) only [go_sem, g1, hbk, ldV, d0, Try.results23]
    exact gc_fin' hw o1 (congrArg Value.bool (by unfold mayM; simp [show 1 ≤ m.kind by omega, show m.kind ≤ 14 by omega, b2, b3, show True from trivial, ops_in c0 c1, ops_lo d0])) (.bool _)
  try simp (maxSteps := 1000000) (disch := (first | omega | (simp only [nx_alloc, nx_upd, len_cons, len_nil, List.length_set, List.length_map, List.length_append] <;> omega) | fail)) only [go_sem, g1, d0, hbk, ldV]
  by_cases d1 : 40 < m.commit
  · simp (maxSteps := 1000000) (disch := (first | omega | (simp only [nx_alloc, nx_upd, len_cons, len_nil, List.length_set, List.length_map, List.length_append] <;> omega) | fail)) only [go_sem, g1, hbk, ldV, d1, Try.results23]
    exact gc_fin' hw o1 (congrArg Value.bool (by unfold mayM; simp [show 1 ≤ m.kind by omega, show m.kind ≤ 14 by omega, b2, b3, show True from trivial, ops_in c0 c1, show True from trivial, ops_hi d1])) (.bool _)
  try simp (maxSteps := 1000000) (disch := (first | omega | (simp only [nx_alloc, nx_upd, len_cons, len_nil, List.length_set, List.length_map, List.length_append] <;> omega) | fail)) only [go_sem, g1, d1, hbk, ldV]
  have l0 : ¬ ((m.log.length : Int) < 0) := by omega
  by_cases l1 : 40 < (m.log.length : Int)
  · simp (maxSteps := 1000000) (disch := (first | omega | (simp only [nx_alloc, nx_upd, len_cons, len_nil, List.length_set, List.length_map, List.length_append] <;> omega) | fail)) only [go_sem, g1, hbk, ldV, l1, Try.results23]
    exact gc_fin' hw o1 (congrArg Value.bool (by unfold mayM; simp [show 1 ≤ m.kind by omega, show m.kind ≤ 14 by omega, b2, b3, show True from trivial, ops_in c0 c1, show True from trivial, ops_in d0 d1, ops_hi l1])) (.bool _)
  try simp (maxSteps := 1000000) (disch := (first | omega | (simp only [nx_alloc, nx_upd, len_cons, len_nil, List.length_set, List.length_map, List.length_append] <;> omega) | fail)) only [go_sem, g1, l1, hbk, ldV]
  refine aw_loop (fun k x A' => ∃ (ρ : Nat → Value) (i : Nat), x = E 103 ρ [] ∧ A' = A1 ∧ k = m.log.length - i ∧ i ≤ m.log.length ∧ (m.log.take i).all rightB = true ∧
      ρ 1 = .pointer (some ⟨A.next, 0, none⟩) ∧ ρ 3 = .int .i64 i) m.log.length
    ⟨_, 0, rfl, rfl, rfl, Nat.zero_le _, rfl, rfl, rfl⟩ ?_
  rintro k x A' ⟨ρ, i, rfl, rfl, hk, hi, hno, r1, r3⟩
  refine aw_of ?_
  by_cases hend : i = m.log.length
  rotate_left
  · have e1 : ((i : Int) < m.log.length) := by omega
    obtain ⟨r, hr⟩ : ∃ r, m.log[i]? = some r := ⟨m.log[i]'(by omega), List.getElem?_eq_getElem (by omega)⟩
    obtain ⟨b, off, qc, q1, q2, q3, q4, cells, e', md, q5, q6, q7⟩ := w1.at (P := Try.prog) (e := 31) Try.sz31 hr
    have hldq := ld_agg (e' := e') (m := md) q6 q7
    simp (maxSteps := 1000000) (disch := (first | omega | (simp only [nx_alloc, nx_upd, len_cons, len_nil, List.length_set, List.length_map, List.length_append] <;> omega) | fail)) only [go_sem, g1, r1, r3, q2, q5, hldq]
    refine call1 (maybe_ok w0 A' r qc q3 (s1 r (List.mem_of_getElem? hr))) ?_
    cases hlo : rightB r
    · simp (maxSteps := 1000000) (disch := (first | omega | (simp only [nx_alloc, nx_upd, len_cons, len_nil, List.length_set, List.length_map, List.length_append] <;> omega) | fail)) only [go_sem, Try.results23]
      have : m.log.all rightB = false := List.all_eq_false.2 ⟨_, List.mem_of_getElem? hr, by rw [hlo]; simp⟩
      exact gc_fin' hw o1 (congrArg Value.bool (by unfold mayM; simp [this])) (.bool _)
    · simp (maxSteps := 1000000) (disch := (first | omega | (simp only [nx_alloc, nx_upd, len_cons, len_nil, List.length_set, List.length_map, List.length_append] <;> omega) | fail)) only [go_sem, r3]
      refine ⟨k - 1, by omega, _, i + 1, rfl, by omega, by omega, ?_, ?_, ?_⟩
      · rw [List.take_add_one, hr, List.all_append, hno]; simp [hlo]
      · simp (maxSteps := 1000000) (disch := (first | omega | (simp only [nx_alloc, nx_upd, len_cons, len_nil, List.length_set, List.length_map, List.length_append] <;> omega) | fail)) only [go_sem, r1]
      · simp (maxSteps := 1000000) (disch := (first | omega | (simp only [nx_alloc, nx_upd, len_cons, len_nil, List.length_set, List.length_map, List.length_append] <;> omega) | fail)) only [go_sem]
        rfl
  have e1 : ¬ ((i : Int) < m.log.length) := by omega
  rw [hend, List.take_length] at hno
  subst hend
  simp (maxSteps := 1000000) (disch := (first | omega | (simp only [nx_alloc, nx_upd, len_cons, len_nil, List.length_set, List.length_map, List.length_append] <;> omega) | fail)) only [go_sem, g1, r1, r3]
  by_cases b8 : 0 ≤ m.client
  rotate_left
  · simp (maxSteps := 1000000) (disch := (first | omega | (simp only [nx_alloc, nx_upd, len_cons, len_nil, List.length_set, List.length_map, List.length_append] <;> omega) | fail)) only [go_sem, g1, r1, hbk, ldV, b8, Try.results23]
    exact gc_fin' hw o1 (congrArg Value.bool (by unfold mayM; simp [show 1 ≤ m.kind by omega, show m.kind ≤ 14 by omega, b2, b3, show True from trivial, ops_in c0 c1, show True from trivial, ops_in d0 d1, ops_in l0 l1, hno, cli_lo b8])) (.bool _)
  try simp (maxSteps := 1000000) (disch := (first | omega | (simp only [nx_alloc, nx_upd, len_cons, len_nil, List.length_set, List.length_map, List.length_append] <;> omega) | fail)) only [go_sem, g1, r1, b8, hbk, ldV]
  by_cases b9 : m.client < 3
  rotate_left
  · simp (maxSteps := 1000000) (disch := (first | omega | (simp only [nx_alloc, nx_upd, len_cons, len_nil, List.length_set, List.length_map, List.length_append] <;> omega) | fail)) only [go_sem, g1, r1, hbk, ldV, b9, Try.results23]
    exact gc_fin' hw o1 (congrArg Value.bool (by unfold mayM; simp [show 1 ≤ m.kind by omega, show m.kind ≤ 14 by omega, b2, b3, show True from trivial, ops_in c0 c1, show True from trivial, ops_in d0 d1, ops_in l0 l1, hno, show True from trivial, cli_hi b9])) (.bool _)
  try simp (maxSteps := 1000000) (disch := (first | omega | (simp only [nx_alloc, nx_upd, len_cons, len_nil, List.length_set, List.length_map, List.length_append] <;> omega) | fail)) only [go_sem, g1, r1, b9, hbk, ldV]
  by_cases f0 : 0 ≤ m.reply.e
  rotate_left
  · simp (maxSteps := 1000000) (disch := (first | omega | (simp only [nx_alloc, nx_upd, len_cons, len_nil, List.length_set, List.length_map, List.length_append] <;> omega) | fail)) only [go_sem, g1, r1, hbk, ldV, f0, Try.results23]
    exact gc_fin' hw o1 (congrArg Value.bool (by unfold mayM; simp [show 1 ≤ m.kind by omega, show m.kind ≤ 14 by omega, b2, b3, show True from trivial, ops_in c0 c1, show True from trivial, ops_in d0 d1, ops_in l0 l1, hno, show True from trivial, cli_in b8 b9, f0])) (.bool _)
  try simp (maxSteps := 1000000) (disch := (first | omega | (simp only [nx_alloc, nx_upd, len_cons, len_nil, List.length_set, List.length_map, List.length_append] <;> omega) | fail)) only [go_sem, g1, r1, f0, hbk, ldV]
  by_cases f1 : m.reply.e ≤ 1000
  rotate_left
  · simp (maxSteps := 1000000) (disch := (first | omega | (simp only [nx_alloc, nx_upd, len_cons, len_nil, List.length_set, List.length_map, List.length_append] <;> omega) | fail)) only [go_sem, g1, r1, hbk, ldV, f1, Try.results23]
    exact gc_fin' hw o1 (congrArg Value.bool (by unfold mayM; simp [show 1 ≤ m.kind by omega, show m.kind ≤ 14 by omega, b2, b3, show True from trivial, ops_in c0 c1, show True from trivial, ops_in d0 d1, ops_in l0 l1, hno, show True from trivial, cli_in b8 b9, f0, f1])) (.bool _)
  try simp (maxSteps := 1000000) (disch := (first | omega | (simp only [nx_alloc, nx_upd, len_cons, len_nil, List.length_set, List.length_map, List.length_append] <;> omega) | fail)) only [go_sem, g1, r1, f1, hbk, ldV]
  by_cases i1 : ((m.reply.ids.length : Nat) : Int) ≤ 8
  rotate_left
  · simp (maxSteps := 1000000) (disch := (first | omega | (simp only [nx_alloc, nx_upd, len_cons, len_nil, List.length_set, List.length_map, List.length_append] <;> omega) | fail)) only [go_sem, g1, r1, hbk, ldV, i1, Try.results23]
    exact gc_fin' hw o1 (congrArg Value.bool (by unfold mayM; simp [show 1 ≤ m.kind by omega, show m.kind ≤ 14 by omega, b2, b3, show True from trivial, ops_in c0 c1, show True from trivial, ops_in d0 d1, ops_in l0 l1, hno, show True from trivial, cli_in b8 b9, f0, f1, show ¬ m.reply.ids.length ≤ 8 by omega])) (.bool _)
  try simp (maxSteps := 1000000) (disch := (first | omega | (simp only [nx_alloc, nx_upd, len_cons, len_nil, List.length_set, List.length_map, List.length_append] <;> omega) | fail)) only [go_sem, g1, r1, i1, hbk, ldV]
  refine call1 (rmay_ok w0 A' m.reply.v _ ⟨_, _, _, rfl, View.over v3 o1, View.over v4 o1, View.over v5 o1⟩ s2) ?_
  cases b12 : mayB m.reply.v
  · simp (maxSteps := 1000000) (disch := (first | omega | (simp only [nx_alloc, nx_upd, len_cons, len_nil, List.length_set, List.length_map, List.length_append] <;> omega) | fail)) only [go_sem, g1, r1, hbk, ldV, Try.results23]
    exact gc_fin' hw o1 (congrArg Value.bool (by unfold mayM; simp [show 1 ≤ m.kind by omega, show m.kind ≤ 14 by omega, b2, b3, show True from trivial, ops_in c0 c1, show True from trivial, ops_in d0 d1, ops_in l0 l1, hno, show True from trivial, cli_in b8 b9, f0, f1, show m.reply.ids.length ≤ 8 by omega, b12])) (.bool _)
  simp (maxSteps := 1000000) (disch := (first | omega | (simp only [nx_alloc, nx_upd, len_cons, len_nil, List.length_set, List.length_map, List.length_append] <;> omega) | fail)) only [go_sem, g1, r1, hbk, ldV]
  by_cases b13 : ((m.block.size : Nat) : Int) ≤ 1000
  rotate_left
  · simp (maxSteps := 1000000) (disch := (first | omega | (simp only [nx_alloc, nx_upd, len_cons, len_nil, List.length_set, List.length_map, List.length_append] <;> omega) | fail)) only [go_sem, g1, r1, hbk, ldV, b13, Try.results23]
    exact gc_fin' hw o1 (congrArg Value.bool (by unfold mayM; simp [show 1 ≤ m.kind by omega, show m.kind ≤ 14 by omega, b2, b3, show True from trivial, ops_in c0 c1, show True from trivial, ops_in d0 d1, ops_in l0 l1, hno, show True from trivial, cli_in b8 b9, f0, f1, show m.reply.ids.length ≤ 8 by omega, b12, show ¬ m.block.size ≤ 1000 by omega])) (.bool _)
  simp (maxSteps := 1000000) (disch := (first | omega | (simp only [nx_alloc, nx_upd, len_cons, len_nil, List.length_set, List.length_map, List.length_append] <;> omega) | fail)) only [go_sem, g1, r1, b13, hbk, ldV, Try.results23]
  exact gc_fin' hw o1 (congrArg Value.bool (by unfold mayM; simp [show 1 ≤ m.kind by omega, show m.kind ≤ 14 by omega, b2, b3, show True from trivial, ops_in c0 c1, show True from trivial, ops_in d0 d1, ops_in l0 l1, hno, show True from trivial, cli_in b8 b9, f0, f1, show m.reply.ids.length ≤ 8 by omega, b12, show m.block.size ≤ 1000 by omega])) (.bool _)
end Go.Fw
