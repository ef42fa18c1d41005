import Derived.Test.YtfmbflmknjlefaaFwWire18
set_option linter.unusedSimpArgs false
set_option linter.unusedVariables false
set_option maxRecDepth 4000
namespace Go.Fw
open Go.Proofs Go.RowKit
theorem Try.enters61 : Enters Try.prog 61 := enters_of Try.func61 rfl (by kernel_rfl)
theorem Try.enters20 : Enters Try.prog 20 := enters_of Try.func20 rfl (by kernel_rfl)
instance : DecidableEq ReqT := fun a b => decidable_of_iff (sameQ a b = true) (sameQ_iff a b)
theorem sameQ_dec (a b : ReqT) : sameQ a b = decide (a = b) := by rw [Bool.eq_iff_iff, sameQ_iff, decide_eq_true_iff]
theorem hs_eql (x y : Operand) (a b : HashT) : abin Try.prog .eql 43 x y (.agg (hsC a).toArray) (.agg (hsC b).toArray) = some (.bool (decide (a = b))) := by
  unfold abin
  simp only [Try.guardHs, Bool.false_eq_true, if_false, hs_eq, Option.map_some]
set_option maxHeartbeats 4000000 in
theorem slog_ok (w0 : World) (A : St) (l m : List ReqT) (v u : Value) (hv : RqV A l v) (hu : RqV A m u) (hl : l.length ≤ 1000000) (hm : m.length ≤ 1000000) (hs : ∀ r ∈ l, r.op.v.small) (ht : ∀ r ∈ m, r.op.v.small) : ACalls Try.prog w0 61 #[v, u] A (fin (.bool (decide (l = m))) A) := by
  refine call_E Try.enters61 Try.func61 rfl (Nat.le_of_ble_eq_true rfl) fun hw hbd => ?_
  have hlen := NV.lenU (e := 31) hv
  have hlen2 := NV.lenU (e := 31) hu
  by_cases hne : l.length = m.length
  rotate_left
  · have hne' : ¬ ((l.length : Int) = m.length) := by omega
    simp (maxSteps := 1000000) (disch := (first | omega | (simp only [nx_alloc, nx_upd, len_cons, len_nil, List.length_set, List.length_map, List.length_append] <;> omega) | fail)) only [go_sem, Try.ntmps61, Try.results61, hlen, hlen2]
    exact gc_fin' hw (Over.refl _) (congrArg Value.bool (decide_eq_false (fun h => hne (by rw [h]))).symm) (.bool _)
  have hne' : ((l.length : Int) = m.length) := by omega
  simp (maxSteps := 1000000) (disch := (first | omega | (simp only [nx_alloc, nx_upd, len_cons, len_nil, List.length_set, List.length_map, List.length_append] <;> omega) | fail)) only [go_sem, Try.ntmps61, Try.results61, hlen, hlen2]
  refine aw_loop (fun k x A' => ∃ (ρ : Nat → Value) (i : Nat), x = E 27 ρ [] ∧ A' = A ∧ k = l.length - i ∧ i ≤ l.length ∧ l.take i = m.take i ∧ ρ 0 = v ∧ ρ 1 = u ∧ ρ 5 = .int .i64 i) l.length
    ⟨_, 0, rfl, rfl, rfl, Nat.zero_le _, by simp, rfl, rfl, rfl⟩ ?_
  rintro k x A' ⟨ρ, i, rfl, rfl, hk, hi, he, g0, g1, g5⟩
  refine aw_of ?_
  by_cases hend : i = l.length
  · have e1 : ¬ ((i : Int) < l.length) := by omega
    simp (maxSteps := 1000000) (disch := (first | omega | (simp only [nx_alloc, nx_upd, len_cons, len_nil, List.length_set, List.length_map, List.length_append] <;> omega) | fail)) only [go_sem, g0, g1, g5, hlen, Try.results61]
    refine gc_fin' hw (Over.refl _) (congrArg Value.bool (decide_eq_true ?_).symm) (.bool _)
    rw [hend, List.take_length, hne, List.take_length] at he; exact he
  have e1 : ((i : Int) < l.length) := by omega
  obtain ⟨t, ht1⟩ : ∃ t, l[i]? = some t := ⟨l[i]'(by omega), List.getElem?_eq_getElem (by omega)⟩
  obtain ⟨t', ht2⟩ : ∃ t, m[i]? = some t := ⟨m[i]'(by omega), List.getElem?_eq_getElem (by omega)⟩
  obtain ⟨b, off, qc, q1, q2, q3, q4, cells, e', md, q5, q6, q7⟩ := hv.at (P := Try.prog) (e := 31) Try.sz31 ht1
  obtain ⟨b', off', qc', p1, p2, p3, p4, cells', e'', md', p5, p6, p7⟩ := hu.at (P := Try.prog) (e := 31) Try.sz31 ht2
  have hld := ld_agg (e' := e') (m := md) q6 q7
  have hld' := ld_agg (e' := e'') (m := md') p6 p7
  simp (maxSteps := 1000000) (disch := (first | omega | (simp only [nx_alloc, nx_upd, len_cons, len_nil, List.length_set, List.length_map, List.length_append] <;> omega) | fail)) only [go_sem, g0, g1, g5, hlen]
  refine aw_draw (by kernel_rfl) ?_
  simp (maxSteps := 1000000) (disch := (first | omega | (simp only [nx_alloc, nx_upd, len_cons, len_nil, List.length_set, List.length_map, List.length_append] <;> omega) | fail)) only [go_sem, g0, g1, g5, q2, q5, hld, p2, p5, hld']
  refine ⟨_, samerq_ok w0 A' t t' _ _ q3 p3 (hs t (List.mem_of_getElem? ht1)) (ht t' (List.mem_of_getElem? ht2)), ?_⟩
  rw [sameQ_dec]
  by_cases htt : t = t'
  · simp (maxSteps := 1000000) (disch := (first | omega | (simp only [nx_alloc, nx_upd, len_cons, len_nil, List.length_set, List.length_map, List.length_append] <;> omega) | fail)) only [go_sem, g0, g1, g5, htt]
    refine ⟨k - 1, by omega, _, i + 1, rfl, by omega, by omega, ?_, ?_, ?_, ?_⟩
    · rw [List.take_add_one, List.take_add_one, he, ht1, ht2, htt]
    · simp (maxSteps := 1000000) (disch := (first | omega | (simp only [nx_alloc, nx_upd, len_cons, len_nil, List.length_set, List.length_map, List.length_append] <;> omega) | fail)) only [go_sem, g0]
    · simp (maxSteps := 1000000) (disch := (first | omega | (simp only [nx_alloc, nx_upd, len_cons, len_nil, List.length_set, List.length_map, List.length_append] <;> omega) | fail)) only [go_sem, g1]
    · simp (maxSteps := 1000000) (disch := (first | omega | (simp only [nx_alloc, nx_upd, len_cons, len_nil, List.length_set, List.length_map, List.length_append] <;> omega) | fail)) only [go_sem, g5]
      rfl
  · simp (maxSteps := 1000000) (disch := (first | omega | (simp only [nx_alloc, nx_upd, len_cons, len_nil, List.length_set, List.length_map, List.length_append] <;> omega) | fail)) only [go_sem, g0, g1, g5, htt, Try.results61]
    refine gc_fin' hw (Over.refl _) (congrArg Value.bool (decide_eq_false ?_).symm) (.bool _)
    intro h
    rw [h, ht2] at ht1
    cases ht1; exact htt rfl
/-- The same message? -/
def sameM (a b : MsgT) : Bool := decide (a.kind = b.kind) && decide (a.src = b.src) && decide (a.dst = b.dst) && decide (a.view = b.view) && decide (a.last = b.last) && decide (a.n = b.n) && decide (a.commit = b.commit) && decide (a.log = b.log) && decide (a.client = b.client) && decide (a.seq = b.seq) && sameR a.reply b.reply && decide (a.hash = b.hash) && decide (a.block = b.block)
theorem sameM_iff (a b : MsgT) : sameM a b = true ↔ a = b := by
  obtain ⟨a1, a2, a3, a4, a5, a6, a7, a8, a9, a10, a11, a12, a13⟩ := a
  obtain ⟨b1, b2, b3, b4, b5, b6, b7, b8, b9, b10, b11, b12, b13⟩ := b
  simp [sameM, sameR_iff, and_assoc]
theorem sameM_self (a : MsgT) : sameM a a = true := (sameM_iff a a).2 rfl
set_option maxHeartbeats 16000000 in
theorem rsame_ok (w0 : World) (A : St) (a b : MsgT) (mc nc : List Value) (hm : MsgC A a mc) (hn : MsgC A b nc) (hs : a.small) (ht : b.small) : ACalls Try.prog w0 20 #[.agg mc.toArray, .agg nc.toArray] A (fin (.bool (sameM a b)) A) := by
  have hml := hm.len
  have hnl := hn.len
  obtain ⟨s1, s2, s3, s4, s5⟩ := hs
  obtain ⟨t1, t2, t3, t4, t5⟩ := ht
  obtain ⟨lg, w, p, q, u, rfl, v1, v2, v3, v4, v5⟩ := hm
  obtain ⟨lg', w', p', q', u', rfl, u1, u2, u3, u4, u5⟩ := hn
  obtain ⟨ad, ac, rfl⟩ := NV.sl v1
  obtain ⟨bd, bc, rfl⟩ := View.sl v2
  obtain ⟨ad', ac', rfl⟩ := NV.sl u1
  obtain ⟨bd', bc', rfl⟩ := View.sl u2
  refine call_E Try.enters20 Try.func20 rfl (Nat.le_of_ble_eq_true rfl) fun hw hbd => ?_
  obtain ⟨A1, hA1⟩ : ∃ A1, A1 = (A.alloc (.cells (.int .i64 a.kind :: .int .i64 a.src :: .int .i64 a.dst :: .int .u32 a.view :: .int .u32 a.last :: .int .i64 a.n :: .int .i64 a.commit :: .slice ad a.log.length ac :: .int .i64 a.client :: .int .u32 a.seq :: .int .i64 a.reply.e :: .slice bd a.reply.ids.length bc :: .int .u32 a.reply.v.id :: p :: q :: u :: (hsC a.hash ++ [.string a.block])) 53 (some 0))).alloc (.cells (.int .i64 b.kind :: .int .i64 b.src :: .int .i64 b.dst :: .int .u32 b.view :: .int .u32 b.last :: .int .i64 b.n :: .int .i64 b.commit :: .slice ad' b.log.length ac' :: .int .i64 b.client :: .int .u32 b.seq :: .int .i64 b.reply.e :: .slice bd' b.reply.ids.length bc' :: .int .u32 b.reply.v.id :: p' :: q' :: u' :: (hsC b.hash ++ [.string b.block])) 53 (some 0)) := ⟨_, rfl⟩
  have o1 : Over A A1 := hA1 ▸ ((Over.refl A).alloc _).alloc _
  have g1 : A1.get A.next = some (.cells (.int .i64 a.kind :: .int .i64 a.src :: .int .i64 a.dst :: .int .u32 a.view :: .int .u32 a.last :: .int .i64 a.n :: .int .i64 a.commit :: .slice ad a.log.length ac :: .int .i64 a.client :: .int .u32 a.seq :: .int .i64 a.reply.e :: .slice bd a.reply.ids.length bc :: .int .u32 a.reply.v.id :: p :: q :: u :: (hsC a.hash ++ [.string a.block])) 53 (some 0)) := by rw [hA1, get_alloc_old (by simp only [nx_alloc]; omega)]; exact get_alloc_same ..
  have g2 : A1.get (A.next + 1) = some (.cells (.int .i64 b.kind :: .int .i64 b.src :: .int .i64 b.dst :: .int .u32 b.view :: .int .u32 b.last :: .int .i64 b.n :: .int .i64 b.commit :: .slice ad' b.log.length ac' :: .int .i64 b.client :: .int .u32 b.seq :: .int .i64 b.reply.e :: .slice bd' b.reply.ids.length bc' :: .int .u32 b.reply.v.id :: p' :: q' :: u' :: (hsC b.hash ++ [.string b.block])) 53 (some 0)) := by rw [hA1]; exact get_alloc_same (A.alloc _) _
  have hbk := blk_at a.hash (.string a.block)
  have hbk' := blk_at b.hash (.string b.block)
  have ldR := ld_agg (sz := 6) (off := 10) (e' := 53) (m := some 0) (cells := .int .i64 a.kind :: .int .i64 a.src :: .int .i64 a.dst :: .int .u32 a.view :: .int .u32 a.last :: .int .i64 a.n :: .int .i64 a.commit :: .slice ad a.log.length ac :: .int .i64 a.client :: .int .u32 a.seq :: .int .i64 a.reply.e :: .slice bd a.reply.ids.length bc :: .int .u32 a.reply.v.id :: p :: q :: u :: (hsC a.hash ++ [.string a.block])) (cs := [.int .i64 a.reply.e, .slice bd a.reply.ids.length bc, .int .u32 a.reply.v.id, p, q, u]) (by rw [hml]; omega) rfl
  have ldR' := ld_agg (sz := 6) (off := 10) (e' := 53) (m := some 0) (cells := .int .i64 b.kind :: .int .i64 b.src :: .int .i64 b.dst :: .int .u32 b.view :: .int .u32 b.last :: .int .i64 b.n :: .int .i64 b.commit :: .slice ad' b.log.length ac' :: .int .i64 b.client :: .int .u32 b.seq :: .int .i64 b.reply.e :: .slice bd' b.reply.ids.length bc' :: .int .u32 b.reply.v.id :: p' :: q' :: u' :: (hsC b.hash ++ [.string b.block])) (cs := [.int .i64 b.reply.e, .slice bd' b.reply.ids.length bc', .int .u32 b.reply.v.id, p', q', u']) (by rw [hnl]; omega) rfl
  have ldH := ld_agg (sz := 32) (off := 16) (e' := 53) (m := some 0) (cells := .int .i64 a.kind :: .int .i64 a.src :: .int .i64 a.dst :: .int .u32 a.view :: .int .u32 a.last :: .int .i64 a.n :: .int .i64 a.commit :: .slice ad a.log.length ac :: .int .i64 a.client :: .int .u32 a.seq :: .int .i64 a.reply.e :: .slice bd a.reply.ids.length bc :: .int .u32 a.reply.v.id :: p :: q :: u :: (hsC a.hash ++ [.string a.block])) (cs := hsC a.hash) (by rw [hml]; omega) (List.take_left' (hsC_len a.hash))
  have ldH' := ld_agg (sz := 32) (off := 16) (e' := 53) (m := some 0) (cells := .int .i64 b.kind :: .int .i64 b.src :: .int .i64 b.dst :: .int .u32 b.view :: .int .u32 b.last :: .int .i64 b.n :: .int .i64 b.commit :: .slice ad' b.log.length ac' :: .int .i64 b.client :: .int .u32 b.seq :: .int .i64 b.reply.e :: .slice bd' b.reply.ids.length bc' :: .int .u32 b.reply.v.id :: p' :: q' :: u' :: (hsC b.hash ++ [.string b.block])) (cs := hsC b.hash) (by rw [hnl]; omega) (List.take_left' (hsC_len b.hash))
  have hth : List.take 32 (hsC a.hash ++ [Value.string a.block]) = hsC a.hash := List.take_left' (hsC_len a.hash)
  have hth' : List.take 32 (hsC b.hash ++ [Value.string b.block]) = hsC b.hash := List.take_left' (hsC_len b.hash)
  have w1 := v1.ge o1.ge
  have w1' := u1.ge o1.ge
  have hR : RepC A1 a.reply [.int .i64 a.reply.e, .slice bd a.reply.ids.length bc, .int .u32 a.reply.v.id, p, q, u] := ⟨_, _, rfl, View.over v2 o1, _, _, _, rfl, View.over v3 o1, View.over v4 o1, View.over v5 o1⟩
  have hR' : RepC A1 b.reply [.int .i64 b.reply.e, .slice bd' b.reply.ids.length bc', .int .u32 b.reply.v.id, p', q', u'] := ⟨_, _, rfl, View.over u2 o1, _, _, _, rfl, View.over u3 o1, View.over u4 o1, View.over u5 o1⟩
  simp (maxSteps := 1000000) (disch := (first | omega | (simp only [nx_alloc, nx_upd, len_cons, len_nil, List.length_set, List.length_map, List.length_append] <;> omega) | fail)) only [go_sem, Try.ntmps20, Try.results20]
  rw [← hA1]
  by_cases c0 : a.kind = b.kind
  rotate_left
  · skip
    try simp (maxSteps := 1000000) (disch := (first | omega | (simp only [nx_alloc, nx_upd, len_cons, len_nil, List.length_set, List.length_map, List.length_append] <;> omega) | fail)) only [go_sem, g1, g2, blk_at, ldR, ldR', ldH, ldH', hth, hth', hs_eql, beqBytes, c0, Try.results20]
    exact gc_fin' hw o1 (congrArg Value.bool (by unfold sameM; simp [c0])) (.bool _)
  try simp (maxSteps := 1000000) (disch := (first | omega | (simp only [nx_alloc, nx_upd, len_cons, len_nil, List.length_set, List.length_map, List.length_append] <;> omega) | fail)) only [go_sem, g1, g2, blk_at, ldR, ldR', ldH, ldH', hth, hth', hs_eql, beqBytes, c0]
  by_cases c1 : a.src = b.src
  rotate_left
  · skip
    try simp (maxSteps := 1000000) (disch := (first | omega | (simp only [nx_alloc, nx_upd, len_cons, len_nil, List.length_set, List.length_map, List.length_append] <;> omega) | fail)) only [go_sem, g1, g2, blk_at, ldR, ldR', ldH, ldH', hth, hth', hs_eql, beqBytes, c1, Try.results20]
    exact gc_fin' hw o1 (congrArg Value.bool (by unfold sameM; simp [c0, c1])) (.bool _)
  try simp (maxSteps := 1000000) (disch := (first | omega | (simp only [nx_alloc, nx_upd, len_cons, len_nil, List.length_set, List.length_map, List.length_append] <;> omega) | fail)) only [go_sem, g1, g2, blk_at, ldR, ldR', ldH, ldH', hth, hth', hs_eql, beqBytes, c1]
  by_cases c2 : a.dst = b.dst
  rotate_left
  · skip
    try simp (maxSteps := 1000000) (disch := (first | omega | (simp only [nx_alloc, nx_upd, len_cons, len_nil, List.length_set, List.length_map, List.length_append] <;> omega) | fail)) only [go_sem, g1, g2, blk_at, ldR, ldR', ldH, ldH', hth, hth', hs_eql, beqBytes, c2, Try.results20]
    exact gc_fin' hw o1 (congrArg Value.bool (by unfold sameM; simp [c0, c1, c2])) (.bool _)
  try simp (maxSteps := 1000000) (disch := (first | omega | (simp only [nx_alloc, nx_upd, len_cons, len_nil, List.length_set, List.length_map, List.length_append] <;> omega) | fail)) only [go_sem, g1, g2, blk_at, ldR, ldR', ldH, ldH', hth, hth', hs_eql, beqBytes, c2]
  by_cases c3 : a.view = b.view
  rotate_left
  · skip
    try simp (maxSteps := 1000000) (disch := (first | omega | (simp only [nx_alloc, nx_upd, len_cons, len_nil, List.length_set, List.length_map, List.length_append] <;> omega) | fail)) only [go_sem, g1, g2, blk_at, ldR, ldR', ldH, ldH', hth, hth', hs_eql, beqBytes, c3, Try.results20]
    exact gc_fin' hw o1 (congrArg Value.bool (by unfold sameM; simp [c0, c1, c2, c3])) (.bool _)
  try simp (maxSteps := 1000000) (disch := (first | omega | (simp only [nx_alloc, nx_upd, len_cons, len_nil, List.length_set, List.length_map, List.length_append] <;> omega) | fail)) only [go_sem, g1, g2, blk_at, ldR, ldR', ldH, ldH', hth, hth', hs_eql, beqBytes, c3]
  by_cases c4 : a.last = b.last
  rotate_left
  · skip
    try simp (maxSteps := 1000000) (disch := (first | omega | (simp only [nx_alloc, nx_upd, len_cons, len_nil, List.length_set, List.length_map, List.length_append] <;> omega) | fail)) only [go_sem, g1, g2, blk_at, ldR, ldR', ldH, ldH', hth, hth', hs_eql, beqBytes, c4, Try.results20]
    exact gc_fin' hw o1 (congrArg Value.bool (by unfold sameM; simp [c0, c1, c2, c3, c4])) (.bool _)
  try simp (maxSteps := 1000000) (disch := (first | omega | (simp only [nx_alloc, nx_upd, len_cons, len_nil, List.length_set, List.length_map, List.length_append] <;> omega) | fail)) only [go_sem, g1, g2, blk_at, ldR, ldR', ldH, ldH', hth, hth', hs_eql, beqBytes, c4]
  by_cases c5 : a.n = b.n
  rotate_left
  · skip
    try simp (maxSteps := 1000000) (disch := (first | omega | (simp only [nx_alloc, nx_upd, len_cons, len_nil, List.length_set, List.length_map, List.length_append] <;> omega) | fail)) only [go_sem, g1, g2, blk_at, ldR, ldR', ldH, ldH', hth, hth', hs_eql, beqBytes, c5, Try.results20]
    exact gc_fin' hw o1 (congrArg Value.bool (by unfold sameM; simp [c0, c1, c2, c3, c4, c5])) (.bool _)
  try simp (maxSteps := 1000000) (disch := (first | omega | (simp only [nx_alloc, nx_upd, len_cons, len_nil, List.length_set, List.length_map, List.length_append] <;> omega) | fail)) only [go_sem, g1, g2, blk_at, ldR, ldR', ldH, ldH', hth, hth', hs_eql, beqBytes, c5]
  by_cases c6 : a.commit = b.commit
  rotate_left
  · skip
    try simp (maxSteps := 1000000) (disch := (first | omega | (simp only [nx_alloc, nx_upd, len_cons, len_nil, List.length_set, List.length_map, List.length_append] <;> omega) | fail)) only [go_sem, g1, g2, blk_at, ldR, ldR', ldH, ldH', hth, hth', hs_eql, beqBytes, c6, Try.results20]
    exact gc_fin' hw o1 (congrArg Value.bool (by unfold sameM; simp [c0, c1, c2, c3, c4, c5, c6])) (.bool _)
  try simp (maxSteps := 1000000) (disch := (first | omega | (simp only [nx_alloc, nx_upd, len_cons, len_nil, List.length_set, List.length_map, List.length_append] <;> omega) | fail)) only [go_sem, g1, g2, blk_at, ldR, ldR', ldH, ldH', hth, hth', hs_eql, beqBytes, c6]
  refine call1 (slog_ok w0 A1 a.log b.log _ _ w1 w1' (by omega) (by omega) s1 t1) ?_
  by_cases c7 : a.log = b.log
  rotate_left
  · skip
    try simp (maxSteps := 1000000) (disch := (first | omega | (simp only [nx_alloc, nx_upd, len_cons, len_nil, List.length_set, List.length_map, List.length_append] <;> omega) | fail)) only [go_sem, g1, g2, blk_at, ldR, ldR', ldH, ldH', hth, hth', hs_eql, beqBytes, c7, Try.results20]
    exact gc_fin' hw o1 (congrArg Value.bool (by unfold sameM; simp [c0, c1, c2, c3, c4, c5, c6, c7])) (.bool _)
  simp (maxSteps := 1000000) (disch := (first | omega | (simp only [nx_alloc, nx_upd, len_cons, len_nil, List.length_set, List.length_map, List.length_append] <;> omega) | fail)) only [go_sem, g1, g2, blk_at, ldR, ldR', ldH, ldH', hth, hth', hs_eql, beqBytes, c7]
  by_cases c8 : a.client = b.client
  rotate_left
  · skip
    try simp (maxSteps := 1000000) (disch := (first | omega | (simp only [nx_alloc, nx_upd, len_cons, len_nil, List.length_set, List.length_map, List.length_append] <;> omega) | fail)) only [go_sem, g1, g2, blk_at, ldR, ldR', ldH, ldH', hth, hth', hs_eql, beqBytes, c8, Try.results20]
    exact gc_fin' hw o1 (congrArg Value.bool (by unfold sameM; simp [c0, c1, c2, c3, c4, c5, c6, c7, c8])) (.bool _)
  try simp (maxSteps := 1000000) (disch := (first | omega | (simp only [nx_alloc, nx_upd, len_cons, len_nil, List.length_set, List.length_map, List.length_append] <;> omega) | fail)) only [go_sem, g1, g2, blk_at, ldR, ldR', ldH, ldH', hth, hth', hs_eql, beqBytes, c8]
  by_cases c9 : a.seq = b.seq
  rotate_left
  · skip
    try simp (maxSteps := 1000000) (disch := (first | omega | (simp only [nx_alloc, nx_upd, len_cons, len_nil, List.length_set, List.length_map, List.length_append] <;> omega) | fail)) only [go_sem, g1, g2, blk_at, ldR, ldR', ldH, ldH', hth, hth', hs_eql, beqBytes, c9, Try.results20]
    exact gc_fin' hw o1 (congrArg Value.bool (by unfold sameM; simp [c0, c1, c2, c3, c4, c5, c6, c7, c8, c9])) (.bool _)
  try simp (maxSteps := 1000000) (disch := (first | omega | (simp only [nx_alloc, nx_upd, len_cons, len_nil, List.length_set, List.length_map, List.length_append] <;> omega) | fail)) only [go_sem, g1, g2, blk_at, ldR, ldR', ldH, ldH', hth, hth', hs_eql, beqBytes, c9]
  refine call1 (rsame17_ok w0 A1 a.reply b.reply _ _ hR hR' s2 t2 (by omega)) ?_
  cases c10 : sameR a.reply b.reply
  · skip
    try simp (maxSteps := 1000000) (disch := (first | omega | (simp only [nx_alloc, nx_upd, len_cons, len_nil, List.length_set, List.length_map, List.length_append] <;> omega) | fail)) only [go_sem, g1, g2, blk_at, ldR, ldR', ldH, ldH', hth, hth', hs_eql, beqBytes, Try.results20]
    exact gc_fin' hw o1 (congrArg Value.bool (by unfold sameM; simp [c0, c1, c2, c3, c4, c5, c6, c7, c8, c9, c10])) (.bool _)
  simp (maxSteps := 1000000) (disch := (first | omega | (simp only [nx_alloc, nx_upd, len_cons, len_nil, List.length_set, List.length_map, List.length_append] <;> omega) | fail)) only [go_sem, g1, g2, blk_at, ldR, ldR', ldH, ldH', hth, hth', hs_eql, beqBytes]
  by_cases c11 : a.hash = b.hash
  rotate_left
  · skip
    try simp (maxSteps := 1000000) (disch := (first | omega | (simp only [nx_alloc, nx_upd, len_cons, len_nil, List.length_set, List.length_map, List.length_append] <;> omega) | fail)) only [go_sem, g1, g2, blk_at, ldR, ldR', ldH, ldH', hth, hth', hs_eql, beqBytes, c11, Try.results20]
    exact gc_fin' hw o1 (congrArg Value.bool (by unfold sameM; simp [c0, c1, c2, c3, c4, c5, c6, c7, c8, c9, c10, c11])) (.bool _)
  try simp (maxSteps := 1000000) (disch := (first | omega | (simp only [nx_alloc, nx_upd, len_cons, len_nil, List.length_set, List.length_map, List.length_append] <;> omega) | fail)) only [go_sem, g1, g2, blk_at, ldR, ldR', ldH, ldH', hth, hth', hs_eql, beqBytes, c11]
  by_cases c12 : a.block = b.block
  rotate_left
  · skip
    try simp (maxSteps := 1000000) (disch := (first | omega | (simp only [nx_alloc, nx_upd, len_cons, len_nil, List.length_set, List.length_map, List.length_append] <;> omega) | fail)) only [go_sem, g1, g2, blk_at, ldR, ldR', ldH, ldH', hth, hth', hs_eql, beqBytes, c12, Try.results20]
    exact gc_fin' hw o1 (congrArg Value.bool (by unfold sameM; simp [c0, c1, c2, c3, c4, c5, c6, c7, c8, c9, c10, c11, c12])) (.bool _)
  try simp (maxSteps := 1000000) (disch := (first | omega | (simp only [nx_alloc, nx_upd, len_cons, len_nil, List.length_set, List.length_map, List.length_append] <;> omega) | fail)) only [go_sem, g1, g2, blk_at, ldR, ldR', ldH, ldH', hth, hth', hs_eql, beqBytes, c12, Try.results20]
  exact gc_fin' hw o1 (congrArg Value.bool (by unfold sameM; simp [c0, c1, c2, c3, c4, c5, c6, c7, c8, c9, c10, c11, c12])) (.bool _)
end Go.Fw
