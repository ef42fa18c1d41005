import Derived.Test.YtphfkbagjpcmpaaFwVault8
set_option linter.unusedSimpArgs false
set_option linter.unusedVariables false
namespace Go.Fw
open Go.Proofs Go.RowKit
theorem Try.guardSq : Try.prog.eqGuardType Try.prog.depth 36 = false := by kernel_rfl
theorem intsOf32 : ∀ l : List Int, intsOf .u32 (l.map (Value.int .u32 ·)) = some l
  | [] => rfl
  | x :: l => by simp only [List.map_cons, intsOf, intsOf32 l]; rfl
theorem sq_eq (l m : List Int) (hl : l.length = 3) (hm : m.length = 3) : aeqIn Try.prog 5 36 (.agg (l.map (Value.int .u32 ·)).toArray) (.agg (m.map (Value.int .u32 ·)).toArray) = some (decide (l = m)) := by
  have ia : intsOf .u32 (l.map (Value.int .u32 ·)) = some l := intsOf32 l
  have ib : intsOf .u32 (m.map (Value.int .u32 ·)) = some m := intsOf32 m
  simp only [aeqIn, Try.underlying36, Try.underlying23, Try.sz23, List.size_toArray, List.toList_toArray, List.length_map, hl, hm, ia, ib]
  rw [if_pos (by simp)]
  congr 1
  rw [Bool.eq_iff_iff, decide_eq_true_iff, beq_iff_eq]
theorem sq_neq (x y : Operand) (l m : List Int) (hl : l.length = 3) (hm : m.length = 3) : abin Try.prog .neq 36 x y (.agg (l.map (Value.int .u32 ·)).toArray) (.agg (m.map (Value.int .u32 ·)).toArray) = some (.bool (!decide (l = m))) := by
  unfold abin
  simp only [Try.guardSq, Bool.false_eq_true, if_false, sq_eq l m hl hm, Option.map_some]
open Classical in
/-- The same state? -/
noncomputable def eqSt (S T : StT) : Bool := decide (S = T)
theorem eqSt_iff (S T : StT) : eqSt S T = true ↔ S = T := by simp [eqSt]
theorem eqSt_no {S T : StT} (h : S ≠ T) : eqSt S T = false := by simp [eqSt, h]
theorem eqSt_yes {S T : StT} (h : S = T) : eqSt S T = true := by simp [eqSt, h]
/-- A state whose parts are small. -/
def StT.sm (S : StT) : Prop := S.vers.length ≤ 1000000 ∧ (∀ V ∈ S.vers, V.small) ∧ ∀ R ∈ S.last, R.v.small ∧ R.ids.length ≤ 1048576
set_option maxHeartbeats 8000000 in
theorem equal_ok (w0 : World) (A : St) (S T : StT) (sc tc : List Value) (h : StC A S sc) (h' : StC A T tc) (s1 : S.sm) (s2 : T.sm) :
    ACalls Try.prog w0 14 #[.agg sc.toArray, .agg tc.toArray] A (fin (.bool (eqSt S T)) A) := by
  refine call_E Try.enters14 Try.func14 rfl (Nat.le_of_ble_eq_true rfl) fun hw hbd => ?_
  have hs1 := s1.1
  obtain ⟨sl, scell⟩ := h.len
  obtain ⟨tl, tcell⟩ := h'.len
  have hAt : ∀ c, c < 3 → _ := fun c hc => h.at (c := c) hc
  have hAt' : ∀ c, c < 3 → _ := fun c hc => h'.at (c := c) hc
  obtain ⟨v, rs, e, hv, hl, h3, h4⟩ := h
  obtain ⟨v', rs', e', hv', hl', h3', h4'⟩ := h'
  have g3 : (sc.drop 1).take 3 = S.seqs.map (Value.int .u32 ·) := by rw [e, List.drop_succ_cons, List.drop_zero, List.take_left' (by rw [List.length_map]; exact h3)]
  have g3' : (tc.drop 1).take 3 = T.seqs.map (Value.int .u32 ·) := by rw [e', List.drop_succ_cons, List.drop_zero, List.take_left' (by rw [List.length_map]; exact h3')]
  have g0 : sc[0]? = some v := by rw [e]; rfl
  have g0' : tc[0]? = some v' := by rw [e']; rfl
  clear e e'
  have l3 := ld_agg (sz := 3) (off := 1) (e' := 50) (m := some 0) (by omega) g3
  have l3' := ld_agg (sz := 3) (off := 1) (e' := 50) (m := some 0) (by omega) g3'
  have htk : sc.take 22 = sc := List.take_of_length_le (by omega)
  have htk' : tc.take 22 = tc := List.take_of_length_le (by omega)
  obtain ⟨A1, hA1⟩ : ∃ A1, A1 = (A.alloc (.cells sc 50 (some 0))).alloc (.cells tc 50 (some 0)) := ⟨_, rfl⟩
  have o1 : Over A A1 := by rw [hA1]; exact ((Over.refl A).alloc _).alloc _
  have b0 : A1.get A.next = some (.cells sc 50 (some 0)) := by rw [hA1, get_alloc_old (by simp only [nx_alloc]; omega), get_alloc_same]
  have b1 : A1.get (A.next + 1) = some (.cells tc 50 (some 0)) := by rw [hA1]; exact get_alloc_same ..
  have hv1 := hv.ge o1.ge
  have hv1' := hv'.ge o1.ge
  have hlen := NV.lenU (e := 28) hv1.1
  have hlen' := NV.lenU (e := 28) hv1'.1
  simp (maxSteps := 1000000) (disch := (first | omega | (simp only [nx_alloc, nx_upd, len_cons, len_nil, List.length_set, List.length_map, List.length_append] <;> omega) | fail)) only [Nat.reduceAdd, Nat.reduceSub, Nat.reduceMul, Nat.reduceLT, Nat.reduceLeDiff, Nat.reduceEqDiff, ↓reduceIte, reduceCtorEq, Int.reduceAdd, Int.reduceSub, Int.reduceMul, Int.reduceLT, Int.reduceLE, Int.reduceEq, Int.reduceNe, Int.reduceToNat, Int.reduceNeg, go_sem, Try.ntmps14, Try.results14]
  rw [← hA1]
  by_cases hn : S.vers.length = T.vers.length
  rotate_left
  · have hn' : ¬ ((S.vers.length : Int) = T.vers.length) := by omega
    have hs : eqSt S T = false := eqSt_no fun e => hn (by rw [e])
    rw [hs]
    simp (maxSteps := 1000000) (disch := (first | omega | (simp only [nx_alloc, nx_upd, len_cons, len_nil, List.length_set, List.length_map, List.length_append] <;> omega) | fail)) only [Nat.reduceAdd, Nat.reduceSub, Nat.reduceMul, Nat.reduceLT, Nat.reduceLeDiff, Nat.reduceEqDiff, ↓reduceIte, reduceCtorEq, Int.reduceAdd, Int.reduceSub, Int.reduceMul, Int.reduceLT, Int.reduceLE, Int.reduceEq, Int.reduceNe, Int.reduceToNat, Int.reduceNeg, go_sem, g0, g0', b0, b1, hlen, hlen', hn', Try.results14]
    exact gc_fin' hw o1 rfl (.bool _)
  have hn' : ((S.vers.length : Int) = T.vers.length) := by omega
  by_cases hq : S.seqs = T.seqs
  rotate_left
  · have hs : eqSt S T = false := eqSt_no fun e => hq (by rw [e])
    rw [hs]
    simp (maxSteps := 1000000) (disch := (first | omega | (simp only [nx_alloc, nx_upd, len_cons, len_nil, List.length_set, List.length_map, List.length_append] <;> omega) | fail)) only [Nat.reduceAdd, Nat.reduceSub, Nat.reduceMul, Nat.reduceLT, Nat.reduceLeDiff, Nat.reduceEqDiff, ↓reduceIte, reduceCtorEq, Int.reduceAdd, Int.reduceSub, Int.reduceMul, Int.reduceLT, Int.reduceLE, Int.reduceEq, Int.reduceNe, Int.reduceToNat, Int.reduceNeg, go_sem, g0, g0', b0, b1, hlen, hlen', hn', l3, l3', sq_neq, h3, h3', hq, Try.results14]
    exact gc_fin' hw o1 rfl (.bool _)
  rw [← hq] at l3'
  simp (maxSteps := 1000000) (disch := (first | omega | (simp only [nx_alloc, nx_upd, len_cons, len_nil, List.length_set, List.length_map, List.length_append] <;> omega) | fail)) only [Nat.reduceAdd, Nat.reduceSub, Nat.reduceMul, Nat.reduceLT, Nat.reduceLeDiff, Nat.reduceEqDiff, ↓reduceIte, reduceCtorEq, Int.reduceAdd, Int.reduceSub, Int.reduceMul, Int.reduceLT, Int.reduceLE, Int.reduceEq, Int.reduceNe, Int.reduceToNat, Int.reduceNeg, go_sem, g0, g0', b0, b1, hlen, hlen', hn', l3, l3', sq_neq, h3, h3', hq]
  refine aw_loop (fun k x A' => ∃ (ρ : Nat → Value) (i : Nat), x = E 54 ρ [] ∧ A' = A1 ∧ k = S.vers.length - i ∧ i ≤ S.vers.length ∧ S.vers.take i = T.vers.take i ∧ ρ 2 = .pointer (some ⟨A.next, 0, none⟩) ∧ ρ 3 = .pointer (some ⟨A.next + 1, 0, none⟩) ∧ ρ 5 = .int .i64 i) S.vers.length
    ⟨_, 0, rfl, rfl, rfl, Nat.zero_le _, by simp, rfl, rfl, rfl⟩ ?_
  rintro k x A' ⟨ρ, i, rfl, rfl, hk, hi, heq, r2, r3, r5⟩
  refine aw_of ?_
  by_cases hend : i = S.vers.length
  rotate_left
  · have e1 : ((i : Int) < S.vers.length) := by omega
    obtain ⟨a, ha⟩ : ∃ a, S.vers[i]? = some a := ⟨S.vers[i]'(by omega), List.getElem?_eq_getElem (by omega)⟩
    obtain ⟨b, hb⟩ : ∃ a, T.vers[i]? = some a := ⟨T.vers[i]'(by omega), List.getElem?_eq_getElem (by omega)⟩
    obtain ⟨p, po, pc, q1, q2, q3, q4, cells, e, m, q5, q6, q7⟩ := hv1.1.at (P := Try.prog) (e := 28) Try.sz28 ha
    obtain ⟨p', po', pc', y1, y2, y3, y4, cells', e', m', y5, y6, y7⟩ := hv1'.1.at (P := Try.prog) (e := 28) Try.sz28 hb
    have hld := ld_agg (e' := e) (m := m) q6 q7
    have hld' := ld_agg (e' := e') (m := m') y6 y7
    simp (maxSteps := 1000000) (disch := (first | omega | (simp only [nx_alloc, nx_upd, len_cons, len_nil, List.length_set, List.length_map, List.length_append] <;> omega) | fail)) only [Nat.reduceAdd, Nat.reduceSub, Nat.reduceMul, Nat.reduceLT, Nat.reduceLeDiff, Nat.reduceEqDiff, ↓reduceIte, reduceCtorEq, Int.reduceAdd, Int.reduceSub, Int.reduceMul, Int.reduceLT, Int.reduceLE, Int.reduceEq, Int.reduceNe, Int.reduceToNat, Int.reduceNeg, go_sem, r2, r3, r5, b0, g0, hlen]
    refine aw_draw2 [⟨false, [], [0]⟩, ⟨false, [0], [0]⟩, ⟨false, [], [0]⟩, ⟨false, [0, 1, 2], [0]⟩, ⟨false, [0, 1, 2, 3], [0]⟩, ⟨false, [], [0]⟩, ⟨false, [5], [0]⟩, ⟨false, [], [0]⟩, ⟨false, [5, 6, 7], [0]⟩, ⟨false, [5, 6, 7, 8], [0]⟩, ⟨false, [0, 1, 2, 3, 4, 5, 6, 7, 8, 9], [0]⟩, ⟨false, [0, 1, 2, 3, 4, 5, 6, 7, 8, 9, 10], [0]⟩] [A'] 0 (by kernel_rfl) (by kernel_rfl) rfl ?_
    simp (maxSteps := 1000000) (disch := (first | omega | (simp only [nx_alloc, nx_upd, len_cons, len_nil, List.length_set, List.length_map, List.length_append] <;> omega) | fail)) only [Nat.reduceAdd, Nat.reduceSub, Nat.reduceMul, Nat.reduceLT, Nat.reduceLeDiff, Nat.reduceEqDiff, ↓reduceIte, reduceCtorEq, Int.reduceAdd, Int.reduceSub, Int.reduceMul, Int.reduceLT, Int.reduceLE, Int.reduceEq, Int.reduceNe, Int.reduceToNat, Int.reduceNeg, go_sem, r2, r3, r5, b0, b1, g0, g0', q2, q5, y2, y5, hld, hld']
    refine ⟨_, rvsame_ok w0 A' a b _ _ (q3.ver) (y3.ver) (s1.2.1 a (List.mem_of_getElem? ha)) (s2.2.1 b (List.mem_of_getElem? hb)), ?_⟩
    cases hv : eqV a b
    · have hs : eqSt S T = false := eqSt_no fun e => by
        rw [e, hb] at ha
        cases ha
        rw [(eqV_iff _ _).2 rfl] at hv
        cases hv
      rw [hs]
      simp (maxSteps := 1000000) (disch := (first | omega | (simp only [nx_alloc, nx_upd, len_cons, len_nil, List.length_set, List.length_map, List.length_append] <;> omega) | fail)) only [Nat.reduceAdd, Nat.reduceSub, Nat.reduceMul, Nat.reduceLT, Nat.reduceLeDiff, Nat.reduceEqDiff, ↓reduceIte, reduceCtorEq, Int.reduceAdd, Int.reduceSub, Int.reduceMul, Int.reduceLT, Int.reduceLE, Int.reduceEq, Int.reduceNe, Int.reduceToNat, Int.reduceNeg, go_sem, r2, Try.results14]
      exact gc_fin' hw o1 rfl (.bool _)
    · have hab := (eqV_iff _ _).1 hv
      simp (maxSteps := 1000000) (disch := (first | omega | (simp only [nx_alloc, nx_upd, len_cons, len_nil, List.length_set, List.length_map, List.length_append] <;> omega) | fail)) only [Nat.reduceAdd, Nat.reduceSub, Nat.reduceMul, Nat.reduceLT, Nat.reduceLeDiff, Nat.reduceEqDiff, ↓reduceIte, reduceCtorEq, Int.reduceAdd, Int.reduceSub, Int.reduceMul, Int.reduceLT, Int.reduceLE, Int.reduceEq, Int.reduceNe, Int.reduceToNat, Int.reduceNeg, go_sem, r2, r3, r5]
      refine ⟨k - 1, by omega, _, i + 1, rfl, by omega, by omega, ?_, ?_, ?_, ?_⟩
      · rw [List.take_add_one, List.take_add_one, heq, ha, hb, hab]
      · simp (maxSteps := 1000000) (disch := (first | omega | (simp only [nx_alloc, nx_upd, len_cons, len_nil, List.length_set, List.length_map, List.length_append] <;> omega) | fail)) only [Nat.reduceAdd, Nat.reduceSub, Nat.reduceMul, Nat.reduceLT, Nat.reduceLeDiff, Nat.reduceEqDiff, ↓reduceIte, reduceCtorEq, Int.reduceAdd, Int.reduceSub, Int.reduceMul, Int.reduceLT, Int.reduceLE, Int.reduceEq, Int.reduceNe, Int.reduceToNat, Int.reduceNeg, go_sem, r2]
      · simp (maxSteps := 1000000) (disch := (first | omega | (simp only [nx_alloc, nx_upd, len_cons, len_nil, List.length_set, List.length_map, List.length_append] <;> omega) | fail)) only [Nat.reduceAdd, Nat.reduceSub, Nat.reduceMul, Nat.reduceLT, Nat.reduceLeDiff, Nat.reduceEqDiff, ↓reduceIte, reduceCtorEq, Int.reduceAdd, Int.reduceSub, Int.reduceMul, Int.reduceLT, Int.reduceLE, Int.reduceEq, Int.reduceNe, Int.reduceToNat, Int.reduceNeg, go_sem, r3]
      · simp (maxSteps := 1000000) (disch := (first | omega | (simp only [nx_alloc, nx_upd, len_cons, len_nil, List.length_set, List.length_map, List.length_append] <;> omega) | fail)) only [Nat.reduceAdd, Nat.reduceSub, Nat.reduceMul, Nat.reduceLT, Nat.reduceLeDiff, Nat.reduceEqDiff, ↓reduceIte, reduceCtorEq, Int.reduceAdd, Int.reduceSub, Int.reduceMul, Int.reduceLT, Int.reduceLE, Int.reduceEq, Int.reduceNe, Int.reduceToNat, Int.reduceNeg, go_sem]
        rfl
  have e1 : ¬ ((i : Int) < S.vers.length) := by omega
  have hvv : S.vers = T.vers := by rw [hend, List.take_length, hn, List.take_length] at heq; exact heq
  clear hk hi heq
  simp (maxSteps := 1000000) (disch := (first | omega | (simp only [nx_alloc, nx_upd, len_cons, len_nil, List.length_set, List.length_map, List.length_append] <;> omega) | fail)) only [Nat.reduceAdd, Nat.reduceSub, Nat.reduceMul, Nat.reduceLT, Nat.reduceLeDiff, Nat.reduceEqDiff, ↓reduceIte, reduceCtorEq, Int.reduceAdd, Int.reduceSub, Int.reduceMul, Int.reduceLT, Int.reduceLE, Int.reduceEq, Int.reduceNe, Int.reduceToNat, Int.reduceNeg, go_sem, r2, r3, r5, b0, g0, hlen]
  refine aw_loop (fun k x A2 => ∃ (ρ : Nat → Value) (i : Nat), x = E 54 ρ [] ∧ A2 = A' ∧ k = 3 - i ∧ i ≤ 3 ∧ S.last.take i = T.last.take i ∧ ρ 2 = .pointer (some ⟨A.next, 0, none⟩) ∧ ρ 3 = .pointer (some ⟨A.next + 1, 0, none⟩) ∧ ρ 6 = .int .i64 i) 3
    ⟨_, 0, rfl, rfl, rfl, Nat.zero_le _, by simp, ?_, ?_, ?_⟩ ?_
  simp (maxSteps := 1000000) (disch := (first | omega | (simp only [nx_alloc, nx_upd, len_cons, len_nil, List.length_set, List.length_map, List.length_append] <;> omega) | fail)) only [Nat.reduceAdd, Nat.reduceSub, Nat.reduceMul, Nat.reduceLT, Nat.reduceLeDiff, Nat.reduceEqDiff, ↓reduceIte, reduceCtorEq, Int.reduceAdd, Int.reduceSub, Int.reduceMul, Int.reduceLT, Int.reduceLE, Int.reduceEq, Int.reduceNe, Int.reduceToNat, Int.reduceNeg, go_sem, r2]
  simp (maxSteps := 1000000) (disch := (first | omega | (simp only [nx_alloc, nx_upd, len_cons, len_nil, List.length_set, List.length_map, List.length_append] <;> omega) | fail)) only [Nat.reduceAdd, Nat.reduceSub, Nat.reduceMul, Nat.reduceLT, Nat.reduceLeDiff, Nat.reduceEqDiff, ↓reduceIte, reduceCtorEq, Int.reduceAdd, Int.reduceSub, Int.reduceMul, Int.reduceLT, Int.reduceLE, Int.reduceEq, Int.reduceNe, Int.reduceToNat, Int.reduceNeg, go_sem, r3]
  rfl
  clear r2 r3 r5
  rintro k x A2 ⟨ρ, i, rfl, rfl, hk, hi, heq, r2, r3, r6⟩
  refine aw_of ?_
  by_cases hend : i = 3
  · have e1 : ¬ ((i : Int) < 3) := by omega
    have hll : S.last = T.last := by rw [hend, List.take_of_length_le (by omega), List.take_of_length_le (by omega)] at heq; exact heq
    simp (maxSteps := 1000000) (disch := (first | omega | (simp only [nx_alloc, nx_upd, len_cons, len_nil, List.length_set, List.length_map, List.length_append] <;> omega) | fail)) only [Nat.reduceAdd, Nat.reduceSub, Nat.reduceMul, Nat.reduceLT, Nat.reduceLeDiff, Nat.reduceEqDiff, ↓reduceIte, reduceCtorEq, Int.reduceAdd, Int.reduceSub, Int.reduceMul, Int.reduceLT, Int.reduceLE, Int.reduceEq, Int.reduceNe, Int.reduceToNat, Int.reduceNeg, go_sem, r2, r3, r6, Try.results14]
    refine gc_fin' hw o1 (congrArg Value.bool (eqSt_yes ?_).symm) (.bool _)
    obtain ⟨_, _, _⟩ := S
    obtain ⟨_, _, _⟩ := T
    simp only at hvv hq hll
    rw [hvv, hq, hll]
  have e1 : ((i : Int) < 3) := by omega
  obtain ⟨q, R, rc, _, hR, _, hrc, hrep⟩ := hAt i (by omega)
  obtain ⟨q', R', rc', _, hR', _, hrc', hrep'⟩ := hAt' i (by omega)
  have hld := ld_agg (e' := 50) (m := some 0) (by omega) hrc
  have hld' := ld_agg (e' := 50) (m := some 0) (by omega) hrc'
  simp (maxSteps := 1000000) (disch := (first | omega | (simp only [nx_alloc, nx_upd, len_cons, len_nil, List.length_set, List.length_map, List.length_append] <;> omega) | fail)) only [Nat.reduceAdd, Nat.reduceSub, Nat.reduceMul, Nat.reduceLT, Nat.reduceLeDiff, Nat.reduceEqDiff, ↓reduceIte, reduceCtorEq, Int.reduceAdd, Int.reduceSub, Int.reduceMul, Int.reduceLT, Int.reduceLE, Int.reduceEq, Int.reduceNe, Int.reduceToNat, Int.reduceNeg, go_sem, r2, r3, r6]
  refine aw_draw2 [⟨false, [], [0]⟩, ⟨false, [], [0]⟩, ⟨false, [0, 1], [0]⟩, ⟨false, [0, 1, 2], [0]⟩, ⟨false, [], [0]⟩, ⟨false, [], [0]⟩, ⟨false, [4, 5], [0]⟩, ⟨false, [4, 5, 6], [0]⟩, ⟨false, [0, 1, 2, 3, 4, 5, 6, 7], [0]⟩, ⟨false, [0, 1, 2, 3, 4, 5, 6, 7, 8], [0]⟩] [A2] 0 (by kernel_rfl) (by kernel_rfl) rfl ?_
  simp (maxSteps := 1000000) (disch := (first | omega | (simp only [nx_alloc, nx_upd, len_cons, len_nil, List.length_set, List.length_map, List.length_append] <;> omega) | fail)) only [Nat.reduceAdd, Nat.reduceSub, Nat.reduceMul, Nat.reduceLT, Nat.reduceLeDiff, Nat.reduceEqDiff, ↓reduceIte, reduceCtorEq, Int.reduceAdd, Int.reduceSub, Int.reduceMul, Int.reduceLT, Int.reduceLE, Int.reduceEq, Int.reduceNe, Int.reduceToNat, Int.reduceNeg, go_sem, r2, r3, r6, b0, b1, hld, hld']
  have sR := s1.2.2 R (List.mem_of_getElem? hR)
  have sR' := s2.2.2 R' (List.mem_of_getElem? hR')
  refine ⟨_, rsame17_ok w0 A2 R R' _ _ (hrep.ge o1.ge) (hrep'.ge o1.ge) sR.1 sR'.1 sR.2, ?_⟩
  cases hv : sameR R R'
  · have hs : eqSt S T = false := eqSt_no fun e => by
      rw [e, hR'] at hR
      cases hR
      rw [sameR_self] at hv
      cases hv
    rw [hs]
    simp (maxSteps := 1000000) (disch := (first | omega | (simp only [nx_alloc, nx_upd, len_cons, len_nil, List.length_set, List.length_map, List.length_append] <;> omega) | fail)) only [Nat.reduceAdd, Nat.reduceSub, Nat.reduceMul, Nat.reduceLT, Nat.reduceLeDiff, Nat.reduceEqDiff, ↓reduceIte, reduceCtorEq, Int.reduceAdd, Int.reduceSub, Int.reduceMul, Int.reduceLT, Int.reduceLE, Int.reduceEq, Int.reduceNe, Int.reduceToNat, Int.reduceNeg, go_sem, r2, Try.results14]
    exact gc_fin' hw o1 rfl (.bool _)
  · have hab := (sameR_iff _ _).1 hv
    simp (maxSteps := 1000000) (disch := (first | omega | (simp only [nx_alloc, nx_upd, len_cons, len_nil, List.length_set, List.length_map, List.length_append] <;> omega) | fail)) only [Nat.reduceAdd, Nat.reduceSub, Nat.reduceMul, Nat.reduceLT, Nat.reduceLeDiff, Nat.reduceEqDiff, ↓reduceIte, reduceCtorEq, Int.reduceAdd, Int.reduceSub, Int.reduceMul, Int.reduceLT, Int.reduceLE, Int.reduceEq, Int.reduceNe, Int.reduceToNat, Int.reduceNeg, go_sem, r2, r3, r6]
    refine ⟨k - 1, by omega, _, i + 1, rfl, by omega, by omega, ?_, ?_, ?_, ?_⟩
    · rw [List.take_add_one, List.take_add_one, heq, hR, hR', hab]
    · simp (maxSteps := 1000000) (disch := (first | omega | (simp only [nx_alloc, nx_upd, len_cons, len_nil, List.length_set, List.length_map, List.length_append] <;> omega) | fail)) only [Nat.reduceAdd, Nat.reduceSub, Nat.reduceMul, Nat.reduceLT, Nat.reduceLeDiff, Nat.reduceEqDiff, ↓reduceIte, reduceCtorEq, Int.reduceAdd, Int.reduceSub, Int.reduceMul, Int.reduceLT, Int.reduceLE, Int.reduceEq, Int.reduceNe, Int.reduceToNat, Int.reduceNeg, go_sem, r2]
    · simp (maxSteps := 1000000) (disch := (first | omega | (simp only [nx_alloc, nx_upd, len_cons, len_nil, List.length_set, List.length_map, List.length_append] <;> omega) | fail)) only [Nat.reduceAdd, Nat.reduceSub, Nat.reduceMul, Nat.reduceLT, Nat.reduceLeDiff, Nat.reduceEqDiff, ↓reduceIte, reduceCtorEq, Int.reduceAdd, Int.reduceSub, Int.reduceMul, Int.reduceLT, Int.reduceLE, Int.reduceEq, Int.reduceNe, Int.reduceToNat, Int.reduceNeg, go_sem, r3]
    · simp (maxSteps := 1000000) (disch := (first | omega | (simp only [nx_alloc, nx_upd, len_cons, len_nil, List.length_set, List.length_map, List.length_append] <;> omega) | fail)) only [Nat.reduceAdd, Nat.reduceSub, Nat.reduceMul, Nat.reduceLT, Nat.reduceLeDiff, Nat.reduceEqDiff, ↓reduceIte, reduceCtorEq, Int.reduceAdd, Int.reduceSub, Int.reduceMul, Int.reduceLT, Int.reduceLE, Int.reduceEq, Int.reduceNe, Int.reduceToNat, Int.reduceNeg, go_sem]
      rfl
end Go.Fw
