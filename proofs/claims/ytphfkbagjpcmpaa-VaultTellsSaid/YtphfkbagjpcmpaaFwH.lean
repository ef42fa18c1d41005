import Derived.Test.YtphfkbagjpcmpaaFwVault16
import Derived.Test.YtphfkbagjpcmpaaFwA
import Derived.Test.YtphfkbagjpcmpaaFw37
set_option linter.unusedSimpArgs false
set_option linter.unusedVariables false
namespace Go.Fw
open Go.Proofs Go.RowKit
theorem Try.enters9 : Enters Try.prog 9 := enters_of Try.func9 rfl (by kernel_rfl)
theorem one_stS (B : St) {cs : List Value} (h1 : cs.length = 22 ∧ cs.all cell1 = true) : ∃ C, storeC (B.alloc (.cells [.slice none 0 0, .int .u32 0, .int .u32 0, .int .u32 0, .int .i64 0, .slice none 0 0, .int .u32 0, .slice none 0 0, .slice none 0 0, .slice none 0 0, .int .i64 0, .slice none 0 0, .int .u32 0, .slice none 0 0, .slice none 0 0, .slice none 0 0, .int .i64 0, .slice none 0 0, .int .u32 0, .slice none 0 0, .slice none 0 0, .slice none 0 0] 50 (some 0))) (some 22) (some (.cells [.slice none 0 0, .int .u32 0, .int .u32 0, .int .u32 0, .int .i64 0, .slice none 0 0, .int .u32 0, .slice none 0 0, .slice none 0 0, .slice none 0 0, .int .i64 0, .slice none 0 0, .int .u32 0, .slice none 0 0, .slice none 0 0, .slice none 0 0, .int .i64 0, .slice none 0 0, .int .u32 0, .slice none 0 0, .slice none 0 0, .slice none 0 0] 50 (some 0))) B.next 0 (.agg cs.toArray) = some C ∧ Over B C ∧ C.next = B.next + 1 ∧ C.get B.next = some (.cells cs 50 (some 0)) :=
  ⟨_, stN (n := 22) rfl h1.1 h1.2, ((Over.refl B).alloc _).upd (Nat.le_refl _) _, rfl, get_upd_same ..⟩
set_option maxHeartbeats 16000000 in
theorem tells_all (w0 : World) (A : St) (v : Value) (l : List ReqT) (ov : Value) (o : VOp) (hv : RqA A l v) (hok : (∀ r ∈ l, r.okA) ∧ l.length ≤ maxLen) (ho : VOpV A o ov) (hoo : o.okA) : ACalls Try.prog w0 9 #[v, ov] A (fin (.bool true) A) := by
  obtain ⟨oc, rfl, hoc⟩ := ho
  refine call_E Try.enters9 Try.func9 rfl (Nat.le_of_ble_eq_true rfl) fun hw hbd => ?_
  have hol := hoc.len
  have hocl := hoc.cell
  have hoc0 := hoc
  obtain ⟨vs, rfl, hvs⟩ := hoc
  have hvl := hvs.len
  have hotk : vs.take 4 = vs := List.take_of_length_le (by omega)
  obtain ⟨A1, hA1⟩ : ∃ A1, A1 = A.alloc (.cells (.int .i64 o.kind :: .int .u32 o.id :: vs) 30 (some 0)) := ⟨_, rfl⟩
  have o1 : Over A A1 := hA1 ▸ (Over.refl A).alloc _
  have g3 : A1.get A.next = some (.cells (.int .i64 o.kind :: .int .u32 o.id :: vs) 30 (some 0)) := by rw [hA1]; exact get_alloc_same ..
  have n1 : A1.next = A.next + 1 := by rw [hA1]; rfl
  have ld28 := ld_agg (sz := 4) (off := 2) (e' := 30) (m := some 0) (cells := .int .i64 o.kind :: .int .u32 o.id :: vs) (cs := vs) (by simp; omega) (by rw [List.drop_succ_cons, List.drop_succ_cons, List.drop_zero, hotk])
  have ldO := ldN (e := 30) (m := some 0) hol
  simp (maxSteps := 1000000) (disch := (first | omega | (simp only [nx_alloc, nx_upd, len_cons, len_nil, List.length_set, List.length_map, List.length_append] <;> omega) | fail)) only [Nat.reduceAdd, Nat.reduceSub, Nat.reduceMul, Nat.reduceLT, Nat.reduceLeDiff, Nat.reduceEqDiff, ↓reduceIte, reduceCtorEq, Int.reduceAdd, Int.reduceSub, Int.reduceMul, Int.reduceLT, Int.reduceLE, Int.reduceEq, Int.reduceNe, Int.reduceToNat, Int.reduceNeg, go_sem, Try.ntmps9, Try.results9]
  rw [← hA1]
  refine call1 (heavyL_ok w0 A1 l v (hv.1.ge o1.ge)) ?_
  cases hh : hvyL l
  rotate_left
  · simp (maxSteps := 1000000) (disch := (first | omega | (simp only [nx_alloc, nx_upd, len_cons, len_nil, List.length_set, List.length_map, List.length_append] <;> omega) | fail)) only [Nat.reduceAdd, Nat.reduceSub, Nat.reduceMul, Nat.reduceLT, Nat.reduceLeDiff, Nat.reduceEqDiff, ↓reduceIte, reduceCtorEq, Int.reduceAdd, Int.reduceSub, Int.reduceMul, Int.reduceLT, Int.reduceLE, Int.reduceEq, Int.reduceNe, Int.reduceToNat, Int.reduceNeg, go_sem, g3]
    refine call1 (shown_ok w0 A1) ?_
    simp (maxSteps := 1000000) (disch := (first | omega | (simp only [nx_alloc, nx_upd, len_cons, len_nil, List.length_set, List.length_map, List.length_append] <;> omega) | fail)) only [Nat.reduceAdd, Nat.reduceSub, Nat.reduceMul, Nat.reduceLT, Nat.reduceLeDiff, Nat.reduceEqDiff, ↓reduceIte, reduceCtorEq, Int.reduceAdd, Int.reduceSub, Int.reduceMul, Int.reduceLT, Int.reduceLE, Int.reduceEq, Int.reduceNe, Int.reduceToNat, Int.reduceNeg, go_sem, Try.results9]
    exact gc_fin' hw o1 rfl (.bool _)
  simp (maxSteps := 1000000) (disch := (first | omega | (simp only [nx_alloc, nx_upd, len_cons, len_nil, List.length_set, List.length_map, List.length_append] <;> omega) | fail)) only [Nat.reduceAdd, Nat.reduceSub, Nat.reduceMul, Nat.reduceLT, Nat.reduceLeDiff, Nat.reduceEqDiff, ↓reduceIte, reduceCtorEq, Int.reduceAdd, Int.reduceSub, Int.reduceMul, Int.reduceLT, Int.reduceLE, Int.reduceEq, Int.reduceNe, Int.reduceToNat, Int.reduceNeg, go_sem, g3, ld28, hotk]
  obtain ⟨h60, hsm⟩ := hvyL_ok hh
  have hoks := ok_of hok.1 hsm
  refine call1 (much_ok w0 A1 o.v _ ((hvs.ge o1.ge).ver)) ?_
  cases hh2 : hvV o.v
  rotate_left
  · simp (maxSteps := 1000000) (disch := (first | omega | (simp only [nx_alloc, nx_upd, len_cons, len_nil, List.length_set, List.length_map, List.length_append] <;> omega) | fail)) only [Nat.reduceAdd, Nat.reduceSub, Nat.reduceMul, Nat.reduceLT, Nat.reduceLeDiff, Nat.reduceEqDiff, ↓reduceIte, reduceCtorEq, Int.reduceAdd, Int.reduceSub, Int.reduceMul, Int.reduceLT, Int.reduceLE, Int.reduceEq, Int.reduceNe, Int.reduceToNat, Int.reduceNeg, go_sem]
    refine call1 (shown_ok w0 A1) ?_
    simp (maxSteps := 1000000) (disch := (first | omega | (simp only [nx_alloc, nx_upd, len_cons, len_nil, List.length_set, List.length_map, List.length_append] <;> omega) | fail)) only [Nat.reduceAdd, Nat.reduceSub, Nat.reduceMul, Nat.reduceLT, Nat.reduceLeDiff, Nat.reduceEqDiff, ↓reduceIte, reduceCtorEq, Int.reduceAdd, Int.reduceSub, Int.reduceMul, Int.reduceLT, Int.reduceLE, Int.reduceEq, Int.reduceNe, Int.reduceToNat, Int.reduceNeg, go_sem, Try.results9]
    exact gc_fin' hw o1 rfl (.bool _)
  have hosm := hvV_small hh2
  simp (maxSteps := 1000000) (disch := (first | omega | (simp only [nx_alloc, nx_upd, len_cons, len_nil, List.length_set, List.length_map, List.length_append] <;> omega) | fail)) only [Nat.reduceAdd, Nat.reduceSub, Nat.reduceMul, Nat.reduceLT, Nat.reduceLeDiff, Nat.reduceEqDiff, ↓reduceIte, reduceCtorEq, Int.reduceAdd, Int.reduceSub, Int.reduceMul, Int.reduceLT, Int.reduceLE, Int.reduceEq, Int.reduceNe, Int.reduceToNat, Int.reduceNeg, go_sem]
  refine call1 (shown_ok w0 A1) ?_
  simp (maxSteps := 1000000) (disch := (first | omega | (simp only [nx_alloc, nx_upd, len_cons, len_nil, List.length_set, List.length_map, List.length_append] <;> omega) | fail)) only [Nat.reduceAdd, Nat.reduceSub, Nat.reduceMul, Nat.reduceLT, Nat.reduceLeDiff, Nat.reduceEqDiff, ↓reduceIte, reduceCtorEq, Int.reduceAdd, Int.reduceSub, Int.reduceMul, Int.reduceLT, Int.reduceLE, Int.reduceEq, Int.reduceNe, Int.reduceToNat, Int.reduceNeg, go_sem]
  refine (all_ok w0 A1 [] (fun b hb => by cases hb) l v (hv.1.ge o1.ge) hoks (by omega)).mono ?_
  rintro _ A3 ⟨cs, v2, rfl, o3, hS, hR⟩
  change StC A3 _ _ at hS
  change RsV A3 _ _ at hR
  have n3 := o3.next
  obtain ⟨A4, st5, o4, n4, g5⟩ := one_st A3 hS.len
  have o34 := o3.trans o4
  simp (maxSteps := 1000000) (disch := (first | omega | (simp only [nx_alloc, nx_upd, len_cons, len_nil, List.length_set, List.length_map, List.length_append] <;> omega) | fail)) only [Nat.reduceAdd, Nat.reduceSub, Nat.reduceMul, Nat.reduceLT, Nat.reduceLeDiff, Nat.reduceEqDiff, ↓reduceIte, reduceCtorEq, Int.reduceAdd, Int.reduceSub, Int.reduceMul, Int.reduceLT, Int.reduceLE, Int.reduceEq, Int.reduceNe, Int.reduceToNat, Int.reduceNeg, go_sem, st5]
  refine (rall_ok w0 A4 l v (hv.1.ge (o1.trans o34).ge) hoks (by omega)).mono ?_
  rintro _ A5 ⟨ct, v3, rfl, o5, hT, hQ⟩
  change StC A5 _ _ at hT
  change RsV A5 _ _ at hQ
  have n5 := o5.next
  obtain ⟨A6, st7, o6, n6, g7⟩ := one_stS A5 hT.len
  have o56 := o5.trans o6
  have hS6 := hS.ge (o4.trans o56).ge
  have hT6 := hT.ge o6.ge
  have hR6 := hR.ge (o4.trans o56).ge
  have hQ6 := hQ.ge o6.ge
  have q5 : A6.get A3.next = _ := (o56.get _ (by omega)).trans g5
  have hlR := NV.lenU (e := 40) hR6
  have hlQ := NV.lenU (e := 40) hQ6
  have hS8 := (allS_sm l hsm).1
  have hrsm := (allS_sm l hsm).2
  obtain ⟨⟨hv8, hnd, hmay⟩, hfrom⟩ := allS_good l
  have hblk : ∀ V ∈ (allS l).1.vers, V.blocks.length ≤ 1000 := fun V hV => by
    obtain ⟨r, hr, e⟩ := hfrom V hV
    have := hvyL_blocks hh r hr
    rw [e]; omega
  obtain ⟨lv, A7, hlv, o7, hlrow⟩ := live_ex w0 A6 (allS l).1 cs hS6 hv8 hblk
  obtain ⟨rv, A8, hrlv, o8, hrrow⟩ := rlive_ex w0 A7 (allS l).1 ct (hT6.ge o7.ge) hv8 hblk
  have hllen : (liveL (allS l).1.vers).length ≤ 8000 := by
    have := liveL_len (allS l).1.vers [] hblk
    have h0 : ([] : List HashT).length = 0 := rfl
    unfold liveL; omega
  have q57 : A7.get A3.next = _ := (o7.get _ (by omega)).trans q5
  have q77 : A7.get A5.next = _ := (o7.get _ (by omega)).trans g7
  have ldS := ldN (e := 43) (m := some 0) hS.len.1
  have ldT := ldN (e := 50) (m := some 0) hT.len.1
  have tkS : cs.take 22 = cs := List.take_of_length_le (by rw [hS.len.1]; omega)
  have tkT : ct.take 22 = ct := List.take_of_length_le (by rw [hT.len.1]; omega)
  simp (maxSteps := 1000000) (disch := (first | omega | (simp only [nx_alloc, nx_upd, len_cons, len_nil, List.length_set, List.length_map, List.length_append] <;> omega) | fail)) only [Nat.reduceAdd, Nat.reduceSub, Nat.reduceMul, Nat.reduceLT, Nat.reduceLeDiff, Nat.reduceEqDiff, ↓reduceIte, reduceCtorEq, Int.reduceAdd, Int.reduceSub, Int.reduceMul, Int.reduceLT, Int.reduceLE, Int.reduceEq, Int.reduceNe, Int.reduceToNat, Int.reduceNeg, go_sem, st7]
  refine aw_drawS (by kernel_rfl) ?_
  refine Ords.runG [⟨false, [], [0]⟩, ⟨false, [0], [0]⟩, ⟨false, [], [0]⟩, ⟨false, [2], [0]⟩, ⟨false, [1, 3, 0, 2], [0]⟩, ⟨false, [4, 1, 3, 0, 2], [0]⟩, ⟨false, [5, 4, 1, 3, 0, 2], [0]⟩, ⟨false, [5, 4, 1, 3, 0, 2], [0]⟩, ⟨false, [6, 7, 5, 4, 1, 3, 0, 2], [0]⟩, ⟨false, [8, 5, 6, 7, 4, 1, 3, 0, 2], [0]⟩, ⟨false, [5, 9, 4, 8, 1, 3, 6, 7, 0, 2], [0]⟩, ⟨false, [10, 8, 5, 9, 6, 7, 4, 1, 3, 0, 2], [0]⟩, ⟨false, [11, 10, 8, 5, 9, 6, 7, 4, 1, 3, 0, 2], [0]⟩, ⟨true, [12, 11, 10, 8, 5, 9, 6, 7, 4, 1, 3, 0, 2], [0]⟩, ⟨false, [11, 10, 8, 5, 9, 6, 7, 4, 1, 3, 0, 2], [0, 1]⟩, ⟨true, [14, 13, 11, 12, 10, 8, 5, 9, 6, 7, 4, 1, 3, 0, 2], [1]⟩, ⟨false, [13, 15, 11, 12, 14, 10, 8, 5, 9, 6, 7, 4, 1, 3, 0, 2], [2]⟩, ⟨false, [16, 11, 13, 15, 10, 8, 12, 14, 5, 9, 6, 7, 4, 1, 3, 0, 2], [2]⟩, ⟨false, [11, 17, 10, 8, 16, 5, 9, 6, 7, 13, 15, 4, 12, 14, 1, 3, 0, 2], [2]⟩] [A6, A7, A8] 2 (by kernel_rfl) (by kernel_rfl) rfl ?_
  simp (maxSteps := 1000000) (disch := (first | omega | (simp only [nx_alloc, nx_upd, len_cons, len_nil, List.length_set, List.length_map, List.length_append] <;> omega) | fail)) only [Nat.reduceAdd, Nat.reduceSub, Nat.reduceMul, Nat.reduceLT, Nat.reduceLeDiff, Nat.reduceEqDiff, ↓reduceIte, reduceCtorEq, Int.reduceAdd, Int.reduceSub, Int.reduceMul, Int.reduceLT, Int.reduceLE, Int.reduceEq, Int.reduceNe, Int.reduceToNat, Int.reduceNeg, go_sem, aopsG_cons, aopsG_nil, skipG_light, hlR, hlQ, q5, g7, ldS, ldT, tkS, tkT]
  refine ⟨_, equal_ok w0 A6 _ _ _ _ hS6 hT6 hS8.sm hS8.sm, ?_⟩
  rw [eqSt_yes rfl]
  simp (maxSteps := 1000000) (disch := (first | omega | (simp only [nx_alloc, nx_upd, len_cons, len_nil, List.length_set, List.length_map, List.length_append] <;> omega) | fail)) only [Nat.reduceAdd, Nat.reduceSub, Nat.reduceMul, Nat.reduceLT, Nat.reduceLeDiff, Nat.reduceEqDiff, ↓reduceIte, reduceCtorEq, Int.reduceAdd, Int.reduceSub, Int.reduceMul, Int.reduceLT, Int.reduceLE, Int.reduceEq, Int.reduceNe, Int.reduceToNat, Int.reduceNeg, go_sem, aopsG_cons, aopsG_nil, skipG_light, q5, g7, q57, q77, ldS, ldT, tkS, tkT]
  refine ⟨_, hlv, ?_⟩
  refine ⟨_, hrlv, ?_⟩
  have o68 := o7.trans o8
  refine ⟨_, hsame_ok w0 A8 _ _ _ _ (View.over (Row.view hlrow) o8) (Row.view hrrow) (by omega) (by omega), ?_⟩
  rw [decide_eq_true rfl]
  try simp (maxSteps := 1000000) (disch := (first | omega | (simp only [nx_alloc, nx_upd, len_cons, len_nil, List.length_set, List.length_map, List.length_append] <;> omega) | fail)) only [Nat.reduceAdd, Nat.reduceSub, Nat.reduceMul, Nat.reduceLT, Nat.reduceLeDiff, Nat.reduceEqDiff, ↓reduceIte, reduceCtorEq, Int.reduceAdd, Int.reduceSub, Int.reduceMul, Int.reduceLT, Int.reduceLE, Int.reduceEq, Int.reduceNe, Int.reduceToNat, Int.reduceNeg, go_sem, aopsG_cons, aopsG_nil, skipG_light]
  obtain ⟨Q, hQdef⟩ : ∃ Q, Q = (allS l).2 := ⟨_, rfl⟩
  have hQl : Q.length = l.length := by rw [hQdef]; exact (allS_len l).2
  have hR8 := hR6.ge o68.ge
  have hQ8 := hQ6.ge o68.ge
  rw [← hQdef] at hR8 hQ8 hrsm
  have hlR8 := NV.lenU (e := 40) hR8
  have o18 : Over A1 A8 := ((o34.trans o56).trans o68)
  have r3 : A8.get A.next = _ := (o18.get _ (by omega)).trans g3
  have r5 : A8.get A3.next = _ := (o68.get _ (by omega)).trans q5
  have r7 : A8.get A5.next = _ := (o68.get _ (by omega)).trans g7
  obtain ⟨b5, hb5⟩ : ∃ b, b = A3.next := ⟨_, rfl⟩
  obtain ⟨b7, hb7⟩ : ∃ b, b = A5.next := ⟨_, rfl⟩
  rw [← hb5, ← hb7]
  rw [← hb5] at r5
  rw [← hb7] at r7
  refine aw_loop (fun k x A' => ∃ (ρ : Nat → Value) (i : Nat), x = E 110 ρ [] ∧ k = Q.length - i ∧ i ≤ Q.length ∧ A' = A8 ∧ ρ 3 = .pointer (some ⟨A.next, 0, none⟩) ∧ ρ 5 = .pointer (some ⟨b5, 0, none⟩) ∧ ρ 6 = v2 ∧ ρ 7 = .pointer (some ⟨b7, 0, none⟩) ∧ ρ 8 = v3 ∧ ρ 9 = .int .i64 i) Q.length
    ⟨_, 0, rfl, rfl, Nat.zero_le _, rfl, rfl, rfl, rfl, rfl, rfl, rfl⟩ ?_
  rintro k x A' ⟨ρ, i, rfl, hk, hi, rfl, t3, t5, t6, t7, t8, t9⟩
  refine aw_of ?_
  by_cases hend : i = Q.length
  rotate_left
  · have e1 : ((i : Int) < Q.length) := by omega
    obtain ⟨R, hRi⟩ : ∃ R, Q[i]? = some R := ⟨_, List.getElem?_eq_getElem (by omega)⟩
    obtain ⟨R0, hR0⟩ : ∃ R, Q[0]? = some R := ⟨_, List.getElem?_eq_getElem (by omega)⟩
    obtain ⟨xb, xo, xc, x1, x2, x3, x4, xcl, xe, xm, x5, x6, x7⟩ := hR8.at (P := Try.prog) (e := 40) Try.sz40 hRi
    obtain ⟨yb, yo, yc, y1, y2, y3, y4, ycl, ye, ym, y5, y6, y7⟩ := hQ8.at (P := Try.prog) (e := 40) Try.sz40 hRi
    obtain ⟨zb, zo, zc, z1, z2, z3, z4, zcl, ze, zm, z5, z6, z7⟩ := hR8.at (P := Try.prog) (e := 40) Try.sz40 hR0
    have z20 := z2 .i64
    simp only [Int.ofNat_zero, Int.natCast_zero] at z20
    have ldx := ld_agg (e' := xe) (m := xm) x6 x7
    have ldy := ld_agg (e' := ye) (m := ym) y6 y7
    have ldz := ld_agg (e' := ze) (m := zm) z6 z7
    have sm1 := hrsm R (List.mem_of_getElem? hRi)
    have sm0 := hrsm R0 (List.mem_of_getElem? hR0)
    simp (maxSteps := 1000000) (disch := (first | omega | (simp only [nx_alloc, nx_upd, len_cons, len_nil, List.length_set, List.length_map, List.length_append] <;> omega) | fail)) only [Nat.reduceAdd, Nat.reduceSub, Nat.reduceMul, Nat.reduceLT, Nat.reduceLeDiff, Nat.reduceEqDiff, ↓reduceIte, reduceCtorEq, Int.reduceAdd, Int.reduceSub, Int.reduceMul, Int.reduceLT, Int.reduceLE, Int.reduceEq, Int.reduceNe, Int.reduceToNat, Int.reduceNeg, go_sem, t6, t9, hlR8]
    refine aw_draw2 [⟨false, [], [0]⟩, ⟨false, [], [0]⟩, ⟨false, [0, 1], [0]⟩, ⟨false, [0, 1, 2], [0]⟩, ⟨false, [], [0]⟩, ⟨false, [], [0]⟩, ⟨false, [4, 5], [0]⟩, ⟨false, [4, 5, 6], [0]⟩, ⟨false, [0, 1, 2, 3, 4, 5, 6, 7], [0]⟩, ⟨false, [0, 1, 2, 3, 4, 5, 6, 7, 8], [0]⟩, ⟨false, [0, 1, 2, 3, 4, 5, 6, 7, 8, 9], [0]⟩, ⟨false, [0, 1, 2, 3, 4, 5, 6, 7, 8, 9, 10], [0]⟩, ⟨false, [0, 1, 2, 3, 4, 5, 6, 7, 8, 9, 10], [0]⟩, ⟨false, [0, 1, 2, 3, 4, 5, 6, 7, 8, 9, 10, 11, 12], [0]⟩, ⟨false, [0, 1, 2, 3, 4, 5, 6, 7, 8, 9, 10, 11, 12, 13], [0]⟩, ⟨false, [0, 1, 2, 3, 4, 5, 6, 7, 8, 9, 10], [0]⟩, ⟨false, [0, 1, 2, 3, 4, 5, 6, 7, 8, 9, 10, 15], [0]⟩, ⟨false, [0, 1, 2, 3, 4, 5, 6, 7, 8, 9, 10, 15, 16], [0]⟩, ⟨false, [0, 1, 2, 3, 4, 5, 6, 7, 8, 9, 10, 11, 12, 13, 14, 15, 16, 17], [0]⟩, ⟨false, [0, 1, 2, 3, 4, 5, 6, 7, 8, 9, 10], [0]⟩, ⟨false, [0, 1, 2, 3, 4, 5, 6, 7, 8, 9, 10], [0]⟩, ⟨false, [0, 1, 2, 3, 4, 5, 6, 7, 8, 9, 10, 19, 20], [0]⟩, ⟨false, [0, 1, 2, 3, 4, 5, 6, 7, 8, 9, 10, 19, 20, 21], [0]⟩, ⟨false, [0, 1, 2, 3, 4, 5, 6, 7, 8, 9, 10], [0]⟩, ⟨false, [0, 1, 2, 3, 4, 5, 6, 7, 8, 9, 10, 23], [0]⟩, ⟨false, [0, 1, 2, 3, 4, 5, 6, 7, 8, 9, 10, 23, 24], [0]⟩, ⟨false, [0, 1, 2, 3, 4, 5, 6, 7, 8, 9, 10, 11, 12, 13, 14, 15, 16, 17, 18, 19, 20, 21, 22, 23, 24, 25], [0]⟩, ⟨false, [0, 1, 2, 3, 4, 5, 6, 7, 8, 9, 10, 11, 12, 13, 14, 15, 16, 17, 18, 19, 20, 21, 22, 23, 24, 25, 26], [0]⟩, ⟨false, [0, 1, 2, 3, 4, 5, 6, 7, 8, 9, 10, 11, 12, 13, 14, 15, 16, 17, 18, 19, 20, 21, 22, 23, 24, 25, 26, 27], [0]⟩] [A'] 0 (by kernel_rfl) (by kernel_rfl) rfl ?_
    simp (maxSteps := 1000000) (disch := (first | omega | (simp only [nx_alloc, nx_upd, len_cons, len_nil, List.length_set, List.length_map, List.length_append] <;> omega) | fail)) only [Nat.reduceAdd, Nat.reduceSub, Nat.reduceMul, Nat.reduceLT, Nat.reduceLeDiff, Nat.reduceEqDiff, ↓reduceIte, reduceCtorEq, Int.reduceAdd, Int.reduceSub, Int.reduceMul, Int.reduceLT, Int.reduceLE, Int.reduceEq, Int.reduceNe, Int.reduceToNat, Int.reduceNeg, go_sem, t6, t8, t9, x2, x5, ldx, y2, y5, ldy]
    refine ⟨_, rsame17_ok w0 A' R R _ _ x3 y3 sm1.1 sm1.1 (by have := sm1.2; omega), ?_⟩
    rw [sameR_self]
    simp (maxSteps := 1000000) (disch := (first | omega | (simp only [nx_alloc, nx_upd, len_cons, len_nil, List.length_set, List.length_map, List.length_append] <;> omega) | fail)) only [Nat.reduceAdd, Nat.reduceSub, Nat.reduceMul, Nat.reduceLT, Nat.reduceLeDiff, Nat.reduceEqDiff, ↓reduceIte, reduceCtorEq, Int.reduceAdd, Int.reduceSub, Int.reduceMul, Int.reduceLT, Int.reduceLE, Int.reduceEq, Int.reduceNe, Int.reduceToNat, Int.reduceNeg, go_sem, t6, t8, t9, x2, x5, ldx, z20, z5, ldz]
    refine ⟨_, psame17_ok w0 A' R R0 _ _ x3 z3 sm1.1 sm0.1 (by have := sm1.2; omega) (by have := sm0.2; omega), ?_⟩
    refine ⟨_, rsame17_ok w0 A' R R0 _ _ x3 z3 sm1.1 sm0.1 (by have := sm1.2; omega), ?_⟩
    cases hRR : sameR R R0
    · simp (maxSteps := 1000000) (disch := (first | omega | (simp only [nx_alloc, nx_upd, len_cons, len_nil, List.length_set, List.length_map, List.length_append] <;> omega) | fail)) only [Nat.reduceAdd, Nat.reduceSub, Nat.reduceMul, Nat.reduceLT, Nat.reduceLeDiff, Nat.reduceEqDiff, ↓reduceIte, reduceCtorEq, Int.reduceAdd, Int.reduceSub, Int.reduceMul, Int.reduceLT, Int.reduceLE, Int.reduceEq, Int.reduceNe, Int.reduceToNat, Int.reduceNeg, go_sem, t9]
      refine ⟨k - 1, by omega, _, i + 1, rfl, by omega, by omega, ?_, ?_, ?_, ?_, ?_, ?_⟩
      · simp (maxSteps := 1000000) (disch := (first | omega | (simp only [nx_alloc, nx_upd, len_cons, len_nil, List.length_set, List.length_map, List.length_append] <;> omega) | fail)) only [Nat.reduceAdd, Nat.reduceSub, Nat.reduceMul, Nat.reduceLT, Nat.reduceLeDiff, Nat.reduceEqDiff, ↓reduceIte, reduceCtorEq, Int.reduceAdd, Int.reduceSub, Int.reduceMul, Int.reduceLT, Int.reduceLE, Int.reduceEq, Int.reduceNe, Int.reduceToNat, Int.reduceNeg, go_sem, t3]
      · simp (maxSteps := 1000000) (disch := (first | omega | (simp only [nx_alloc, nx_upd, len_cons, len_nil, List.length_set, List.length_map, List.length_append] <;> omega) | fail)) only [Nat.reduceAdd, Nat.reduceSub, Nat.reduceMul, Nat.reduceLT, Nat.reduceLeDiff, Nat.reduceEqDiff, ↓reduceIte, reduceCtorEq, Int.reduceAdd, Int.reduceSub, Int.reduceMul, Int.reduceLT, Int.reduceLE, Int.reduceEq, Int.reduceNe, Int.reduceToNat, Int.reduceNeg, go_sem, t5]
      · simp (maxSteps := 1000000) (disch := (first | omega | (simp only [nx_alloc, nx_upd, len_cons, len_nil, List.length_set, List.length_map, List.length_append] <;> omega) | fail)) only [Nat.reduceAdd, Nat.reduceSub, Nat.reduceMul, Nat.reduceLT, Nat.reduceLeDiff, Nat.reduceEqDiff, ↓reduceIte, reduceCtorEq, Int.reduceAdd, Int.reduceSub, Int.reduceMul, Int.reduceLT, Int.reduceLE, Int.reduceEq, Int.reduceNe, Int.reduceToNat, Int.reduceNeg, go_sem, t6]
      · simp (maxSteps := 1000000) (disch := (first | omega | (simp only [nx_alloc, nx_upd, len_cons, len_nil, List.length_set, List.length_map, List.length_append] <;> omega) | fail)) only [Nat.reduceAdd, Nat.reduceSub, Nat.reduceMul, Nat.reduceLT, Nat.reduceLeDiff, Nat.reduceEqDiff, ↓reduceIte, reduceCtorEq, Int.reduceAdd, Int.reduceSub, Int.reduceMul, Int.reduceLT, Int.reduceLE, Int.reduceEq, Int.reduceNe, Int.reduceToNat, Int.reduceNeg, go_sem, t7]
      · simp (maxSteps := 1000000) (disch := (first | omega | (simp only [nx_alloc, nx_upd, len_cons, len_nil, List.length_set, List.length_map, List.length_append] <;> omega) | fail)) only [Nat.reduceAdd, Nat.reduceSub, Nat.reduceMul, Nat.reduceLT, Nat.reduceLeDiff, Nat.reduceEqDiff, ↓reduceIte, reduceCtorEq, Int.reduceAdd, Int.reduceSub, Int.reduceMul, Int.reduceLT, Int.reduceLE, Int.reduceEq, Int.reduceNe, Int.reduceToNat, Int.reduceNeg, go_sem, t8]
      · simp (maxSteps := 1000000) (disch := (first | omega | (simp only [nx_alloc, nx_upd, len_cons, len_nil, List.length_set, List.length_map, List.length_append] <;> omega) | fail)) only [Nat.reduceAdd, Nat.reduceSub, Nat.reduceMul, Nat.reduceLT, Nat.reduceLeDiff, Nat.reduceEqDiff, ↓reduceIte, reduceCtorEq, Int.reduceAdd, Int.reduceSub, Int.reduceMul, Int.reduceLT, Int.reduceLE, Int.reduceEq, Int.reduceNe, Int.reduceToNat, Int.reduceNeg, go_sem]
        rfl
    · simp (maxSteps := 1000000) (disch := (first | omega | (simp only [nx_alloc, nx_upd, len_cons, len_nil, List.length_set, List.length_map, List.length_append] <;> omega) | fail)) only [Nat.reduceAdd, Nat.reduceSub, Nat.reduceMul, Nat.reduceLT, Nat.reduceLeDiff, Nat.reduceEqDiff, ↓reduceIte, reduceCtorEq, Int.reduceAdd, Int.reduceSub, Int.reduceMul, Int.reduceLT, Int.reduceLE, Int.reduceEq, Int.reduceNe, Int.reduceToNat, Int.reduceNeg, go_sem, t9]
      refine ⟨k - 1, by omega, _, i + 1, rfl, by omega, by omega, ?_, ?_, ?_, ?_, ?_, ?_⟩
      · simp (maxSteps := 1000000) (disch := (first | omega | (simp only [nx_alloc, nx_upd, len_cons, len_nil, List.length_set, List.length_map, List.length_append] <;> omega) | fail)) only [Nat.reduceAdd, Nat.reduceSub, Nat.reduceMul, Nat.reduceLT, Nat.reduceLeDiff, Nat.reduceEqDiff, ↓reduceIte, reduceCtorEq, Int.reduceAdd, Int.reduceSub, Int.reduceMul, Int.reduceLT, Int.reduceLE, Int.reduceEq, Int.reduceNe, Int.reduceToNat, Int.reduceNeg, go_sem, t3]
      · simp (maxSteps := 1000000) (disch := (first | omega | (simp only [nx_alloc, nx_upd, len_cons, len_nil, List.length_set, List.length_map, List.length_append] <;> omega) | fail)) only [Nat.reduceAdd, Nat.reduceSub, Nat.reduceMul, Nat.reduceLT, Nat.reduceLeDiff, Nat.reduceEqDiff, ↓reduceIte, reduceCtorEq, Int.reduceAdd, Int.reduceSub, Int.reduceMul, Int.reduceLT, Int.reduceLE, Int.reduceEq, Int.reduceNe, Int.reduceToNat, Int.reduceNeg, go_sem, t5]
      · simp (maxSteps := 1000000) (disch := (first | omega | (simp only [nx_alloc, nx_upd, len_cons, len_nil, List.length_set, List.length_map, List.length_append] <;> omega) | fail)) only [Nat.reduceAdd, Nat.reduceSub, Nat.reduceMul, Nat.reduceLT, Nat.reduceLeDiff, Nat.reduceEqDiff, ↓reduceIte, reduceCtorEq, Int.reduceAdd, Int.reduceSub, Int.reduceMul, Int.reduceLT, Int.reduceLE, Int.reduceEq, Int.reduceNe, Int.reduceToNat, Int.reduceNeg, go_sem, t6]
      · simp (maxSteps := 1000000) (disch := (first | omega | (simp only [nx_alloc, nx_upd, len_cons, len_nil, List.length_set, List.length_map, List.length_append] <;> omega) | fail)) only [Nat.reduceAdd, Nat.reduceSub, Nat.reduceMul, Nat.reduceLT, Nat.reduceLeDiff, Nat.reduceEqDiff, ↓reduceIte, reduceCtorEq, Int.reduceAdd, Int.reduceSub, Int.reduceMul, Int.reduceLT, Int.reduceLE, Int.reduceEq, Int.reduceNe, Int.reduceToNat, Int.reduceNeg, go_sem, t7]
      · simp (maxSteps := 1000000) (disch := (first | omega | (simp only [nx_alloc, nx_upd, len_cons, len_nil, List.length_set, List.length_map, List.length_append] <;> omega) | fail)) only [Nat.reduceAdd, Nat.reduceSub, Nat.reduceMul, Nat.reduceLT, Nat.reduceLeDiff, Nat.reduceEqDiff, ↓reduceIte, reduceCtorEq, Int.reduceAdd, Int.reduceSub, Int.reduceMul, Int.reduceLT, Int.reduceLE, Int.reduceEq, Int.reduceNe, Int.reduceToNat, Int.reduceNeg, go_sem, t8]
      · simp (maxSteps := 1000000) (disch := (first | omega | (simp only [nx_alloc, nx_upd, len_cons, len_nil, List.length_set, List.length_map, List.length_append] <;> omega) | fail)) only [Nat.reduceAdd, Nat.reduceSub, Nat.reduceMul, Nat.reduceLT, Nat.reduceLeDiff, Nat.reduceEqDiff, ↓reduceIte, reduceCtorEq, Int.reduceAdd, Int.reduceSub, Int.reduceMul, Int.reduceLT, Int.reduceLE, Int.reduceEq, Int.reduceNe, Int.reduceToNat, Int.reduceNeg, go_sem]
        rfl
  have e1 : ¬ ((i : Int) < Q.length) := by omega
  have hS9 := hS6.ge o68.ge
  have hT9 := hT6.ge o68.ge
  obtain ⟨sv, stl, rfl, hsv, hstl, hstc, _⟩ := hS9.parts
  obtain ⟨tv, ttl, rfl, htv, httl, httc, _⟩ := hT9.parts
  have hoc9 := hoc0.ge (o1.trans o18).ge
  have hoid : 0 ≤ o.id ∧ o.id < 4294967296 := ⟨hoo.1, hoo.2.1⟩
  simp (maxSteps := 1000000) (disch := (first | omega | (simp only [nx_alloc, nx_upd, len_cons, len_nil, List.length_set, List.length_map, List.length_append] <;> omega) | fail)) only [Nat.reduceAdd, Nat.reduceSub, Nat.reduceMul, Nat.reduceLT, Nat.reduceLeDiff, Nat.reduceEqDiff, ↓reduceIte, reduceCtorEq, Int.reduceAdd, Int.reduceSub, Int.reduceMul, Int.reduceLT, Int.reduceLE, Int.reduceEq, Int.reduceNe, Int.reduceToNat, Int.reduceNeg, go_sem, t3, t5, t6, t7, t8, t9, hlR8, r3, r5, r7, ldS, ldO, tkS, hotk]
  refine (do_ok w0 A' [] (fun b hb => by cases hb) (allS l).1.vers sv stl o _ hsv hoc9 (by omega) hstl hstc hoid hosm).mono ?_
  rintro _ A9 ⟨uv, xt, rfl, o9, hU, hX⟩
  change VsV A9 _ _ at hU
  change RepC A9 _ _ at hX
  have n9 := o9.next
  have hU0 := StC.vers hS9 o9.ge hU
  obtain ⟨C1, A10, st10, gC1, st11, o10, n10, g10, g11⟩ := two_st A9 hU0.len hX.len hX.cell
  have o910 := o9.trans o10
  have n68 := o68.next
  have n18 := o18.next
  have n910 := o910.next
  have s3 : A10.get A.next = _ := (o910.get _ (by omega)).trans r3
  have s7 : A10.get b7 = _ := (o910.get _ (by omega)).trans r7
  simp (maxSteps := 1000000) (disch := (first | omega | (simp only [nx_alloc, nx_upd, len_cons, len_nil, List.length_set, List.length_map, List.length_append] <;> omega) | fail)) only [Nat.reduceAdd, Nat.reduceSub, Nat.reduceMul, Nat.reduceLT, Nat.reduceLeDiff, Nat.reduceEqDiff, ↓reduceIte, reduceCtorEq, Int.reduceAdd, Int.reduceSub, Int.reduceMul, Int.reduceLT, Int.reduceLE, Int.reduceEq, Int.reduceNe, Int.reduceToNat, Int.reduceNeg, go_sem, st10, gC1, st11, t3, t7, s3, s7, ldT, ldO, tkT, hotk]
  refine (rdo_ok w0 A10 [] (fun b hb => by cases hb) (allS l).1.vers tv ttl o _ (htv.ge o910.ge) (hoc9.ge o910.ge) (by omega) httl httc hoid hosm).mono ?_
  rintro _ A11 ⟨wv, yt, rfl, o11, hW, hY⟩
  change VsV A11 _ _ at hW
  change RepC A11 _ _ at hY
  have n11 := o11.next
  have hW0 := StC.vers hT9 (o910.trans o11).ge hW
  obtain ⟨C2, A12, st12, gC2, st13, o12, n12, g12, g13⟩ := two_stR A11 hW0.len hY.len hY.cell
  have o1112 := o11.trans o12
  have u10 : A12.get A9.next = _ := (o1112.get _ (by omega)).trans g10
  have u11 : A12.get (A9.next + 1) = _ := (o1112.get _ (by omega)).trans g11
  have ldX := ldN (e := 40) (m := some 0) hX.len
  have ldY := ldN (e := 40) (m := some 0) hY.len
  have tkX : xt.take 6 = xt := List.take_of_length_le (by rw [hX.len]; omega)
  have tkY : yt.take 6 = yt := List.take_of_length_le (by rw [hY.len]; omega)
  have ldU := ldN (e := 43) (m := some 0) hU0.len.1
  have ldW := ldN (e := 50) (m := some 0) hW0.len.1
  have tkU : stl.take 21 = stl := List.take_of_length_le (by omega)
  have tkW : ttl.take 21 = ttl := List.take_of_length_le (by omega)
  have hdsm := doL_sm hv8 hS8.2.2.2.1 hosm
  have hsmU : StT.sm ⟨(doL (allS l).1.vers o).1, (allS l).1.seqs, (allS l).1.last⟩ := ⟨by have := doL_len o hv8; simp only; omega, hdsm.1, (hS8.sm).2.2⟩
  simp (maxSteps := 1000000) (disch := (first | omega | (simp only [nx_alloc, nx_upd, len_cons, len_nil, List.length_set, List.length_map, List.length_append] <;> omega) | fail)) only [Nat.reduceAdd, Nat.reduceSub, Nat.reduceMul, Nat.reduceLT, Nat.reduceLeDiff, Nat.reduceEqDiff, ↓reduceIte, reduceCtorEq, Int.reduceAdd, Int.reduceSub, Int.reduceMul, Int.reduceLT, Int.reduceLE, Int.reduceEq, Int.reduceNe, Int.reduceToNat, Int.reduceNeg, go_sem, st12, gC2, st13, u11, g13, ldX, ldY, tkX, tkY]
  refine call1 (rsame17_ok w0 A12 _ _ _ _ (hX.ge (o10.trans o1112).ge) (hY.ge o12.ge) hdsm.2.1 hdsm.2.1 (by have := hdsm.2.2; omega)) ?_
  rw [sameR_self]
  simp (maxSteps := 1000000) (disch := (first | omega | (simp only [nx_alloc, nx_upd, len_cons, len_nil, List.length_set, List.length_map, List.length_append] <;> omega) | fail)) only [Nat.reduceAdd, Nat.reduceSub, Nat.reduceMul, Nat.reduceLT, Nat.reduceLeDiff, Nat.reduceEqDiff, ↓reduceIte, reduceCtorEq, Int.reduceAdd, Int.reduceSub, Int.reduceMul, Int.reduceLT, Int.reduceLE, Int.reduceEq, Int.reduceNe, Int.reduceToNat, Int.reduceNeg, go_sem, u10, g12, ldU, ldW, tkU, tkW]
  refine call1 (equal_ok w0 A12 _ _ _ _ (hU0.ge (o10.trans o1112).ge) (hW0.ge o12.ge) hsmU hsmU) ?_
  rw [eqSt_yes rfl]
  simp (maxSteps := 1000000) (disch := (first | omega | (simp only [nx_alloc, nx_upd, len_cons, len_nil, List.length_set, List.length_map, List.length_append] <;> omega) | fail)) only [Nat.reduceAdd, Nat.reduceSub, Nat.reduceMul, Nat.reduceLT, Nat.reduceLeDiff, Nat.reduceEqDiff, ↓reduceIte, reduceCtorEq, Int.reduceAdd, Int.reduceSub, Int.reduceMul, Int.reduceLT, Int.reduceLE, Int.reduceEq, Int.reduceNe, Int.reduceToNat, Int.reduceNeg, go_sem, Try.results9]
  exact gc_fin' hw ((o1.trans o18).trans (o910.trans o1112)) rfl (.bool _)
end Go.Fw
