import Derived.Test.YtphfkbagjpcmpaaFwVault12
set_option linter.unusedSimpArgs false
set_option linter.unusedVariables false
namespace Go.Fw
open Go.Proofs Go.RowKit
theorem Try.enters29 : Enters Try.prog 29 := enters_of Try.func29 rfl (by kernel_rfl)
theorem two_stR (B : St) {cs rc : List Value} (h1 : cs.length = 22 ∧ cs.all cell1 = true) (h2 : rc.length = 6) (h3 : rc.all cell1 = true) : ∃ C1 C, storeC ((B.alloc (.cells [.slice none 0 0, .int .u32 0, .int .u32 0, .int .u32 0, .int .i64 0, .slice none 0 0, .int .u32 0, .slice none 0 0, .slice none 0 0, .slice none 0 0, .int .i64 0, .slice none 0 0, .int .u32 0, .slice none 0 0, .slice none 0 0, .slice none 0 0, .int .i64 0, .slice none 0 0, .int .u32 0, .slice none 0 0, .slice none 0 0, .slice none 0 0] 50 (some 0))).alloc (.cells [.int .i64 0, .slice none 0 0, .int .u32 0, .slice none 0 0, .slice none 0 0, .slice none 0 0] 40 (some 0))) (some 22) (some (.cells [.slice none 0 0, .int .u32 0, .int .u32 0, .int .u32 0, .int .i64 0, .slice none 0 0, .int .u32 0, .slice none 0 0, .slice none 0 0, .slice none 0 0, .int .i64 0, .slice none 0 0, .int .u32 0, .slice none 0 0, .slice none 0 0, .slice none 0 0, .int .i64 0, .slice none 0 0, .int .u32 0, .slice none 0 0, .slice none 0 0, .slice none 0 0] 50 (some 0))) B.next 0 (.agg cs.toArray) = some C1 ∧
    C1.get (B.next + 1) = some (.cells [.int .i64 0, .slice none 0 0, .int .u32 0, .slice none 0 0, .slice none 0 0, .slice none 0 0] 40 (some 0)) ∧ storeC C1 (some 6) (some (.cells [.int .i64 0, .slice none 0 0, .int .u32 0, .slice none 0 0, .slice none 0 0, .slice none 0 0] 40 (some 0))) (B.next + 1) 0 (.agg rc.toArray) = some C ∧ Over B C ∧ C.next = B.next + 2 ∧ C.get B.next = some (.cells cs 50 (some 0)) ∧ C.get (B.next + 1) = some (.cells rc 40 (some 0)) :=
  ⟨_, _, stN (n := 22) rfl h1.1 h1.2, by rw [St.get_upd, if_neg (by omega)]; exact get_alloc_same .., stN (n := 6) rfl h2 h3, ((((Over.refl B).alloc _).alloc _).upd (Nat.le_refl _) _).upd (by omega) _, rfl, by rw [St.get_upd, if_neg (by omega), get_upd_same], get_upd_same ..⟩
set_option maxHeartbeats 16000000 in
theorem rapply_ok (w0 : World) (A : St) (L : List Nat) (hL : ∀ b ∈ L, b < A.next) (S : StT) (cs : List Value) (r : ReqT) (qc : List Value) (hS : StC (A.hide L) S cs) (hr : ReqC (A.hide L) r qc) (hok : r.ok) (hl : S.vers.length ≤ 1000) :
    ACalls Try.prog w0 29 #[.agg cs.toArray, .agg qc.toArray] A (ApPost A L (applyS S r)) := by
  obtain ⟨hs22, hsc⟩ := hS.len
  have hq8 := hr.len
  have hqc := hr.cell
  have hr0 := hr
  obtain ⟨oc, rfl, ho⟩ := hr
  have ho6 := ho.len
  have htk : cs.take 22 = cs := List.take_of_length_le (by omega)
  have hotk : oc.take 6 = oc := List.take_of_length_le (by omega)
  obtain ⟨k1, k2, k3, k4, k5⟩ := hok
  obtain ⟨B, hB⟩ : ∃ B, B = (((A.alloc (.cells cs 50 (some 0))).alloc (.cells (.int .i64 r.client :: .int .u32 r.seq :: oc) 32 (some 0))).alloc (.cells [.slice none 0 0, .int .u32 0, .int .u32 0, .int .u32 0, .int .i64 0, .slice none 0 0, .int .u32 0, .slice none 0 0, .slice none 0 0, .slice none 0 0, .int .i64 0, .slice none 0 0, .int .u32 0, .slice none 0 0, .slice none 0 0, .slice none 0 0, .int .i64 0, .slice none 0 0, .int .u32 0, .slice none 0 0, .slice none 0 0, .slice none 0 0] 50 (some 0))).alloc (.cells [.int .i64 0, .slice none 0 0, .int .u32 0, .slice none 0 0, .slice none 0 0, .slice none 0 0] 40 (some 0)) := ⟨_, rfl⟩
  have oB : Over A B := by rw [hB]; exact (((Over.refl A).alloc _).alloc _).alloc _ |>.alloc _
  have nB : B.next = A.next + 4 := by rw [hB]; rfl
  have b0 : B.get A.next = some (.cells cs 50 (some 0)) := by rw [hB]; simp (disch := (first | omega | (simp only [nx_alloc, nx_upd, len_cons, len_nil, List.length_set, List.length_map, List.length_append] <;> omega) | fail)) only [St.get_upd, St.get_alloc, St.next_alloc, St.next_upd, ↓reduceIte, natF_lt, natF_gt, natF_ne, Nat.add_assoc, Nat.reduceAdd, Nat.reduceEqDiff, Nat.add_left_cancel_iff]
  have b1 : B.get (A.next + 1) = some (.cells (.int .i64 r.client :: .int .u32 r.seq :: oc) 32 (some 0)) := by rw [hB]; simp (disch := (first | omega | (simp only [nx_alloc, nx_upd, len_cons, len_nil, List.length_set, List.length_map, List.length_append] <;> omega) | fail)) only [St.get_upd, St.get_alloc, St.next_alloc, St.next_upd, ↓reduceIte, natF_lt, natF_gt, natF_ne, Nat.add_assoc, Nat.reduceAdd, Nat.reduceEqDiff, Nat.add_left_cancel_iff]
  have b2 : B.get (A.next + 2) = some (.cells [.slice none 0 0, .int .u32 0, .int .u32 0, .int .u32 0, .int .i64 0, .slice none 0 0, .int .u32 0, .slice none 0 0, .slice none 0 0, .slice none 0 0, .int .i64 0, .slice none 0 0, .int .u32 0, .slice none 0 0, .slice none 0 0, .slice none 0 0, .int .i64 0, .slice none 0 0, .int .u32 0, .slice none 0 0, .slice none 0 0, .slice none 0 0] 50 (some 0)) := by rw [hB]; simp (disch := (first | omega | (simp only [nx_alloc, nx_upd, len_cons, len_nil, List.length_set, List.length_map, List.length_append] <;> omega) | fail)) only [St.get_upd, St.get_alloc, St.next_alloc, St.next_upd, ↓reduceIte, natF_lt, natF_gt, natF_ne, Nat.add_assoc, Nat.reduceAdd, Nat.reduceEqDiff, Nat.add_left_cancel_iff]
  have b3 : B.get (A.next + 3) = some (.cells [.int .i64 0, .slice none 0 0, .int .u32 0, .slice none 0 0, .slice none 0 0, .slice none 0 0] 40 (some 0)) := by rw [hB]; simp (disch := (first | omega | (simp only [nx_alloc, nx_upd, len_cons, len_nil, List.length_set, List.length_map, List.length_append] <;> omega) | fail)) only [St.get_upd, St.get_alloc, St.next_alloc, St.next_upd, ↓reduceIte, natF_lt, natF_gt, natF_ne, Nat.add_assoc, Nat.reduceAdd, Nat.reduceEqDiff, Nat.add_left_cancel_iff]
  have gB : ∀ (X : St), Over B X → Ge (A.hide L) (X.hide ((A.next + 3) :: (A.next + 2) :: L)) := fun X oX => Ge.hide (oB.trans oX).next (fun b hb hbL => ⟨by simp only [List.mem_cons, not_or]; exact ⟨by omega, by omega, hbL⟩, (oB.trans oX).get b hb⟩)
  have fin1 : ∀ (X : St) (cs' : List Value) (rc : List Value), Over A X → StC (X.hide ((A.next + 3) :: (A.next + 2) :: L)) (applyS S r).1 cs' → RepC (X.hide ((A.next + 3) :: (A.next + 2) :: L)) (applyS S r).2 rc → A.next + 4 ≤ X.next →
      GcE A (ApPost A L (applyS S r)) (.returned (.tuple #[.agg cs'.toArray, .agg rc.toArray])) ((X.upd (A.next + 2) (some (.cells cs' 50 (some 0)))).upd (A.next + 3) (some (.cells rc 40 (some 0)))) := by
    intro X cs' rc oX hv' hr' hnx
    have oF : Over A ((X.upd (A.next + 2) (some (.cells cs' 50 (some 0)))).upd (A.next + 3) (some (.cells rc 40 (some 0)))) := (oX.upd (by omega) _).upd (by omega) _
    have gF : Ge (X.hide ((A.next + 3) :: (A.next + 2) :: L)) (((X.upd (A.next + 2) (some (.cells cs' 50 (some 0)))).upd (A.next + 3) (some (.cells rc 40 (some 0)))).hide L) := Ge.hide (Nat.le_refl _) (fun b hb hbL => by
      simp only [List.mem_cons, not_or] at hbL
      exact ⟨hbL.2.2, by rw [St.get_upd, if_neg hbL.1, St.get_upd, if_neg hbL.2.1]⟩)
    exact gc_here ⟨cs', rc, rfl, oF, hv'.ge gF, hr'.ge gF⟩
  have stE : ∀ (X : St) (c' : List Value), c'.length = 22 → c'.all cell1 = true → storeC X (some 22) (some (.cells [.slice none 0 0, .int .u32 0, .int .u32 0, .int .u32 0, .int .i64 0, .slice none 0 0, .int .u32 0, .slice none 0 0, .slice none 0 0, .slice none 0 0, .int .i64 0, .slice none 0 0, .int .u32 0, .slice none 0 0, .slice none 0 0, .slice none 0 0, .int .i64 0, .slice none 0 0, .int .u32 0, .slice none 0 0, .slice none 0 0, .slice none 0 0] 50 (some 0))) (A.next + 2) 0 (.agg c'.toArray) = some (X.upd (A.next + 2) (some (.cells c' 50 (some 0)))) := fun X c' h1 h2 => stN rfl h1 h2
  have stcs := fun (X : St) => stE X cs hs22 hsc
  have ldcs := ldN (e := 50) (m := some 0) hs22
  have stR : ∀ (X : St) (rc : List Value), rc.length = 6 → rc.all cell1 = true → storeC X (some 6) (some (.cells [.int .i64 0, .slice none 0 0, .int .u32 0, .slice none 0 0, .slice none 0 0, .slice none 0 0] 40 (some 0))) (A.next + 3) 0 (.agg rc.toArray) = some (X.upd (A.next + 3) (some (.cells rc 40 (some 0)))) := fun X rc h1 h2 => stN rfl h1 h2
  have stErr := fun (X : St) (e : Int) => stR X (errC e) rfl rfl
  unfold errC at stErr
  have hwr := fun (X : St) (e : Int) => rwrong_ok w0 X e
  unfold errC at hwr
  have hSB := hS.ge (gB B (Over.refl _))
  refine call_E Try.enters29 Try.func29 rfl (Nat.le_of_ble_eq_true rfl) fun hw hbd => ?_
  by_cases hbad : r.client < 0 ∨ 3 ≤ r.client ∨ r.seq = 0
  · have hd : applyS S r = (S, errR 170) := if_pos hbad
    rcases hbad with h | h | h
    · simp (maxSteps := 1000000) (disch := (first | omega | (simp only [nx_alloc, nx_upd, len_cons, len_nil, List.length_set, List.length_map, List.length_append] <;> omega) | fail)) only [Nat.reduceAdd, Nat.reduceSub, Nat.reduceMul, Nat.reduceLT, Nat.reduceLeDiff, Nat.reduceEqDiff, ↓reduceIte, reduceCtorEq, Int.reduceAdd, Int.reduceSub, Int.reduceMul, Int.reduceLT, Int.reduceLE, Int.reduceEq, Int.reduceNe, Int.reduceToNat, Int.reduceNeg, go_sem, Try.ntmps29, Try.results29]
      rw [← hB]
      refine aw_draw2 [⟨false, [], [0]⟩, ⟨false, [], [0]⟩, ⟨true, [0, 1], [0]⟩, ⟨true, [0, 1, 2], [1]⟩] [B, B.upd (A.next + 2) (some (.cells cs 50 (some 0))), (B.upd (A.next + 2) (some (.cells cs 50 (some 0)))).upd (A.next + 3) (some (.cells (errC 170) 40 (some 0)))] 2 (by kernel_rfl) (by kernel_rfl) rfl ?_
      unfold errC
      simp (maxSteps := 1000000) (disch := (first | omega | (simp only [nx_alloc, nx_upd, len_cons, len_nil, List.length_set, List.length_map, List.length_append] <;> omega) | fail)) only [Nat.reduceAdd, Nat.reduceSub, Nat.reduceMul, Nat.reduceLT, Nat.reduceLeDiff, Nat.reduceEqDiff, ↓reduceIte, reduceCtorEq, Int.reduceAdd, Int.reduceSub, Int.reduceMul, Int.reduceLT, Int.reduceLE, Int.reduceEq, Int.reduceNe, Int.reduceToNat, Int.reduceNeg, go_sem, b0, b2, b3, htk, ldcs, stcs]
      refine ⟨_, hwr B 170, ?_⟩
      simp (maxSteps := 1000000) (disch := (first | omega | (simp only [nx_alloc, nx_upd, len_cons, len_nil, List.length_set, List.length_map, List.length_append] <;> omega) | fail)) only [Nat.reduceAdd, Nat.reduceSub, Nat.reduceMul, Nat.reduceLT, Nat.reduceLeDiff, Nat.reduceEqDiff, ↓reduceIte, reduceCtorEq, Int.reduceAdd, Int.reduceSub, Int.reduceMul, Int.reduceLT, Int.reduceLE, Int.reduceEq, Int.reduceNe, Int.reduceToNat, Int.reduceNeg, go_sem, b2, b3, htk, stcs, stErr, Try.results29]
      exact fin1 B cs (errC 170) oB (by rw [hd]; exact hSB) (by rw [hd]; exact errC_rep _ _) (by omega)
    · have h1 : ¬ r.client < 0 := by omega
      have h2 : r.client ≥ 3 := h
      simp (maxSteps := 1000000) (disch := (first | omega | (simp only [nx_alloc, nx_upd, len_cons, len_nil, List.length_set, List.length_map, List.length_append] <;> omega) | fail)) only [Nat.reduceAdd, Nat.reduceSub, Nat.reduceMul, Nat.reduceLT, Nat.reduceLeDiff, Nat.reduceEqDiff, ↓reduceIte, reduceCtorEq, Int.reduceAdd, Int.reduceSub, Int.reduceMul, Int.reduceLT, Int.reduceLE, Int.reduceEq, Int.reduceNe, Int.reduceToNat, Int.reduceNeg, go_sem, Try.ntmps29, Try.results29]
      rw [← hB]
      refine aw_draw2 [⟨false, [], [0]⟩, ⟨false, [], [0]⟩, ⟨true, [0, 1], [0]⟩, ⟨true, [0, 1, 2], [1]⟩] [B, B.upd (A.next + 2) (some (.cells cs 50 (some 0))), (B.upd (A.next + 2) (some (.cells cs 50 (some 0)))).upd (A.next + 3) (some (.cells (errC 170) 40 (some 0)))] 2 (by kernel_rfl) (by kernel_rfl) rfl ?_
      unfold errC
      simp (maxSteps := 1000000) (disch := (first | omega | (simp only [nx_alloc, nx_upd, len_cons, len_nil, List.length_set, List.length_map, List.length_append] <;> omega) | fail)) only [Nat.reduceAdd, Nat.reduceSub, Nat.reduceMul, Nat.reduceLT, Nat.reduceLeDiff, Nat.reduceEqDiff, ↓reduceIte, reduceCtorEq, Int.reduceAdd, Int.reduceSub, Int.reduceMul, Int.reduceLT, Int.reduceLE, Int.reduceEq, Int.reduceNe, Int.reduceToNat, Int.reduceNeg, go_sem, b0, b2, b3, htk, ldcs, stcs]
      refine ⟨_, hwr B 170, ?_⟩
      simp (maxSteps := 1000000) (disch := (first | omega | (simp only [nx_alloc, nx_upd, len_cons, len_nil, List.length_set, List.length_map, List.length_append] <;> omega) | fail)) only [Nat.reduceAdd, Nat.reduceSub, Nat.reduceMul, Nat.reduceLT, Nat.reduceLeDiff, Nat.reduceEqDiff, ↓reduceIte, reduceCtorEq, Int.reduceAdd, Int.reduceSub, Int.reduceMul, Int.reduceLT, Int.reduceLE, Int.reduceEq, Int.reduceNe, Int.reduceToNat, Int.reduceNeg, go_sem, b2, b3, htk, stcs, stErr, Try.results29]
      exact fin1 B cs (errC 170) oB (by rw [hd]; exact hSB) (by rw [hd]; exact errC_rep _ _) (by omega)
    · by_cases h1 : r.client < 0
      · simp (maxSteps := 1000000) (disch := (first | omega | (simp only [nx_alloc, nx_upd, len_cons, len_nil, List.length_set, List.length_map, List.length_append] <;> omega) | fail)) only [Nat.reduceAdd, Nat.reduceSub, Nat.reduceMul, Nat.reduceLT, Nat.reduceLeDiff, Nat.reduceEqDiff, ↓reduceIte, reduceCtorEq, Int.reduceAdd, Int.reduceSub, Int.reduceMul, Int.reduceLT, Int.reduceLE, Int.reduceEq, Int.reduceNe, Int.reduceToNat, Int.reduceNeg, go_sem, Try.ntmps29, Try.results29]
        rw [← hB]
        refine aw_draw2 [⟨false, [], [0]⟩, ⟨false, [], [0]⟩, ⟨true, [0, 1], [0]⟩, ⟨true, [0, 1, 2], [1]⟩] [B, B.upd (A.next + 2) (some (.cells cs 50 (some 0))), (B.upd (A.next + 2) (some (.cells cs 50 (some 0)))).upd (A.next + 3) (some (.cells (errC 170) 40 (some 0)))] 2 (by kernel_rfl) (by kernel_rfl) rfl ?_
        unfold errC
        simp (maxSteps := 1000000) (disch := (first | omega | (simp only [nx_alloc, nx_upd, len_cons, len_nil, List.length_set, List.length_map, List.length_append] <;> omega) | fail)) only [Nat.reduceAdd, Nat.reduceSub, Nat.reduceMul, Nat.reduceLT, Nat.reduceLeDiff, Nat.reduceEqDiff, ↓reduceIte, reduceCtorEq, Int.reduceAdd, Int.reduceSub, Int.reduceMul, Int.reduceLT, Int.reduceLE, Int.reduceEq, Int.reduceNe, Int.reduceToNat, Int.reduceNeg, go_sem, b0, b2, b3, htk, ldcs, stcs]
        refine ⟨_, hwr B 170, ?_⟩
        simp (maxSteps := 1000000) (disch := (first | omega | (simp only [nx_alloc, nx_upd, len_cons, len_nil, List.length_set, List.length_map, List.length_append] <;> omega) | fail)) only [Nat.reduceAdd, Nat.reduceSub, Nat.reduceMul, Nat.reduceLT, Nat.reduceLeDiff, Nat.reduceEqDiff, ↓reduceIte, reduceCtorEq, Int.reduceAdd, Int.reduceSub, Int.reduceMul, Int.reduceLT, Int.reduceLE, Int.reduceEq, Int.reduceNe, Int.reduceToNat, Int.reduceNeg, go_sem, b2, b3, htk, stcs, stErr, Try.results29]
        exact fin1 B cs (errC 170) oB (by rw [hd]; exact hSB) (by rw [hd]; exact errC_rep _ _) (by omega)
      by_cases h2 : r.client ≥ 3
      · simp (maxSteps := 1000000) (disch := (first | omega | (simp only [nx_alloc, nx_upd, len_cons, len_nil, List.length_set, List.length_map, List.length_append] <;> omega) | fail)) only [Nat.reduceAdd, Nat.reduceSub, Nat.reduceMul, Nat.reduceLT, Nat.reduceLeDiff, Nat.reduceEqDiff, ↓reduceIte, reduceCtorEq, Int.reduceAdd, Int.reduceSub, Int.reduceMul, Int.reduceLT, Int.reduceLE, Int.reduceEq, Int.reduceNe, Int.reduceToNat, Int.reduceNeg, go_sem, Try.ntmps29, Try.results29]
        rw [← hB]
        refine aw_draw2 [⟨false, [], [0]⟩, ⟨false, [], [0]⟩, ⟨true, [0, 1], [0]⟩, ⟨true, [0, 1, 2], [1]⟩] [B, B.upd (A.next + 2) (some (.cells cs 50 (some 0))), (B.upd (A.next + 2) (some (.cells cs 50 (some 0)))).upd (A.next + 3) (some (.cells (errC 170) 40 (some 0)))] 2 (by kernel_rfl) (by kernel_rfl) rfl ?_
        unfold errC
        simp (maxSteps := 1000000) (disch := (first | omega | (simp only [nx_alloc, nx_upd, len_cons, len_nil, List.length_set, List.length_map, List.length_append] <;> omega) | fail)) only [Nat.reduceAdd, Nat.reduceSub, Nat.reduceMul, Nat.reduceLT, Nat.reduceLeDiff, Nat.reduceEqDiff, ↓reduceIte, reduceCtorEq, Int.reduceAdd, Int.reduceSub, Int.reduceMul, Int.reduceLT, Int.reduceLE, Int.reduceEq, Int.reduceNe, Int.reduceToNat, Int.reduceNeg, go_sem, b0, b2, b3, htk, ldcs, stcs]
        refine ⟨_, hwr B 170, ?_⟩
        simp (maxSteps := 1000000) (disch := (first | omega | (simp only [nx_alloc, nx_upd, len_cons, len_nil, List.length_set, List.length_map, List.length_append] <;> omega) | fail)) only [Nat.reduceAdd, Nat.reduceSub, Nat.reduceMul, Nat.reduceLT, Nat.reduceLeDiff, Nat.reduceEqDiff, ↓reduceIte, reduceCtorEq, Int.reduceAdd, Int.reduceSub, Int.reduceMul, Int.reduceLT, Int.reduceLE, Int.reduceEq, Int.reduceNe, Int.reduceToNat, Int.reduceNeg, go_sem, b2, b3, htk, stcs, stErr, Try.results29]
        exact fin1 B cs (errC 170) oB (by rw [hd]; exact hSB) (by rw [hd]; exact errC_rep _ _) (by omega)
      have hB' := hB
      rw [h] at hB'
      simp (maxSteps := 1000000) (disch := (first | omega | (simp only [nx_alloc, nx_upd, len_cons, len_nil, List.length_set, List.length_map, List.length_append] <;> omega) | fail)) only [Nat.reduceAdd, Nat.reduceSub, Nat.reduceMul, Nat.reduceLT, Nat.reduceLeDiff, Nat.reduceEqDiff, ↓reduceIte, reduceCtorEq, Int.reduceAdd, Int.reduceSub, Int.reduceMul, Int.reduceLT, Int.reduceLE, Int.reduceEq, Int.reduceNe, Int.reduceToNat, Int.reduceNeg, go_sem, h, Try.ntmps29, Try.results29]
      rw [← hB']
      refine aw_draw2 [⟨false, [], [0]⟩, ⟨false, [], [0]⟩, ⟨true, [0, 1], [0]⟩, ⟨true, [0, 1, 2], [1]⟩] [B, B.upd (A.next + 2) (some (.cells cs 50 (some 0))), (B.upd (A.next + 2) (some (.cells cs 50 (some 0)))).upd (A.next + 3) (some (.cells (errC 170) 40 (some 0)))] 2 (by kernel_rfl) (by kernel_rfl) rfl ?_
      unfold errC
      simp (maxSteps := 1000000) (disch := (first | omega | (simp only [nx_alloc, nx_upd, len_cons, len_nil, List.length_set, List.length_map, List.length_append] <;> omega) | fail)) only [Nat.reduceAdd, Nat.reduceSub, Nat.reduceMul, Nat.reduceLT, Nat.reduceLeDiff, Nat.reduceEqDiff, ↓reduceIte, reduceCtorEq, Int.reduceAdd, Int.reduceSub, Int.reduceMul, Int.reduceLT, Int.reduceLE, Int.reduceEq, Int.reduceNe, Int.reduceToNat, Int.reduceNeg, go_sem, b0, b2, b3, htk, ldcs, stcs]
      refine ⟨_, hwr B 170, ?_⟩
      simp (maxSteps := 1000000) (disch := (first | omega | (simp only [nx_alloc, nx_upd, len_cons, len_nil, List.length_set, List.length_map, List.length_append] <;> omega) | fail)) only [Nat.reduceAdd, Nat.reduceSub, Nat.reduceMul, Nat.reduceLT, Nat.reduceLeDiff, Nat.reduceEqDiff, ↓reduceIte, reduceCtorEq, Int.reduceAdd, Int.reduceSub, Int.reduceMul, Int.reduceLT, Int.reduceLE, Int.reduceEq, Int.reduceNe, Int.reduceToNat, Int.reduceNeg, go_sem, b2, b3, htk, stcs, stErr, Try.results29]
      exact fin1 B cs (errC 170) oB (by rw [hd]; exact hSB) (by rw [hd]; exact errC_rep _ _) (by omega)
  have h1 : ¬ r.client < 0 := fun h => hbad (.inl h)
  have h2 : ¬ r.client ≥ 3 := fun h => hbad (.inr (.inl h))
  have h3 : ¬ r.seq = 0 := fun h => hbad (.inr (.inr h))
  obtain ⟨c, hc⟩ := Int.eq_ofNat_of_zero_le (show 0 ≤ r.client by omega)
  have hc3 : c < 3 := by omega
  obtain ⟨q, R, rc, e1, e2, e3, e4, e5⟩ := hSB.at hc3
  have hap : applyS S r = if r.seq = q then (S, R) else if r.seq < q then (S, errR 171) else (⟨(doL S.vers r.op).1, S.seqs.set c r.seq, S.last.set c (doL S.vers r.op).2⟩, (doL S.vers r.op).2) := by
    unfold applyS
    rw [if_neg hbad, hc, Int.toNat_natCast, List.getD_eq_getElem?_getD, e1, List.getD_eq_getElem?_getD, e2]; rfl
  simp (maxSteps := 1000000) (disch := (first | omega | (simp only [nx_alloc, nx_upd, len_cons, len_nil, List.length_set, List.length_map, List.length_append] <;> omega) | fail)) only [Nat.reduceAdd, Nat.reduceSub, Nat.reduceMul, Nat.reduceLT, Nat.reduceLeDiff, Nat.reduceEqDiff, ↓reduceIte, reduceCtorEq, Int.reduceAdd, Int.reduceSub, Int.reduceMul, Int.reduceLT, Int.reduceLE, Int.reduceEq, Int.reduceNe, Int.reduceToNat, Int.reduceNeg, go_sem, Try.ntmps29, Try.results29]
  rw [← hB]
  refine aw_draw2 [⟨false, [], [0]⟩, ⟨false, [0], [0]⟩, ⟨false, [], [0]⟩, ⟨false, [], [0]⟩, ⟨false, [2, 3], [0]⟩, ⟨false, [2, 3, 4], [0]⟩, ⟨false, [0, 1, 2, 3, 4, 5], [0]⟩] [B] 0 (by kernel_rfl) (by kernel_rfl) rfl ?_
  simp (maxSteps := 1000000) (disch := (first | omega | (simp only [nx_alloc, nx_upd, len_cons, len_nil, List.length_set, List.length_map, List.length_append] <;> omega) | fail)) only [Nat.reduceAdd, Nat.reduceSub, Nat.reduceMul, Nat.reduceLT, Nat.reduceLeDiff, Nat.reduceEqDiff, ↓reduceIte, reduceCtorEq, Int.reduceAdd, Int.reduceSub, Int.reduceMul, Int.reduceLT, Int.reduceLE, Int.reduceEq, Int.reduceNe, Int.reduceToNat, Int.reduceNeg, go_sem, b0, b1, hc, e3]
  by_cases hsq : r.seq = q
  · rw [if_pos hsq] at hap
    have hst := fun (X : St) => stR X rc e5.len e5.cell
    simp (maxSteps := 1000000) (disch := (first | omega | (simp only [nx_alloc, nx_upd, len_cons, len_nil, List.length_set, List.length_map, List.length_append] <;> omega) | fail)) only [Nat.reduceAdd, Nat.reduceSub, Nat.reduceMul, Nat.reduceLT, Nat.reduceLeDiff, Nat.reduceEqDiff, ↓reduceIte, reduceCtorEq, Int.reduceAdd, Int.reduceSub, Int.reduceMul, Int.reduceLT, Int.reduceLE, Int.reduceEq, Int.reduceNe, Int.reduceToNat, Int.reduceNeg, go_sem, hsq]
    refine aw_draw2 [⟨false, [], [0]⟩, ⟨false, [], [0, 1]⟩, ⟨false, [], [0, 1]⟩, ⟨false, [1, 2], [0, 1]⟩, ⟨false, [1, 2, 3], [0, 1]⟩, ⟨true, [0], [0]⟩, ⟨true, [0, 1, 2, 3, 4, 5], [1]⟩] [B, B.upd (A.next + 2) (some (.cells cs 50 (some 0))), (B.upd (A.next + 2) (some (.cells cs 50 (some 0)))).upd (A.next + 3) (some (.cells rc 40 (some 0)))] 2 (by kernel_rfl) (by kernel_rfl) rfl ?_
    have ldrc := ldN (e := 40) (m := some 0) e5.len
    simp (maxSteps := 1000000) (disch := (first | omega | (simp only [nx_alloc, nx_upd, len_cons, len_nil, List.length_set, List.length_map, List.length_append] <;> omega) | fail)) only [Nat.reduceAdd, Nat.reduceSub, Nat.reduceMul, Nat.reduceLT, Nat.reduceLeDiff, Nat.reduceEqDiff, ↓reduceIte, reduceCtorEq, Int.reduceAdd, Int.reduceSub, Int.reduceMul, Int.reduceLT, Int.reduceLE, Int.reduceEq, Int.reduceNe, Int.reduceToNat, Int.reduceNeg, go_sem, b0, b2, b3, htk, ldcs, stcs, e4, hst, hc, ldrc, Try.results29]
    exact fin1 B cs rc oB (by rw [hap]; exact hSB) (by rw [hap]; exact e5) (by omega)
  rw [if_neg hsq] at hap
  simp (maxSteps := 1000000) (disch := (first | omega | (simp only [nx_alloc, nx_upd, len_cons, len_nil, List.length_set, List.length_map, List.length_append] <;> omega) | fail)) only [Nat.reduceAdd, Nat.reduceSub, Nat.reduceMul, Nat.reduceLT, Nat.reduceLeDiff, Nat.reduceEqDiff, ↓reduceIte, reduceCtorEq, Int.reduceAdd, Int.reduceSub, Int.reduceMul, Int.reduceLT, Int.reduceLE, Int.reduceEq, Int.reduceNe, Int.reduceToNat, Int.reduceNeg, go_sem, hsq]
  refine aw_draw2 [⟨false, [], [0]⟩, ⟨false, [0], [0]⟩, ⟨false, [], [0]⟩, ⟨false, [], [0]⟩, ⟨false, [2, 3], [0]⟩, ⟨false, [2, 3, 4], [0]⟩, ⟨false, [0, 1, 2, 3, 4, 5], [0]⟩] [B] 0 (by kernel_rfl) (by kernel_rfl) rfl ?_
  simp (maxSteps := 1000000) (disch := (first | omega | (simp only [nx_alloc, nx_upd, len_cons, len_nil, List.length_set, List.length_map, List.length_append] <;> omega) | fail)) only [Nat.reduceAdd, Nat.reduceSub, Nat.reduceMul, Nat.reduceLT, Nat.reduceLeDiff, Nat.reduceEqDiff, ↓reduceIte, reduceCtorEq, Int.reduceAdd, Int.reduceSub, Int.reduceMul, Int.reduceLT, Int.reduceLE, Int.reduceEq, Int.reduceNe, Int.reduceToNat, Int.reduceNeg, go_sem, b0, b1, hc, e3]
  by_cases hlt : r.seq < q
  · rw [if_pos hlt] at hap
    have hd := hap
    simp (maxSteps := 1000000) (disch := (first | omega | (simp only [nx_alloc, nx_upd, len_cons, len_nil, List.length_set, List.length_map, List.length_append] <;> omega) | fail)) only [Nat.reduceAdd, Nat.reduceSub, Nat.reduceMul, Nat.reduceLT, Nat.reduceLeDiff, Nat.reduceEqDiff, ↓reduceIte, reduceCtorEq, Int.reduceAdd, Int.reduceSub, Int.reduceMul, Int.reduceLT, Int.reduceLE, Int.reduceEq, Int.reduceNe, Int.reduceToNat, Int.reduceNeg, go_sem, hlt]
    refine aw_draw2 [⟨false, [], [0]⟩, ⟨false, [], [0]⟩, ⟨true, [0, 1], [0]⟩, ⟨true, [0, 1, 2], [1]⟩] [B, B.upd (A.next + 2) (some (.cells cs 50 (some 0))), (B.upd (A.next + 2) (some (.cells cs 50 (some 0)))).upd (A.next + 3) (some (.cells (errC 171) 40 (some 0)))] 2 (by kernel_rfl) (by kernel_rfl) rfl ?_
    unfold errC
    simp (maxSteps := 1000000) (disch := (first | omega | (simp only [nx_alloc, nx_upd, len_cons, len_nil, List.length_set, List.length_map, List.length_append] <;> omega) | fail)) only [Nat.reduceAdd, Nat.reduceSub, Nat.reduceMul, Nat.reduceLT, Nat.reduceLeDiff, Nat.reduceEqDiff, ↓reduceIte, reduceCtorEq, Int.reduceAdd, Int.reduceSub, Int.reduceMul, Int.reduceLT, Int.reduceLE, Int.reduceEq, Int.reduceNe, Int.reduceToNat, Int.reduceNeg, go_sem, b0, b2, b3, htk, ldcs, stcs]
    refine ⟨_, hwr B 171, ?_⟩
    simp (maxSteps := 1000000) (disch := (first | omega | (simp only [nx_alloc, nx_upd, len_cons, len_nil, List.length_set, List.length_map, List.length_append] <;> omega) | fail)) only [Nat.reduceAdd, Nat.reduceSub, Nat.reduceMul, Nat.reduceLT, Nat.reduceLeDiff, Nat.reduceEqDiff, ↓reduceIte, reduceCtorEq, Int.reduceAdd, Int.reduceSub, Int.reduceMul, Int.reduceLT, Int.reduceLE, Int.reduceEq, Int.reduceNe, Int.reduceToNat, Int.reduceNeg, go_sem, b2, b3, htk, stcs, stErr, Try.results29]
    exact fin1 B cs (errC 171) oB (by rw [hd]; exact hSB) (by rw [hd]; exact errC_rep _ _) (by omega)
  rw [if_neg hlt] at hap
  obtain ⟨v, tl, rfl, g1, htl21, htlc, _⟩ := hSB.parts
  have hL2 : ∀ b ∈ (A.next + 3) :: (A.next + 2) :: L, b < B.next := fun b hb => by
    simp only [List.mem_cons] at hb
    rcases hb with rfl | rfl | hb
    · omega
    · omega
    · have := hL b hb; omega
  have hdo := rdo_ok w0 B _ hL2 S.vers v tl r.op oc g1 (ho.ge (gB B (Over.refl _))) hl htl21 htlc ⟨k3, k4⟩ k5
  have htk21 : tl.take 21 = tl := List.take_of_length_le (by omega)
  simp (maxSteps := 1000000) (disch := (first | omega | (simp only [nx_alloc, nx_upd, len_cons, len_nil, List.length_set, List.length_map, List.length_append] <;> omega) | fail)) only [Nat.reduceAdd, Nat.reduceSub, Nat.reduceMul, Nat.reduceLT, Nat.reduceLeDiff, Nat.reduceEqDiff, ↓reduceIte, reduceCtorEq, Int.reduceAdd, Int.reduceSub, Int.reduceMul, Int.reduceLT, Int.reduceLE, Int.reduceEq, Int.reduceNe, Int.reduceToNat, Int.reduceNeg, go_sem, hlt, b0, b1, htk, hotk, htk21]
  refine hdo.mono ?_
  rintro _ B2 ⟨v', rc', rfl, o2, hv2, hr2⟩
  have n2 := o2.next
  have hv2' : one1 v' = true := by obtain ⟨ad, n, rfl⟩ := hv2.sl; rfl
  have hD22 : (v' :: tl).length = 22 := by rw [List.length_cons, htl21]
  have hDc : (v' :: tl).all cell1 = true := by rw [List.all_cons, cellOf1 hv2', htlc]; rfl
  have r6 := hr2.len
  have rcell := hr2.cell
  obtain ⟨C1, C, st7, gC1, st8, oC, nC, c7, c8⟩ := two_stR B2 ⟨hD22, hDc⟩ r6 rcell
  have d1 : C.get (A.next + 1) = _ := ((o2.trans oC).get _ (by omega)).trans b1
  have d2 : C.get (A.next + 2) = _ := ((o2.trans oC).get _ (by omega)).trans b2
  have d3 : C.get (A.next + 3) = _ := ((o2.trans oC).get _ (by omega)).trans b3
  have hfin := fun (A' : St) (g : Ge (B.hide ((A.next + 3) :: (A.next + 2) :: L)) A') (g' : Ge (B2.hide ((A.next + 3) :: (A.next + 2) :: L)) A') => StC.set hSB g (hv2.ge g') hc3 r.seq (hr2.ge g')
  generalize hDD : v' :: tl = D at *
  have hD1l : (D.set (1 + c) (.int .u32 r.seq)).length = 22 := by rw [List.length_set]; exact hD22
  have hD2l : (setList (D.set (1 + c) (.int .u32 r.seq)) (4 + c * 6) rc').length = 22 := by rw [setList_length]; exact hD1l
  have hldr := ldN (n := 6) (e := 40) (m := some 0) r6
  have hrtk : rc'.take 6 = rc' := List.take_of_length_le (by omega)
  have hne8 : B2.next + 1 ≠ B2.next := by omega
  simp (maxSteps := 1000000) (disch := (first | omega | (simp only [nx_alloc, nx_upd, len_cons, len_nil, List.length_set, List.length_map, List.length_append] <;> omega) | fail)) only [Nat.reduceAdd, Nat.reduceSub, Nat.reduceMul, Nat.reduceLT, Nat.reduceLeDiff, Nat.reduceEqDiff, ↓reduceIte, reduceCtorEq, Int.reduceAdd, Int.reduceSub, Int.reduceMul, Int.reduceLT, Int.reduceLE, Int.reduceEq, Int.reduceNe, Int.reduceToNat, Int.reduceNeg, go_sem, st7, gC1, st8, d1, hc, c7, c8, hD22, hldr, hrtk, rcell]
  obtain ⟨D2, hD2⟩ : ∃ D2, D2 = setList (D.set (1 + c) (.int .u32 r.seq)) (4 + c * 6) rc' := ⟨_, rfl⟩
  rw [← hD2] at hD2l
  obtain ⟨C2, hC2⟩ : ∃ C2, C2 = (C.upd B2.next (some (.cells (D.set (1 + c) (.int .u32 r.seq)) 50 (some 0)))).upd B2.next (some (.cells (setList (D.set (1 + c) (.int .u32 r.seq)) (4 + c * 6) rc') 50 (some 0))) := ⟨_, rfl⟩
  rw [← hC2]
  rw [← hD2] at hC2
  have o22 : Over B2 C2 := hC2 ▸ (oC.upd (Nat.le_refl _) _).upd (Nat.le_refl _) _
  have nC2 : C2.next = B2.next + 2 := by rw [hC2]; exact nC
  have f7 : C2.get B2.next = some (.cells D2 50 (some 0)) := by rw [hC2, get_upd_same]
  have f8 : C2.get (B2.next + 1) = some (.cells rc' 40 (some 0)) := by rw [hC2, St.get_upd, if_neg (by omega), St.get_upd, if_neg (by omega)]; exact c8
  have f2 : C2.get (A.next + 2) = _ := ((o2.trans o22).get _ (by omega)).trans b2
  have f3 : C2.get (A.next + 3) = _ := ((o2.trans o22).get _ (by omega)).trans b3
  have hF := hfin (C2.hide ((A.next + 3) :: (A.next + 2) :: L)) (hide_over (o2.trans o22) _) (hide_over o22 _)
  rw [← hD2] at hF
  have hD2c := hF.len.2
  have htk2 : D2.take 22 = D2 := List.take_of_length_le (by omega)
  have stD := fun (X : St) => stE X D2 hD2l hD2c
  have ldD := ldN (n := 22) (e := 50) (m := some 0) hD2l
  have stF := fun (X : St) => stR X rc' r6 rcell
  clear hC2
  refine aw_draw2 [⟨false, [], [0]⟩, ⟨false, [], [0, 1]⟩, ⟨true, [0], [0]⟩, ⟨true, [0, 1, 2], [1]⟩] [C2, C2.upd (A.next + 2) (some (.cells D2 50 (some 0))), (C2.upd (A.next + 2) (some (.cells D2 50 (some 0)))).upd (A.next + 3) (some (.cells rc' 40 (some 0)))] 2 (by kernel_rfl) (by kernel_rfl) rfl ?_
  simp (maxSteps := 1000000) (disch := (first | omega | (simp only [nx_alloc, nx_upd, len_cons, len_nil, List.length_set, List.length_map, List.length_append] <;> omega) | fail)) only [Nat.reduceAdd, Nat.reduceSub, Nat.reduceMul, Nat.reduceLT, Nat.reduceLeDiff, Nat.reduceEqDiff, ↓reduceIte, reduceCtorEq, Int.reduceAdd, Int.reduceSub, Int.reduceMul, Int.reduceLT, Int.reduceLE, Int.reduceEq, Int.reduceNe, Int.reduceToNat, Int.reduceNeg, go_sem, f2, f3, f7, f8, htk2, hrtk, ldD, hldr, stD, stF, Try.results29]
  refine fin1 C2 D2 rc' (oB.trans (o2.trans o22)) ?_ ?_ (by omega)
  · rw [hap]; exact hF
  · rw [hap]; exact hr2.ge (hide_over o22 _)
end Go.Fw
