import Derived.Test.YtphfkbagjpcmpaaFwVault7
set_option linter.unusedSimpArgs false
set_option linter.unusedVariables false
namespace Go.Fw
open Go.Proofs Go.RowKit
theorem Try.enters20 : Enters Try.prog 20 := enters_of Try.func20 rfl (by kernel_rfl)
theorem Try.enters10 : Enters Try.prog 10 := enters_of Try.func10 rfl (by kernel_rfl)
theorem Try.enters15 : Enters Try.prog 15 := enters_of Try.func15 rfl (by kernel_rfl)
theorem Try.enters14 : Enters Try.prog 14 := enters_of Try.func14 rfl (by kernel_rfl)
def hvV (V : VerT) : Bool := decide (40 < V.blocks.length) || decide (40 < V.names.length) || decide (40 < V.sizes.length) || V.names.any fun n => decide (100 < n.size)
theorem hvV_small {V : VerT} (h : hvV V = false) : V.small := by
  unfold hvV at h
  simp only [Bool.or_eq_false_iff, decide_eq_false_iff_not] at h
  exact ⟨by omega, by omega, by omega⟩
set_option maxHeartbeats 4000000 in
theorem much_ok (w0 : World) (A : St) (V : VerT) (v : Value) (hv : VerV A V v) : ACalls Try.prog w0 20 #[v] A (fin (.bool (hvV V)) A) := by
  obtain ⟨b, n, s, rfl, vb, vn, vs⟩ := hv
  obtain ⟨ab, cb, rfl⟩ := View.sl0 vb
  obtain ⟨an, cn, rfl⟩ := View.sl0 vn
  obtain ⟨az, cs, rfl⟩ := View.sl0 vs
  obtain ⟨id, B, N, S⟩ := V
  simp only at vb vn vs ⊢
  refine call_E Try.enters20 Try.func20 rfl (Nat.le_of_ble_eq_true rfl) fun hw hbd => ?_
  obtain ⟨A1, hA1⟩ : ∃ A1, A1 = A.alloc (.cells [.int .u32 id, .slice ab B.length cb, .slice an N.length cn, .slice az S.length cs] 28 (some 0)) := ⟨_, rfl⟩
  have ov1 : Over A A1 := hA1 ▸ (Over.refl A).alloc _
  have hbx : A1.get A.next = some (.cells [.int .u32 id, .slice ab B.length cb, .slice an N.length cn, .slice az S.length cs] 28 (some 0)) := by rw [hA1]; exact get_alloc_same ..
  have vn1 : StView A1 N _ := View.over vn ov1
  by_cases a1 : 40 < B.length
  · have a1' : (B.length : Int) > 40 := by omega
    simp (maxSteps := 1000000) (disch := (first | omega | (simp only [nx_alloc, nx_upd, len_cons, len_nil, List.length_set, List.length_map, List.length_append] <;> omega) | fail)) only [Nat.reduceAdd, Nat.reduceSub, Nat.reduceMul, Nat.reduceLT, Nat.reduceLeDiff, Nat.reduceEqDiff, ↓reduceIte, reduceCtorEq, Int.reduceAdd, Int.reduceSub, Int.reduceMul, Int.reduceLT, Int.reduceLE, Int.reduceEq, Int.reduceNe, Int.reduceToNat, Int.reduceNeg, go_sem, Try.ntmps20, Try.results20]
    rw [← hA1]
    exact gc_fin' hw ov1 (by simp [hvV, a1]) (.bool _)
  have a1' : ¬ (B.length : Int) > 40 := by omega
  by_cases a2 : 40 < N.length
  · have a2' : (N.length : Int) > 40 := by omega
    simp (maxSteps := 1000000) (disch := (first | omega | (simp only [nx_alloc, nx_upd, len_cons, len_nil, List.length_set, List.length_map, List.length_append] <;> omega) | fail)) only [Nat.reduceAdd, Nat.reduceSub, Nat.reduceMul, Nat.reduceLT, Nat.reduceLeDiff, Nat.reduceEqDiff, ↓reduceIte, reduceCtorEq, Int.reduceAdd, Int.reduceSub, Int.reduceMul, Int.reduceLT, Int.reduceLE, Int.reduceEq, Int.reduceNe, Int.reduceToNat, Int.reduceNeg, go_sem, Try.ntmps20, Try.results20]
    rw [← hA1]
    exact gc_fin' hw ov1 (by simp [hvV, a2]) (.bool _)
  have a2' : ¬ (N.length : Int) > 40 := by omega
  by_cases a3 : 40 < S.length
  · have a3' : (S.length : Int) > 40 := by omega
    simp (maxSteps := 1000000) (disch := (first | omega | (simp only [nx_alloc, nx_upd, len_cons, len_nil, List.length_set, List.length_map, List.length_append] <;> omega) | fail)) only [Nat.reduceAdd, Nat.reduceSub, Nat.reduceMul, Nat.reduceLT, Nat.reduceLeDiff, Nat.reduceEqDiff, ↓reduceIte, reduceCtorEq, Int.reduceAdd, Int.reduceSub, Int.reduceMul, Int.reduceLT, Int.reduceLE, Int.reduceEq, Int.reduceNe, Int.reduceToNat, Int.reduceNeg, go_sem, Try.ntmps20, Try.results20]
    rw [← hA1]
    exact gc_fin' hw ov1 (by simp [hvV, a3]) (.bool _)
  have a3' : ¬ (S.length : Int) > 40 := by omega
  have hhv : hvV ⟨id, B, N, S⟩ = N.any fun n => decide (100 < n.size) := by simp [hvV, a1, a2, a3]
  rw [hhv]
  simp (maxSteps := 1000000) (disch := (first | omega | (simp only [nx_alloc, nx_upd, len_cons, len_nil, List.length_set, List.length_map, List.length_append] <;> omega) | fail)) only [Nat.reduceAdd, Nat.reduceSub, Nat.reduceMul, Nat.reduceLT, Nat.reduceLeDiff, Nat.reduceEqDiff, ↓reduceIte, reduceCtorEq, Int.reduceAdd, Int.reduceSub, Int.reduceMul, Int.reduceLT, Int.reduceLE, Int.reduceEq, Int.reduceNe, Int.reduceToNat, Int.reduceNeg, go_sem, Try.ntmps20, Try.results20]
  rw [← hA1]
  refine aw_loop (fun k x A' => ∃ (ρ : Nat → Value) (i : Nat), x = E 34 ρ [] ∧ A' = A1 ∧ k = N.length - i ∧ i ≤ N.length ∧ ((N.take i).any fun n => decide (100 < n.size)) = false ∧ ρ 1 = .pointer (some ⟨A.next, 0, none⟩) ∧ ρ 3 = .int .i64 i) N.length
    ⟨_, 0, rfl, rfl, rfl, Nat.zero_le _, rfl, rfl, rfl⟩ ?_
  rintro k x A' ⟨ρ, i, rfl, rfl, hk, hi, hno, g1, g3⟩
  refine aw_of ?_
  by_cases hend : i = N.length
  · have e1 : ¬ ((i : Int) < N.length) := by omega
    rw [hend, List.take_length] at hno
    simp (maxSteps := 1000000) (disch := (first | omega | (simp only [nx_alloc, nx_upd, len_cons, len_nil, List.length_set, List.length_map, List.length_append] <;> omega) | fail)) only [Nat.reduceAdd, Nat.reduceSub, Nat.reduceMul, Nat.reduceLT, Nat.reduceLeDiff, Nat.reduceEqDiff, ↓reduceIte, reduceCtorEq, Int.reduceAdd, Int.reduceSub, Int.reduceMul, Int.reduceLT, Int.reduceLE, Int.reduceEq, Int.reduceNe, Int.reduceToNat, Int.reduceNeg, go_sem, g1, g3, hbx, Try.results20]
    exact gc_fin' hw ov1 (by rw [hno]) (.bool _)
  have e1 : ((i : Int) < N.length) := by omega
  obtain ⟨nm, hx⟩ : ∃ x, N[i]? = some x := ⟨_, List.getElem?_eq_getElem (by omega)⟩
  obtain ⟨pb, po, hb1, hb2, hb3, cells, e', md, hb4, hb5⟩ := View.at1 (P := Try.prog) (e := 9) vn1 Try.sz9 (strE_at _ i nm hx)
  by_cases a4 : 100 < nm.size
  · have a4' : (nm.size : Int) > 100 := by omega
    simp (maxSteps := 1000000) (disch := (first | omega | (simp only [nx_alloc, nx_upd, len_cons, len_nil, List.length_set, List.length_map, List.length_append] <;> omega) | fail)) only [Nat.reduceAdd, Nat.reduceSub, Nat.reduceMul, Nat.reduceLT, Nat.reduceLeDiff, Nat.reduceEqDiff, ↓reduceIte, reduceCtorEq, Int.reduceAdd, Int.reduceSub, Int.reduceMul, Int.reduceLT, Int.reduceLE, Int.reduceEq, Int.reduceNe, Int.reduceToNat, Int.reduceNeg, go_sem, g1, g3, hbx, hb3, hb4, hb5, Try.results20]
    refine gc_fin' hw ov1 (congrArg Value.bool ?_) (.bool _)
    exact (List.any_eq_true.2 ⟨nm, List.mem_of_getElem? hx, by simp [a4]⟩).symm
  have a4' : ¬ (nm.size : Int) > 100 := by omega
  simp (maxSteps := 1000000) (disch := (first | omega | (simp only [nx_alloc, nx_upd, len_cons, len_nil, List.length_set, List.length_map, List.length_append] <;> omega) | fail)) only [Nat.reduceAdd, Nat.reduceSub, Nat.reduceMul, Nat.reduceLT, Nat.reduceLeDiff, Nat.reduceEqDiff, ↓reduceIte, reduceCtorEq, Int.reduceAdd, Int.reduceSub, Int.reduceMul, Int.reduceLT, Int.reduceLE, Int.reduceEq, Int.reduceNe, Int.reduceToNat, Int.reduceNeg, go_sem, g1, g3, hbx, hb3, hb4, hb5]
  refine ⟨k - 1, by omega, _, i + 1, rfl, by omega, by omega, ?_, ?_, ?_⟩
  · rw [List.take_add_one, hx, List.any_append, hno]; simp [a4]
  · simp (maxSteps := 1000000) (disch := (first | omega | (simp only [nx_alloc, nx_upd, len_cons, len_nil, List.length_set, List.length_map, List.length_append] <;> omega) | fail)) only [Nat.reduceAdd, Nat.reduceSub, Nat.reduceMul, Nat.reduceLT, Nat.reduceLeDiff, Nat.reduceEqDiff, ↓reduceIte, reduceCtorEq, Int.reduceAdd, Int.reduceSub, Int.reduceMul, Int.reduceLT, Int.reduceLE, Int.reduceEq, Int.reduceNe, Int.reduceToNat, Int.reduceNeg, go_sem, g1]
  · simp (maxSteps := 1000000) (disch := (first | omega | (simp only [nx_alloc, nx_upd, len_cons, len_nil, List.length_set, List.length_map, List.length_append] <;> omega) | fail)) only [Nat.reduceAdd, Nat.reduceSub, Nat.reduceMul, Nat.reduceLT, Nat.reduceLeDiff, Nat.reduceEqDiff, ↓reduceIte, reduceCtorEq, Int.reduceAdd, Int.reduceSub, Int.reduceMul, Int.reduceLT, Int.reduceLE, Int.reduceEq, Int.reduceNe, Int.reduceToNat, Int.reduceNeg, go_sem]
    rfl
theorem ld_sub {cells cs : List Value} {off sz : Nat} (h : (cells.drop off).take sz = cs) {j n : Nat} (hj : j + n ≤ sz) : (cells.drop (off + j)).take n = (cs.drop j).take n := by
  rw [← h, List.drop_take, List.take_take, List.drop_drop, Nat.min_eq_left (by omega)]
def hvyL (l : List ReqT) : Bool := decide (60 < l.length) || l.any fun r => hvV r.op.v
theorem hvyL_ok {l : List ReqT} (h : hvyL l = false) : l.length ≤ 60 ∧ ∀ r ∈ l, r.op.v.small := by
  unfold hvyL at h
  rw [Bool.or_eq_false_iff, decide_eq_false_iff_not] at h
  refine ⟨by omega, fun r hr => hvV_small ?_⟩
  have := List.any_eq_false.1 h.2 r hr
  simpa using this
set_option maxHeartbeats 4000000 in
theorem heavyL_ok (w0 : World) (A : St) (l : List ReqT) (v : Value) (hv : RqV A l v) : ACalls Try.prog w0 10 #[v] A (fin (.bool (hvyL l)) A) := by
  refine call_E Try.enters10 Try.func10 rfl (Nat.le_of_ble_eq_true rfl) fun hw hbd => ?_
  have hlen := NV.lenU (e := 32) hv
  by_cases h60 : 60 < l.length
  · have h60' : (l.length : Int) > 60 := by omega
    simp (maxSteps := 1000000) (disch := (first | omega | (simp only [nx_alloc, nx_upd, len_cons, len_nil, List.length_set, List.length_map, List.length_append] <;> omega) | fail)) only [Nat.reduceAdd, Nat.reduceSub, Nat.reduceMul, Nat.reduceLT, Nat.reduceLeDiff, Nat.reduceEqDiff, ↓reduceIte, reduceCtorEq, Int.reduceAdd, Int.reduceSub, Int.reduceMul, Int.reduceLT, Int.reduceLE, Int.reduceEq, Int.reduceNe, Int.reduceToNat, Int.reduceNeg, go_sem, Try.ntmps10, Try.results10, hlen]
    exact gc_fin' hw (Over.refl _) (by unfold hvyL; rw [decide_eq_true h60]; rfl) (.bool _)
  have h60' : ¬ (l.length : Int) > 60 := by omega
  have hh : hvyL l = l.any fun r => hvV r.op.v := by unfold hvyL; rw [decide_eq_false h60]; rfl
  rw [hh]
  simp (maxSteps := 1000000) (disch := (first | omega | (simp only [nx_alloc, nx_upd, len_cons, len_nil, List.length_set, List.length_map, List.length_append] <;> omega) | fail)) only [Nat.reduceAdd, Nat.reduceSub, Nat.reduceMul, Nat.reduceLT, Nat.reduceLeDiff, Nat.reduceEqDiff, ↓reduceIte, reduceCtorEq, Int.reduceAdd, Int.reduceSub, Int.reduceMul, Int.reduceLT, Int.reduceLE, Int.reduceEq, Int.reduceNe, Int.reduceToNat, Int.reduceNeg, go_sem, Try.ntmps10, Try.results10, hlen]
  refine aw_loop (fun k x A' => ∃ (ρ : Nat → Value) (i : Nat), x = E 20 ρ [] ∧ A' = A ∧ k = l.length - i ∧ i ≤ l.length ∧ ((l.take i).any fun r => hvV r.op.v) = false ∧ ρ 0 = v ∧ ρ 3 = .int .i64 i) l.length
    ⟨_, 0, rfl, rfl, rfl, Nat.zero_le _, rfl, rfl, rfl⟩ ?_
  rintro k x A' ⟨ρ, i, rfl, rfl, hk, hi, hno, g0, g3⟩
  refine aw_of ?_
  by_cases hend : i = l.length
  · have e1 : ¬ ((i : Int) < l.length) := by omega
    rw [hend, List.take_length] at hno
    simp (maxSteps := 1000000) (disch := (first | omega | (simp only [nx_alloc, nx_upd, len_cons, len_nil, List.length_set, List.length_map, List.length_append] <;> omega) | fail)) only [Nat.reduceAdd, Nat.reduceSub, Nat.reduceMul, Nat.reduceLT, Nat.reduceLeDiff, Nat.reduceEqDiff, ↓reduceIte, reduceCtorEq, Int.reduceAdd, Int.reduceSub, Int.reduceMul, Int.reduceLT, Int.reduceLE, Int.reduceEq, Int.reduceNe, Int.reduceToNat, Int.reduceNeg, go_sem, g0, g3, hlen, Try.results10]
    exact gc_fin' hw (Over.refl _) (by rw [hno]) (.bool _)
  have e1 : ((i : Int) < l.length) := by omega
  obtain ⟨r, hr⟩ : ∃ r, l[i]? = some r := ⟨l[i]'(by omega), List.getElem?_eq_getElem (by omega)⟩
  obtain ⟨b, off, qc, q1, q2, q3, q4, cells, e', m, q5, q6, q7⟩ := hv.at (P := Try.prog) (e := 32) Try.sz32 hr
  obtain ⟨oc, rfl, vs, rfl, hvs⟩ := q3
  have hvl := hvs.len
  have hld : loadC (some true) (some 4) (some (.cells cells e' m)) (off + 4) = some (.agg vs.toArray) := by
    refine ld_agg (by omega) ?_
    rw [ld_sub q7 (by decide)]
    simp only [List.drop_succ_cons, List.drop_zero]
    exact List.take_of_length_le (by omega)
  simp (maxSteps := 1000000) (disch := (first | omega | (simp only [nx_alloc, nx_upd, len_cons, len_nil, List.length_set, List.length_map, List.length_append] <;> omega) | fail)) only [Nat.reduceAdd, Nat.reduceSub, Nat.reduceMul, Nat.reduceLT, Nat.reduceLeDiff, Nat.reduceEqDiff, ↓reduceIte, reduceCtorEq, Int.reduceAdd, Int.reduceSub, Int.reduceMul, Int.reduceLT, Int.reduceLE, Int.reduceEq, Int.reduceNe, Int.reduceToNat, Int.reduceNeg, go_sem, g0, g3, hlen, q2, q5, hld]
  refine call1 (much_ok w0 A' r.op.v _ hvs.ver) ?_
  cases hm : hvV r.op.v
  · simp (maxSteps := 1000000) (disch := (first | omega | (simp only [nx_alloc, nx_upd, len_cons, len_nil, List.length_set, List.length_map, List.length_append] <;> omega) | fail)) only [Nat.reduceAdd, Nat.reduceSub, Nat.reduceMul, Nat.reduceLT, Nat.reduceLeDiff, Nat.reduceEqDiff, ↓reduceIte, reduceCtorEq, Int.reduceAdd, Int.reduceSub, Int.reduceMul, Int.reduceLT, Int.reduceLE, Int.reduceEq, Int.reduceNe, Int.reduceToNat, Int.reduceNeg, go_sem, g3]
    refine ⟨k - 1, by omega, _, i + 1, rfl, by omega, by omega, ?_, ?_, ?_⟩
    · rw [List.take_add_one, hr, List.any_append, hno]; simp [hm]
    · simp (maxSteps := 1000000) (disch := (first | omega | (simp only [nx_alloc, nx_upd, len_cons, len_nil, List.length_set, List.length_map, List.length_append] <;> omega) | fail)) only [Nat.reduceAdd, Nat.reduceSub, Nat.reduceMul, Nat.reduceLT, Nat.reduceLeDiff, Nat.reduceEqDiff, ↓reduceIte, reduceCtorEq, Int.reduceAdd, Int.reduceSub, Int.reduceMul, Int.reduceLT, Int.reduceLE, Int.reduceEq, Int.reduceNe, Int.reduceToNat, Int.reduceNeg, go_sem, g0]
    · simp (maxSteps := 1000000) (disch := (first | omega | (simp only [nx_alloc, nx_upd, len_cons, len_nil, List.length_set, List.length_map, List.length_append] <;> omega) | fail)) only [Nat.reduceAdd, Nat.reduceSub, Nat.reduceMul, Nat.reduceLT, Nat.reduceLeDiff, Nat.reduceEqDiff, ↓reduceIte, reduceCtorEq, Int.reduceAdd, Int.reduceSub, Int.reduceMul, Int.reduceLT, Int.reduceLE, Int.reduceEq, Int.reduceNe, Int.reduceToNat, Int.reduceNeg, go_sem]
      rfl
  · simp (maxSteps := 1000000) (disch := (first | omega | (simp only [nx_alloc, nx_upd, len_cons, len_nil, List.length_set, List.length_map, List.length_append] <;> omega) | fail)) only [Nat.reduceAdd, Nat.reduceSub, Nat.reduceMul, Nat.reduceLT, Nat.reduceLeDiff, Nat.reduceEqDiff, ↓reduceIte, reduceCtorEq, Int.reduceAdd, Int.reduceSub, Int.reduceMul, Int.reduceLT, Int.reduceLE, Int.reduceEq, Int.reduceNe, Int.reduceToNat, Int.reduceNeg, go_sem, Try.results10]
    refine gc_fin' hw (Over.refl _) (congrArg Value.bool ?_) (.bool _)
    exact (List.any_eq_true.2 ⟨r, List.mem_of_getElem? hr, hm⟩).symm
theorem u32E_at' (l : List Int) (i : Nat) (x : Int) (h : l[i]? = some x) : (l.flatMap u32E)[i]? = some (.int .u32 x) := by
  have := flatMap_at (encE := u32E) (sz := 1) l (fun y _ => rfl) i 0 (by decide)
  rw [Nat.mul_one, Nat.add_zero, h] at this
  exact this
/-- The same reply? -/
def sameR (R T : ReplyT) : Bool := decide (R.e = T.e) && decide (R.ids = T.ids) && eqV R.v T.v
theorem sameR_iff (R T : ReplyT) : sameR R T = true ↔ R = T := by
  obtain ⟨a, b, c⟩ := R
  obtain ⟨a', b', c'⟩ := T
  simp [sameR, eqV_iff, and_assoc]
theorem sameR_self (R : ReplyT) : sameR R R = true := (sameR_iff R R).2 rfl
set_option maxHeartbeats 4000000 in
theorem rsame17_ok (w0 : World) (A : St) (R T : ReplyT) (rc tc : List Value) (h : RepC A R rc) (h' : RepC A T tc) (s1 : R.v.small) (s2 : T.v.small) (hl : R.ids.length ≤ 1048576) :
    ACalls Try.prog w0 15 #[.agg rc.toArray, .agg tc.toArray] A (fin (.bool (sameR R T)) A) := by
  obtain ⟨wi, vs, rfl, hid, hvs⟩ := h
  obtain ⟨wi', vs', rfl, hid', hvs'⟩ := h'
  refine call_E Try.enters15 Try.func15 rfl (Nat.le_of_ble_eq_true rfl) fun hw hbd => ?_
  have hvl := hvs.len
  have hvl' := hvs'.len
  have htk : vs.take 4 = vs := List.take_of_length_le (by omega)
  have htk' : vs'.take 4 = vs' := List.take_of_length_le (by omega)
  obtain ⟨A1, hA1⟩ : ∃ A1, A1 = (A.alloc (.cells (.int .i64 R.e :: wi :: vs) 40 (some 0))).alloc (.cells (.int .i64 T.e :: wi' :: vs') 40 (some 0)) := ⟨_, rfl⟩
  have o1 : Over A A1 := by rw [hA1]; exact ((Over.refl A).alloc _).alloc _
  have g0 : A1.get A.next = some (.cells (.int .i64 R.e :: wi :: vs) 40 (some 0)) := by rw [hA1, get_alloc_old (by simp only [nx_alloc]; omega), get_alloc_same]
  have g1 : A1.get (A.next + 1) = some (.cells (.int .i64 T.e :: wi' :: vs') 40 (some 0)) := by rw [hA1]; exact get_alloc_same ..
  have hid1 : IdView A1 R.ids wi := View.over hid o1
  have hid1' : IdView A1 T.ids wi' := View.over hid' o1
  have hlen := View.lenU (e := 23) hid1
  have hlen' := View.lenU (e := 23) hid1'
  by_cases he : R.e = T.e
  rotate_left
  · have hs : sameR R T = false := by unfold sameR; rw [decide_eq_false he]; rfl
    rw [hs]
    simp (maxSteps := 1000000) (disch := (first | omega | (simp only [nx_alloc, nx_upd, len_cons, len_nil, List.length_set, List.length_map, List.length_append] <;> omega) | fail)) only [Nat.reduceAdd, Nat.reduceSub, Nat.reduceMul, Nat.reduceLT, Nat.reduceLeDiff, Nat.reduceEqDiff, ↓reduceIte, reduceCtorEq, Int.reduceAdd, Int.reduceSub, Int.reduceMul, Int.reduceLT, Int.reduceLE, Int.reduceEq, Int.reduceNe, Int.reduceToNat, Int.reduceNeg, go_sem, Try.ntmps15, Try.results15, he]
    rw [← hA1]
    exact gc_fin' hw o1 rfl (.bool _)
  by_cases hn : R.ids.length = T.ids.length
  rotate_left
  · have hs : sameR R T = false := by unfold sameR; rw [decide_eq_false (fun e : R.ids = T.ids => hn (by rw [e]))]; simp
    have hn' : ¬ ((R.ids.length : Int) = T.ids.length) := by omega
    rw [hs]
    rw [he] at hA1
    simp (maxSteps := 1000000) (disch := (first | omega | (simp only [nx_alloc, nx_upd, len_cons, len_nil, List.length_set, List.length_map, List.length_append] <;> omega) | fail)) only [Nat.reduceAdd, Nat.reduceSub, Nat.reduceMul, Nat.reduceLT, Nat.reduceLeDiff, Nat.reduceEqDiff, ↓reduceIte, reduceCtorEq, Int.reduceAdd, Int.reduceSub, Int.reduceMul, Int.reduceLT, Int.reduceLE, Int.reduceEq, Int.reduceNe, Int.reduceToNat, Int.reduceNeg, go_sem, Try.ntmps15, Try.results15, he]
    rw [← hA1]
    simp (maxSteps := 1000000) (disch := (first | omega | (simp only [nx_alloc, nx_upd, len_cons, len_nil, List.length_set, List.length_map, List.length_append] <;> omega) | fail)) only [Nat.reduceAdd, Nat.reduceSub, Nat.reduceMul, Nat.reduceLT, Nat.reduceLeDiff, Nat.reduceEqDiff, ↓reduceIte, reduceCtorEq, Int.reduceAdd, Int.reduceSub, Int.reduceMul, Int.reduceLT, Int.reduceLE, Int.reduceEq, Int.reduceNe, Int.reduceToNat, Int.reduceNeg, go_sem, g0, g1, hlen, hlen', hn', Try.results15]
    exact gc_fin' hw o1 rfl (.bool _)
  have hn' : ((R.ids.length : Int) = T.ids.length) := by omega
  rw [he] at hA1
  simp (maxSteps := 1000000) (disch := (first | omega | (simp only [nx_alloc, nx_upd, len_cons, len_nil, List.length_set, List.length_map, List.length_append] <;> omega) | fail)) only [Nat.reduceAdd, Nat.reduceSub, Nat.reduceMul, Nat.reduceLT, Nat.reduceLeDiff, Nat.reduceEqDiff, ↓reduceIte, reduceCtorEq, Int.reduceAdd, Int.reduceSub, Int.reduceMul, Int.reduceLT, Int.reduceLE, Int.reduceEq, Int.reduceNe, Int.reduceToNat, Int.reduceNeg, go_sem, Try.ntmps15, Try.results15, he]
  rw [← hA1]
  simp (maxSteps := 1000000) (disch := (first | omega | (simp only [nx_alloc, nx_upd, len_cons, len_nil, List.length_set, List.length_map, List.length_append] <;> omega) | fail)) only [Nat.reduceAdd, Nat.reduceSub, Nat.reduceMul, Nat.reduceLT, Nat.reduceLeDiff, Nat.reduceEqDiff, ↓reduceIte, reduceCtorEq, Int.reduceAdd, Int.reduceSub, Int.reduceMul, Int.reduceLT, Int.reduceLE, Int.reduceEq, Int.reduceNe, Int.reduceToNat, Int.reduceNeg, go_sem, g0, g1, hlen, hlen', hn', htk, htk']
  refine call1 (rvsame_ok w0 A1 R.v T.v _ _ ((hvs.ge o1.ge).ver) ((hvs'.ge o1.ge).ver) s1 s2) ?_
  cases hv : eqV R.v T.v
  · have hs : sameR R T = false := by unfold sameR; rw [hv]; simp
    rw [hs]
    simp (maxSteps := 1000000) (disch := (first | omega | (simp only [nx_alloc, nx_upd, len_cons, len_nil, List.length_set, List.length_map, List.length_append] <;> omega) | fail)) only [Nat.reduceAdd, Nat.reduceSub, Nat.reduceMul, Nat.reduceLT, Nat.reduceLeDiff, Nat.reduceEqDiff, ↓reduceIte, reduceCtorEq, Int.reduceAdd, Int.reduceSub, Int.reduceMul, Int.reduceLT, Int.reduceLE, Int.reduceEq, Int.reduceNe, Int.reduceToNat, Int.reduceNeg, go_sem, Try.results15]
    exact gc_fin' hw o1 rfl (.bool _)
  have hs : sameR R T = decide (R.ids = T.ids) := by unfold sameR; rw [hv, decide_eq_true he]; simp
  rw [hs]
  simp (maxSteps := 1000000) (disch := (first | omega | (simp only [nx_alloc, nx_upd, len_cons, len_nil, List.length_set, List.length_map, List.length_append] <;> omega) | fail)) only [Nat.reduceAdd, Nat.reduceSub, Nat.reduceMul, Nat.reduceLT, Nat.reduceLeDiff, Nat.reduceEqDiff, ↓reduceIte, reduceCtorEq, Int.reduceAdd, Int.reduceSub, Int.reduceMul, Int.reduceLT, Int.reduceLE, Int.reduceEq, Int.reduceNe, Int.reduceToNat, Int.reduceNeg, go_sem]
  refine aw_loop (fun k x A' => ∃ (ρ : Nat → Value) (i : Nat), x = E 46 ρ [] ∧ A' = A1 ∧ k = R.ids.length - i ∧ i ≤ R.ids.length ∧ R.ids.take i = T.ids.take i ∧ ρ 2 = .pointer (some ⟨A.next, 0, none⟩) ∧ ρ 3 = .pointer (some ⟨A.next + 1, 0, none⟩) ∧ ρ 5 = .int .i64 i) R.ids.length
    ⟨_, 0, rfl, rfl, rfl, Nat.zero_le _, by simp, rfl, rfl, rfl⟩ ?_
  rintro k x A' ⟨ρ, i, rfl, rfl, hk, hi, heq, r2, r3, r5⟩
  refine aw_of ?_
  by_cases hend : i = R.ids.length
  · have e1 : ¬ ((i : Int) < R.ids.length) := by omega
    have hfin : R.ids = T.ids := by
      rw [hend, List.take_length, hn, List.take_length] at heq; exact heq
    simp (maxSteps := 1000000) (disch := (first | omega | (simp only [nx_alloc, nx_upd, len_cons, len_nil, List.length_set, List.length_map, List.length_append] <;> omega) | fail)) only [Nat.reduceAdd, Nat.reduceSub, Nat.reduceMul, Nat.reduceLT, Nat.reduceLeDiff, Nat.reduceEqDiff, ↓reduceIte, reduceCtorEq, Int.reduceAdd, Int.reduceSub, Int.reduceMul, Int.reduceLT, Int.reduceLE, Int.reduceEq, Int.reduceNe, Int.reduceToNat, Int.reduceNeg, go_sem, r2, r3, r5, g0, hlen, Try.results15]
    exact gc_fin' hw o1 (congrArg Value.bool (decide_eq_true hfin).symm) (.bool _)
  have e1 : ((i : Int) < R.ids.length) := by omega
  obtain ⟨a, ha⟩ : ∃ a, R.ids[i]? = some a := ⟨R.ids[i]'(by omega), List.getElem?_eq_getElem (by omega)⟩
  obtain ⟨b, hb⟩ : ∃ a, T.ids[i]? = some a := ⟨T.ids[i]'(by omega), List.getElem?_eq_getElem (by omega)⟩
  obtain ⟨pb, po, q1, q2, q3, cells, e', md, q4, q5⟩ := View.at1 (P := Try.prog) (e := 23) hid1 Try.sz23 (u32E_at' _ i a ha)
  obtain ⟨pb', po', y1, y2, y3, cells', e'', md', y4, y5⟩ := View.at1 (P := Try.prog) (e := 23) hid1' Try.sz23 (u32E_at' _ i b hb)
  simp (maxSteps := 1000000) (disch := (first | omega | (simp only [nx_alloc, nx_upd, len_cons, len_nil, List.length_set, List.length_map, List.length_append] <;> omega) | fail)) only [Nat.reduceAdd, Nat.reduceSub, Nat.reduceMul, Nat.reduceLT, Nat.reduceLeDiff, Nat.reduceEqDiff, ↓reduceIte, reduceCtorEq, Int.reduceAdd, Int.reduceSub, Int.reduceMul, Int.reduceLT, Int.reduceLE, Int.reduceEq, Int.reduceNe, Int.reduceToNat, Int.reduceNeg, go_sem, r2, r3, r5, g0, hlen]
  refine aw_draw2 [⟨false, [], [0]⟩, ⟨false, [0], [0]⟩, ⟨false, [], [0]⟩, ⟨false, [0, 1, 2], [0]⟩, ⟨false, [0, 1, 2, 3], [0]⟩, ⟨false, [], [0]⟩, ⟨false, [5], [0]⟩, ⟨false, [], [0]⟩, ⟨false, [5, 6, 7], [0]⟩, ⟨false, [5, 6, 7, 8], [0]⟩, ⟨false, [0, 1, 2, 3, 4, 5, 6, 7, 8, 9], [0]⟩] [A'] 0 (by kernel_rfl) (by kernel_rfl) rfl ?_
  by_cases hab : a = b
  · simp (maxSteps := 1000000) (disch := (first | omega | (simp only [nx_alloc, nx_upd, len_cons, len_nil, List.length_set, List.length_map, List.length_append] <;> omega) | fail)) only [Nat.reduceAdd, Nat.reduceSub, Nat.reduceMul, Nat.reduceLT, Nat.reduceLeDiff, Nat.reduceEqDiff, ↓reduceIte, reduceCtorEq, Int.reduceAdd, Int.reduceSub, Int.reduceMul, Int.reduceLT, Int.reduceLE, Int.reduceEq, Int.reduceNe, Int.reduceToNat, Int.reduceNeg, go_sem, r2, r3, r5, g0, g1, q3, q4, q5, y3, y4, y5, hab]
    refine ⟨k - 1, by omega, _, i + 1, rfl, by omega, by omega, ?_, ?_, ?_, ?_⟩
    · rw [List.take_add_one, List.take_add_one, heq, ha, hb, hab]
    · simp (maxSteps := 1000000) (disch := (first | omega | (simp only [nx_alloc, nx_upd, len_cons, len_nil, List.length_set, List.length_map, List.length_append] <;> omega) | fail)) only [Nat.reduceAdd, Nat.reduceSub, Nat.reduceMul, Nat.reduceLT, Nat.reduceLeDiff, Nat.reduceEqDiff, ↓reduceIte, reduceCtorEq, Int.reduceAdd, Int.reduceSub, Int.reduceMul, Int.reduceLT, Int.reduceLE, Int.reduceEq, Int.reduceNe, Int.reduceToNat, Int.reduceNeg, go_sem, r2]
    · simp (maxSteps := 1000000) (disch := (first | omega | (simp only [nx_alloc, nx_upd, len_cons, len_nil, List.length_set, List.length_map, List.length_append] <;> omega) | fail)) only [Nat.reduceAdd, Nat.reduceSub, Nat.reduceMul, Nat.reduceLT, Nat.reduceLeDiff, Nat.reduceEqDiff, ↓reduceIte, reduceCtorEq, Int.reduceAdd, Int.reduceSub, Int.reduceMul, Int.reduceLT, Int.reduceLE, Int.reduceEq, Int.reduceNe, Int.reduceToNat, Int.reduceNeg, go_sem, r3]
    · simp (maxSteps := 1000000) (disch := (first | omega | (simp only [nx_alloc, nx_upd, len_cons, len_nil, List.length_set, List.length_map, List.length_append] <;> omega) | fail)) only [Nat.reduceAdd, Nat.reduceSub, Nat.reduceMul, Nat.reduceLT, Nat.reduceLeDiff, Nat.reduceEqDiff, ↓reduceIte, reduceCtorEq, Int.reduceAdd, Int.reduceSub, Int.reduceMul, Int.reduceLT, Int.reduceLE, Int.reduceEq, Int.reduceNe, Int.reduceToNat, Int.reduceNeg, go_sem]
      rfl
  · simp (maxSteps := 1000000) (disch := (first | omega | (simp only [nx_alloc, nx_upd, len_cons, len_nil, List.length_set, List.length_map, List.length_append] <;> omega) | fail)) only [Nat.reduceAdd, Nat.reduceSub, Nat.reduceMul, Nat.reduceLT, Nat.reduceLeDiff, Nat.reduceEqDiff, ↓reduceIte, reduceCtorEq, Int.reduceAdd, Int.reduceSub, Int.reduceMul, Int.reduceLT, Int.reduceLE, Int.reduceEq, Int.reduceNe, Int.reduceToNat, Int.reduceNeg, go_sem, r2, r3, r5, g0, g1, q3, q4, q5, y3, y4, y5, hab, Try.results15]
    refine gc_fin' hw o1 (congrArg Value.bool (decide_eq_false ?_).symm) (.bool _)
    intro e
    rw [e, hb] at ha
    cases ha; exact hab rfl
end Go.Fw
