import Derived.Test.YtphfkbagjpcmpaaFwVault14
set_option linter.unusedSimpArgs false
set_option linter.unusedVariables false
namespace Go.Fw
open Go.Proofs Go.RowKit
theorem Try.enters30 : Enters Try.prog 30 := enters_of Try.func30 rfl (by kernel_rfl)
theorem equalU_ok (w0 : World) (A : St) (l m : List Int) (v u : Value) (hv : IdView A l v) (hu : IdView A m u) (hl : l.length ≤ 1073741824) (hm : m.length ≤ 1073741824) : ACalls Try.prog w0 30 #[v, u] A (fin (.bool (decide (l = m))) A) := by
  refine call_E Try.enters30 Try.func30 rfl (Nat.le_of_ble_eq_true rfl) fun hw hbd => ?_
  have hlen := View.lenU (e := 23) hv
  have hlen2 := View.lenU (e := 23) hu
  by_cases hne : l.length = m.length
  rotate_left
  · have hne' : ¬ ((l.length : Int) = m.length) := by omega
    simp (maxSteps := 1000000) (disch := (first | omega | (simp only [nx_alloc, nx_upd, len_cons, len_nil, List.length_set, List.length_map, List.length_append] <;> omega) | fail)) only [Nat.reduceAdd, Nat.reduceSub, Nat.reduceMul, Nat.reduceLT, Nat.reduceLeDiff, Nat.reduceEqDiff, ↓reduceIte, reduceCtorEq, Int.reduceAdd, Int.reduceSub, Int.reduceMul, Int.reduceLT, Int.reduceLE, Int.reduceEq, Int.reduceNe, Int.reduceToNat, Int.reduceNeg, go_sem, Try.ntmps30, Try.results30, hlen, hlen2]
    exact gc_fin' hw (Over.refl _) (congrArg Value.bool (decide_eq_false (fun h => hne (by rw [h]))).symm) (.bool _)
  have hne' : ((l.length : Int) = m.length) := by omega
  simp (maxSteps := 1000000) (disch := (first | omega | (simp only [nx_alloc, nx_upd, len_cons, len_nil, List.length_set, List.length_map, List.length_append] <;> omega) | fail)) only [Nat.reduceAdd, Nat.reduceSub, Nat.reduceMul, Nat.reduceLT, Nat.reduceLeDiff, Nat.reduceEqDiff, ↓reduceIte, reduceCtorEq, Int.reduceAdd, Int.reduceSub, Int.reduceMul, Int.reduceLT, Int.reduceLE, Int.reduceEq, Int.reduceNe, Int.reduceToNat, Int.reduceNeg, go_sem, Try.ntmps30, Try.results30, hlen, hlen2]
  refine aw_loop (fun k x A' => ∃ (ρ : Nat → Value) (i : Nat), x = E 26 ρ [] ∧ A' = A ∧ k = l.length - i ∧ i ≤ l.length ∧ l.take i = m.take i ∧ ρ 0 = v ∧ ρ 1 = u ∧ ρ 12 = .int .i64 l.length ∧ ρ 13 = .int .i64 i) l.length
    ⟨_, 0, rfl, rfl, rfl, Nat.zero_le _, by simp, rfl, rfl, by first | rfl | (show Value.int .i64 (m.length : Nat) = _; rw [hne]), rfl⟩ ?_
  rintro k x A' ⟨ρ, i, rfl, rfl, hk, hi, he, g0, g1, g12, g13⟩
  refine aw_of ?_
  by_cases hend : i = l.length
  · have e1 : ¬ ((i : Int) < l.length) := by omega
    simp (maxSteps := 1000000) (disch := (first | omega | (simp only [nx_alloc, nx_upd, len_cons, len_nil, List.length_set, List.length_map, List.length_append] <;> omega) | fail)) only [Nat.reduceAdd, Nat.reduceSub, Nat.reduceMul, Nat.reduceLT, Nat.reduceLeDiff, Nat.reduceEqDiff, ↓reduceIte, reduceCtorEq, Int.reduceAdd, Int.reduceSub, Int.reduceMul, Int.reduceLT, Int.reduceLE, Int.reduceEq, Int.reduceNe, Int.reduceToNat, Int.reduceNeg, go_sem, g0, g1, g12, g13, Try.results30]
    refine gc_fin' hw (Over.refl _) (congrArg Value.bool (decide_eq_true ?_).symm) (.bool _)
    rw [hend, List.take_length, hne, List.take_length] at he; exact he
  have e1 : ((i : Int) < l.length) := by omega
  obtain ⟨t, ht⟩ : ∃ t, l[i]? = some t := ⟨l[i]'(by omega), List.getElem?_eq_getElem (by omega)⟩
  obtain ⟨t', ht'⟩ : ∃ t, m[i]? = some t := ⟨m[i]'(by omega), List.getElem?_eq_getElem (by omega)⟩
  obtain ⟨hb, ho, h1, h2, h3, hcells, he', hm, h4, h5⟩ := View.at1 (P := Try.prog) (e := 23) hv Try.sz23 (u32E_at' l i t ht)
  obtain ⟨qb, qo, q1, q2, q3, qcells, qe', qm, q4, q5⟩ := View.at1 (P := Try.prog) (e := 23) hu Try.sz23 (u32E_at' m i t' ht')
  simp (maxSteps := 1000000) (disch := (first | omega | (simp only [nx_alloc, nx_upd, len_cons, len_nil, List.length_set, List.length_map, List.length_append] <;> omega) | fail)) only [Nat.reduceAdd, Nat.reduceSub, Nat.reduceMul, Nat.reduceLT, Nat.reduceLeDiff, Nat.reduceEqDiff, ↓reduceIte, reduceCtorEq, Int.reduceAdd, Int.reduceSub, Int.reduceMul, Int.reduceLT, Int.reduceLE, Int.reduceEq, Int.reduceNe, Int.reduceToNat, Int.reduceNeg, go_sem, g0, g1, g12, g13]
  refine aw_draw (by kernel_rfl) ?_
  by_cases htt : t = t'
  · simp (maxSteps := 1000000) (disch := (first | omega | (simp only [nx_alloc, nx_upd, len_cons, len_nil, List.length_set, List.length_map, List.length_append] <;> omega) | fail)) only [Nat.reduceAdd, Nat.reduceSub, Nat.reduceMul, Nat.reduceLT, Nat.reduceLeDiff, Nat.reduceEqDiff, ↓reduceIte, reduceCtorEq, Int.reduceAdd, Int.reduceSub, Int.reduceMul, Int.reduceLT, Int.reduceLE, Int.reduceEq, Int.reduceNe, Int.reduceToNat, Int.reduceNeg, go_sem, g0, g1, g13, h3, h4, h5, q3, q4, q5, htt]
    refine ⟨k - 1, by omega, _, i + 1, rfl, by omega, by omega, ?_, ?_, ?_, ?_, ?_⟩
    · rw [List.take_add_one, List.take_add_one, he, ht, ht', htt]
    · simp (maxSteps := 1000000) (disch := (first | omega | (simp only [nx_alloc, nx_upd, len_cons, len_nil, List.length_set, List.length_map, List.length_append] <;> omega) | fail)) only [Nat.reduceAdd, Nat.reduceSub, Nat.reduceMul, Nat.reduceLT, Nat.reduceLeDiff, Nat.reduceEqDiff, ↓reduceIte, reduceCtorEq, Int.reduceAdd, Int.reduceSub, Int.reduceMul, Int.reduceLT, Int.reduceLE, Int.reduceEq, Int.reduceNe, Int.reduceToNat, Int.reduceNeg, go_sem, g0]
    · simp (maxSteps := 1000000) (disch := (first | omega | (simp only [nx_alloc, nx_upd, len_cons, len_nil, List.length_set, List.length_map, List.length_append] <;> omega) | fail)) only [Nat.reduceAdd, Nat.reduceSub, Nat.reduceMul, Nat.reduceLT, Nat.reduceLeDiff, Nat.reduceEqDiff, ↓reduceIte, reduceCtorEq, Int.reduceAdd, Int.reduceSub, Int.reduceMul, Int.reduceLT, Int.reduceLE, Int.reduceEq, Int.reduceNe, Int.reduceToNat, Int.reduceNeg, go_sem, g1]
    · simp (maxSteps := 1000000) (disch := (first | omega | (simp only [nx_alloc, nx_upd, len_cons, len_nil, List.length_set, List.length_map, List.length_append] <;> omega) | fail)) only [Nat.reduceAdd, Nat.reduceSub, Nat.reduceMul, Nat.reduceLT, Nat.reduceLeDiff, Nat.reduceEqDiff, ↓reduceIte, reduceCtorEq, Int.reduceAdd, Int.reduceSub, Int.reduceMul, Int.reduceLT, Int.reduceLE, Int.reduceEq, Int.reduceNe, Int.reduceToNat, Int.reduceNeg, go_sem, g12]
    · simp (maxSteps := 1000000) (disch := (first | omega | (simp only [nx_alloc, nx_upd, len_cons, len_nil, List.length_set, List.length_map, List.length_append] <;> omega) | fail)) only [Nat.reduceAdd, Nat.reduceSub, Nat.reduceMul, Nat.reduceLT, Nat.reduceLeDiff, Nat.reduceEqDiff, ↓reduceIte, reduceCtorEq, Int.reduceAdd, Int.reduceSub, Int.reduceMul, Int.reduceLT, Int.reduceLE, Int.reduceEq, Int.reduceNe, Int.reduceToNat, Int.reduceNeg, go_sem, g13]
      rfl
  · simp (maxSteps := 1000000) (disch := (first | omega | (simp only [nx_alloc, nx_upd, len_cons, len_nil, List.length_set, List.length_map, List.length_append] <;> omega) | fail)) only [Nat.reduceAdd, Nat.reduceSub, Nat.reduceMul, Nat.reduceLT, Nat.reduceLeDiff, Nat.reduceEqDiff, ↓reduceIte, reduceCtorEq, Int.reduceAdd, Int.reduceSub, Int.reduceMul, Int.reduceLT, Int.reduceLE, Int.reduceEq, Int.reduceNe, Int.reduceToNat, Int.reduceNeg, go_sem, g0, g1, g13, h3, h4, h5, q3, q4, q5, htt, Try.results30]
    refine gc_fin' hw (Over.refl _) (congrArg Value.bool (decide_eq_false ?_).symm) (.bool _)
    intro h
    rw [h, ht'] at ht
    cases ht; exact htt rfl
theorem Try.enters24 : Enters Try.prog 24 := enters_of Try.func24 rfl (by kernel_rfl)
theorem Try.enters22 : Enters Try.prog 22 := enters_of Try.func22 rfl (by kernel_rfl)
set_option maxHeartbeats 4000000 in
theorem psame17_ok (w0 : World) (A : St) (R T : ReplyT) (rc tc : List Value) (h : RepC A R rc) (h' : RepC A T tc) (s1 : R.v.small) (s2 : T.v.small) (hl : R.ids.length ≤ 1048576) (hl' : T.ids.length ≤ 1048576) :
    ACalls Try.prog w0 24 #[.agg rc.toArray, .agg tc.toArray] A (fin (.bool (sameR R T)) A) := by
  obtain ⟨wi, vs, rfl, hid, hvs⟩ := h
  obtain ⟨wi', vs', rfl, hid', hvs'⟩ := h'
  refine call_E Try.enters24 Try.func24 rfl (Nat.le_of_ble_eq_true rfl) fun hw hbd => ?_
  have hvl := hvs.len
  have hvl' := hvs'.len
  have htk : vs.take 4 = vs := List.take_of_length_le (by omega)
  have htk' : vs'.take 4 = vs' := List.take_of_length_le (by omega)
  obtain ⟨A1, hA1⟩ : ∃ A1, A1 = (A.alloc (.cells (.int .i64 R.e :: wi :: vs) 40 (some 0))).alloc (.cells (.int .i64 T.e :: wi' :: vs') 40 (some 0)) := ⟨_, rfl⟩
  have o1 : Over A A1 := by rw [hA1]; exact ((Over.refl A).alloc _).alloc _
  have g0 : A1.get A.next = some (.cells (.int .i64 R.e :: wi :: vs) 40 (some 0)) := by rw [hA1, get_alloc_old (by simp only [nx_alloc]; omega), get_alloc_same]
  have g1 : A1.get (A.next + 1) = some (.cells (.int .i64 T.e :: wi' :: vs') 40 (some 0)) := by rw [hA1]; exact get_alloc_same ..
  have hid1 : IdView A1 R.ids wi := View.over hid o1
  have hid1' : IdView A1 T.ids wi' := View.over hid' o1
  by_cases he : R.e = T.e
  rotate_left
  · have hs : sameR R T = false := by unfold sameR; rw [decide_eq_false he]; rfl
    rw [hs]
    simp (maxSteps := 1000000) (disch := (first | omega | (simp only [nx_alloc, nx_upd, len_cons, len_nil, List.length_set, List.length_map, List.length_append] <;> omega) | fail)) only [Nat.reduceAdd, Nat.reduceSub, Nat.reduceMul, Nat.reduceLT, Nat.reduceLeDiff, Nat.reduceEqDiff, ↓reduceIte, reduceCtorEq, Int.reduceAdd, Int.reduceSub, Int.reduceMul, Int.reduceLT, Int.reduceLE, Int.reduceEq, Int.reduceNe, Int.reduceToNat, Int.reduceNeg, go_sem, Try.ntmps24, Try.results24, he]
    rw [← hA1]
    exact gc_fin' hw o1 rfl (.bool _)
  rw [he] at hA1
  simp (maxSteps := 1000000) (disch := (first | omega | (simp only [nx_alloc, nx_upd, len_cons, len_nil, List.length_set, List.length_map, List.length_append] <;> omega) | fail)) only [Nat.reduceAdd, Nat.reduceSub, Nat.reduceMul, Nat.reduceLT, Nat.reduceLeDiff, Nat.reduceEqDiff, ↓reduceIte, reduceCtorEq, Int.reduceAdd, Int.reduceSub, Int.reduceMul, Int.reduceLT, Int.reduceLE, Int.reduceEq, Int.reduceNe, Int.reduceToNat, Int.reduceNeg, go_sem, Try.ntmps24, Try.results24, he]
  rw [← hA1]
  refine call1 (equalU_ok w0 A1 R.ids T.ids _ _ hid1 hid1' (by omega) (by omega)) ?_
  by_cases hn : R.ids = T.ids
  rotate_left
  · have hs : sameR R T = false := by unfold sameR; rw [decide_eq_false hn]; simp
    rw [hs]
    simp (maxSteps := 1000000) (disch := (first | omega | (simp only [nx_alloc, nx_upd, len_cons, len_nil, List.length_set, List.length_map, List.length_append] <;> omega) | fail)) only [Nat.reduceAdd, Nat.reduceSub, Nat.reduceMul, Nat.reduceLT, Nat.reduceLeDiff, Nat.reduceEqDiff, ↓reduceIte, reduceCtorEq, Int.reduceAdd, Int.reduceSub, Int.reduceMul, Int.reduceLT, Int.reduceLE, Int.reduceEq, Int.reduceNe, Int.reduceToNat, Int.reduceNeg, go_sem, hn, Try.results24]
    exact gc_fin' hw o1 rfl (.bool _)
  simp (maxSteps := 1000000) (disch := (first | omega | (simp only [nx_alloc, nx_upd, len_cons, len_nil, List.length_set, List.length_map, List.length_append] <;> omega) | fail)) only [Nat.reduceAdd, Nat.reduceSub, Nat.reduceMul, Nat.reduceLT, Nat.reduceLeDiff, Nat.reduceEqDiff, ↓reduceIte, reduceCtorEq, Int.reduceAdd, Int.reduceSub, Int.reduceMul, Int.reduceLT, Int.reduceLE, Int.reduceEq, Int.reduceNe, Int.reduceToNat, Int.reduceNeg, go_sem, hn, g0, g1, htk, htk']
  refine call1 (vsame_ok w0 A1 R.v T.v _ _ ((hvs.ge o1.ge).ver) ((hvs'.ge o1.ge).ver) s1 s2) ?_
  have hs : sameR R T = eqV R.v T.v := by unfold sameR; rw [decide_eq_true he, decide_eq_true hn]; rfl
  rw [hs]
  simp (maxSteps := 1000000) (disch := (first | omega | (simp only [nx_alloc, nx_upd, len_cons, len_nil, List.length_set, List.length_map, List.length_append] <;> omega) | fail)) only [Nat.reduceAdd, Nat.reduceSub, Nat.reduceMul, Nat.reduceLT, Nat.reduceLeDiff, Nat.reduceEqDiff, ↓reduceIte, reduceCtorEq, Int.reduceAdd, Int.reduceSub, Int.reduceMul, Int.reduceLT, Int.reduceLE, Int.reduceEq, Int.reduceNe, Int.reduceToNat, Int.reduceNeg, go_sem, Try.results24]
  exact gc_fin' hw o1 rfl (.bool _)
set_option maxHeartbeats 4000000 in
theorem hsame_ok (w0 : World) (A : St) (l m : List HashT) (v u : Value) (hv : HsView A l v) (hu : HsView A m u) (hl : l.length ≤ 1073741824) (hm : m.length ≤ 1073741824) : ACalls Try.prog w0 22 #[v, u] A (fin (.bool (decide (l = m))) A) := by
  refine call_E Try.enters22 Try.func22 rfl (Nat.le_of_ble_eq_true rfl) fun hw hbd => ?_
  have hlen := View.lenU (e := 62) hv
  have hlen2 := View.lenU (e := 62) hu
  by_cases hne : l.length = m.length
  rotate_left
  · have hne' : ¬ ((l.length : Int) = m.length) := by omega
    simp (maxSteps := 1000000) (disch := (first | omega | (simp only [nx_alloc, nx_upd, len_cons, len_nil, List.length_set, List.length_map, List.length_append] <;> omega) | fail)) only [Nat.reduceAdd, Nat.reduceSub, Nat.reduceMul, Nat.reduceLT, Nat.reduceLeDiff, Nat.reduceEqDiff, ↓reduceIte, reduceCtorEq, Int.reduceAdd, Int.reduceSub, Int.reduceMul, Int.reduceLT, Int.reduceLE, Int.reduceEq, Int.reduceNe, Int.reduceToNat, Int.reduceNeg, go_sem, Try.ntmps22, Try.results22, hlen, hlen2]
    exact gc_fin' hw (Over.refl _) (congrArg Value.bool (decide_eq_false (fun h => hne (by rw [h]))).symm) (.bool _)
  have hne' : ((l.length : Int) = m.length) := by omega
  simp (maxSteps := 1000000) (disch := (first | omega | (simp only [nx_alloc, nx_upd, len_cons, len_nil, List.length_set, List.length_map, List.length_append] <;> omega) | fail)) only [Nat.reduceAdd, Nat.reduceSub, Nat.reduceMul, Nat.reduceLT, Nat.reduceLeDiff, Nat.reduceEqDiff, ↓reduceIte, reduceCtorEq, Int.reduceAdd, Int.reduceSub, Int.reduceMul, Int.reduceLT, Int.reduceLE, Int.reduceEq, Int.reduceNe, Int.reduceToNat, Int.reduceNeg, go_sem, Try.ntmps22, Try.results22, hlen, hlen2]
  refine aw_loop (fun k x A' => ∃ (ρ : Nat → Value) (i : Nat), x = E 26 ρ [] ∧ A' = A ∧ k = l.length - i ∧ i ≤ l.length ∧ l.take i = m.take i ∧ ρ 0 = v ∧ ρ 1 = u ∧ ρ 5 = .int .i64 i) l.length
    ⟨_, 0, rfl, rfl, rfl, Nat.zero_le _, by simp, rfl, rfl, rfl⟩ ?_
  rintro k x A' ⟨ρ, i, rfl, rfl, hk, hi, he, g0, g1, g5⟩
  refine aw_of ?_
  by_cases hend : i = l.length
  · have e1 : ¬ ((i : Int) < l.length) := by omega
    simp (maxSteps := 1000000) (disch := (first | omega | (simp only [nx_alloc, nx_upd, len_cons, len_nil, List.length_set, List.length_map, List.length_append] <;> omega) | fail)) only [Nat.reduceAdd, Nat.reduceSub, Nat.reduceMul, Nat.reduceLT, Nat.reduceLeDiff, Nat.reduceEqDiff, ↓reduceIte, reduceCtorEq, Int.reduceAdd, Int.reduceSub, Int.reduceMul, Int.reduceLT, Int.reduceLE, Int.reduceEq, Int.reduceNe, Int.reduceToNat, Int.reduceNeg, go_sem, g0, g1, g5, hlen, Try.results22]
    refine gc_fin' hw (Over.refl _) (congrArg Value.bool (decide_eq_true ?_).symm) (.bool _)
    rw [hend, List.take_length, hne, List.take_length] at he; exact he
  have e1 : ((i : Int) < l.length) := by omega
  obtain ⟨t, ht⟩ : ∃ t, l[i]? = some t := ⟨l[i]'(by omega), List.getElem?_eq_getElem (by omega)⟩
  obtain ⟨t', ht'⟩ : ∃ t, m[i]? = some t := ⟨m[i]'(by omega), List.getElem?_eq_getElem (by omega)⟩
  obtain ⟨hb, ho, h1, h2, h3, hcells, he', hm', h4, h5, h6⟩ := View.at (P := Try.prog) (e := 62) hv Try.sz62 (i := i) (by omega)
  obtain ⟨qb, qo, q1, q2, q3, qcells, qe', qm, q4, q5, q6⟩ := View.at (P := Try.prog) (e := 62) hu Try.sz62 (i := i) (by omega)
  rw [hs_elem ht] at h6
  rw [hs_elem ht'] at q6
  have hld := ld_agg (e' := he') (m := hm') h5 h6
  have qld := ld_agg (e' := qe') (m := qm) q5 q6
  simp (maxSteps := 1000000) (disch := (first | omega | (simp only [nx_alloc, nx_upd, len_cons, len_nil, List.length_set, List.length_map, List.length_append] <;> omega) | fail)) only [Nat.reduceAdd, Nat.reduceSub, Nat.reduceMul, Nat.reduceLT, Nat.reduceLeDiff, Nat.reduceEqDiff, ↓reduceIte, reduceCtorEq, Int.reduceAdd, Int.reduceSub, Int.reduceMul, Int.reduceLT, Int.reduceLE, Int.reduceEq, Int.reduceNe, Int.reduceToNat, Int.reduceNeg, go_sem, g0, g1, g5, hlen]
  refine aw_draw2 [⟨false, [], [0]⟩, ⟨false, [], [0]⟩, ⟨false, [0, 1], [0]⟩, ⟨false, [0, 1, 2], [0]⟩, ⟨false, [], [0]⟩, ⟨false, [], [0]⟩, ⟨false, [4, 5], [0]⟩, ⟨false, [4, 5, 6], [0]⟩, ⟨false, [0, 1, 2, 3, 4, 5, 6, 7], [0]⟩] [A'] 0 (by kernel_rfl) (by kernel_rfl) rfl ?_
  by_cases htt : t = t'
  · simp (maxSteps := 1000000) (disch := (first | omega | (simp only [nx_alloc, nx_upd, len_cons, len_nil, List.length_set, List.length_map, List.length_append] <;> omega) | fail)) only [Nat.reduceAdd, Nat.reduceSub, Nat.reduceMul, Nat.reduceLT, Nat.reduceLeDiff, Nat.reduceEqDiff, ↓reduceIte, reduceCtorEq, Int.reduceAdd, Int.reduceSub, Int.reduceMul, Int.reduceLT, Int.reduceLE, Int.reduceEq, Int.reduceNe, Int.reduceToNat, Int.reduceNeg, go_sem, g0, g1, g5, h3, h4, hld, q3, q4, qld, htt, hs_neq]
    refine ⟨k - 1, by omega, _, i + 1, rfl, by omega, by omega, ?_, ?_, ?_, ?_⟩
    · rw [List.take_add_one, List.take_add_one, he, ht, ht', htt]
    · simp (maxSteps := 1000000) (disch := (first | omega | (simp only [nx_alloc, nx_upd, len_cons, len_nil, List.length_set, List.length_map, List.length_append] <;> omega) | fail)) only [Nat.reduceAdd, Nat.reduceSub, Nat.reduceMul, Nat.reduceLT, Nat.reduceLeDiff, Nat.reduceEqDiff, ↓reduceIte, reduceCtorEq, Int.reduceAdd, Int.reduceSub, Int.reduceMul, Int.reduceLT, Int.reduceLE, Int.reduceEq, Int.reduceNe, Int.reduceToNat, Int.reduceNeg, go_sem, g0]
    · simp (maxSteps := 1000000) (disch := (first | omega | (simp only [nx_alloc, nx_upd, len_cons, len_nil, List.length_set, List.length_map, List.length_append] <;> omega) | fail)) only [Nat.reduceAdd, Nat.reduceSub, Nat.reduceMul, Nat.reduceLT, Nat.reduceLeDiff, Nat.reduceEqDiff, ↓reduceIte, reduceCtorEq, Int.reduceAdd, Int.reduceSub, Int.reduceMul, Int.reduceLT, Int.reduceLE, Int.reduceEq, Int.reduceNe, Int.reduceToNat, Int.reduceNeg, go_sem, g1]
    · simp (maxSteps := 1000000) (disch := (first | omega | (simp only [nx_alloc, nx_upd, len_cons, len_nil, List.length_set, List.length_map, List.length_append] <;> omega) | fail)) only [Nat.reduceAdd, Nat.reduceSub, Nat.reduceMul, Nat.reduceLT, Nat.reduceLeDiff, Nat.reduceEqDiff, ↓reduceIte, reduceCtorEq, Int.reduceAdd, Int.reduceSub, Int.reduceMul, Int.reduceLT, Int.reduceLE, Int.reduceEq, Int.reduceNe, Int.reduceToNat, Int.reduceNeg, go_sem, g5]
      rfl
  · simp (maxSteps := 1000000) (disch := (first | omega | (simp only [nx_alloc, nx_upd, len_cons, len_nil, List.length_set, List.length_map, List.length_append] <;> omega) | fail)) only [Nat.reduceAdd, Nat.reduceSub, Nat.reduceMul, Nat.reduceLT, Nat.reduceLeDiff, Nat.reduceEqDiff, ↓reduceIte, reduceCtorEq, Int.reduceAdd, Int.reduceSub, Int.reduceMul, Int.reduceLT, Int.reduceLE, Int.reduceEq, Int.reduceNe, Int.reduceToNat, Int.reduceNeg, go_sem, g0, g1, g5, h3, h4, hld, q3, q4, qld, htt, hs_neq, Try.results22]
    refine gc_fin' hw (Over.refl _) (congrArg Value.bool (decide_eq_false ?_).symm) (.bool _)
    intro h
    rw [h, ht'] at ht
    cases ht; exact htt rfl
set_option maxHeartbeats 8000000 in
theorem rlive_ex (w0 : World) (A : St) (S : StT) (cs : List Value) (hS : StC A S cs) (h8 : S.vers.length ≤ 8) (hb : ∀ V ∈ S.vers, V.blocks.length ≤ 1000) : ∃ v A', ACalls Try.prog w0 23 #[.agg cs.toArray] A (fin v A') ∧ Over A A' ∧ HsRow A' A.next (liveL S.vers) v := by
  obtain ⟨hs22, hsc⟩ := hS.len
  obtain ⟨v, tl, rfl, hv, _⟩ := hS.parts
  obtain ⟨A0, hA0⟩ : ∃ A0, A0 = A.alloc (.cells (v :: tl) 50 (some 0)) := ⟨_, rfl⟩
  have o0 : Over A A0 := hA0 ▸ (Over.refl A).alloc _
  have g0 : A0.get A.next = some (.cells (v :: tl) 50 (some 0)) := by rw [hA0]; exact get_alloc_same ..
  have n0 : A0.next = A.next + 1 := by rw [hA0]; rfl
  obtain ⟨A1, hA1⟩ : ∃ A1, A1 = A0.alloc (.cells [] 62 (some 0)) := ⟨_, rfl⟩
  have o1 : Over A0 A1 := hA1 ▸ (Over.refl A0).alloc _
  have n1 : A1.next = A.next + 2 := by rw [hA1, nx_alloc, n0]
  have hr1 : HsRow A1 A0.next [] (.slice (some ⟨A.next + 1, 0, none⟩) 0 0) := ⟨rfl, .inr ⟨A.next + 1, none, rfl, .inl rfl, by omega, by omega, by rw [hA1, ← n0]; exact get_alloc_same ..⟩⟩
  obtain ⟨s0, hs0⟩ : ∃ s0 : St × Value × List HashT, s0 = (A1, .slice (some ⟨A.next + 1, 0, none⟩) 0 0, []) := ⟨_, rfl⟩
  have i0 : liveI A0 s0 := by rw [hs0]; exact ⟨o1, hr1⟩
  have fok : ∀ (l : List VerT) {s : St × Value × List HashT}, liveI A0 s → (∀ V ∈ l, V.blocks.length ≤ 1000) → s.2.2.length + l.length * 1000 ≤ 1048576 → liveI A0 (l.foldl (fun s V => V.blocks.foldl stepI s) s) ∧ (l.foldl (fun s V => V.blocks.foldl stepI s) s).2.2 = l.foldl (fun o V => V.blocks.foldl addH o) s.2.2 := by
    intro l
    induction l with
    | nil => intro s h _ _; exact ⟨h, rfl⟩
    | cons V l ih =>
      intro s h hb hl
      have hV := hb V (List.mem_cons_self ..)
      rw [List.length_cons] at hl
      obtain ⟨h1, h2⟩ := foldI_ok V.blocks h (by omega)
      have h3 := addHs_len V.blocks s.2.2
      obtain ⟨h4, h5⟩ := ih h1 (fun V hV => hb V (List.mem_cons_of_mem _ hV)) (by rw [h2]; omega)
      exact ⟨h4, by rw [List.foldl_cons, h5, h2]; rfl⟩
  obtain ⟨fO, hfO⟩ : ∃ fO : St × Value × List HashT → VerT → St × Value × List HashT, fO = fun s V => V.blocks.foldl stepI s := ⟨_, rfl⟩
  rw [← hfO] at fok
  have finv : ∀ i, liveI A0 ((S.vers.take i).foldl fO s0) ∧ ((S.vers.take i).foldl fO s0).2.2 = liveL (S.vers.take i) := fun i => by
    obtain ⟨h1, h2⟩ := fok (S.vers.take i) i0 (fun V hV => hb V (List.mem_of_mem_take hV)) (by rw [hs0, List.length_take]; show 0 + _ ≤ _; omega)
    exact ⟨h1, by rw [h2, hs0]; rfl⟩
  refine ⟨(S.vers.foldl fO s0).2.1, (S.vers.foldl fO s0).1, ?_, ?_, ?_⟩
  rotate_left
  · have := (finv S.vers.length).1.1; rw [List.take_length] at this; exact o0.trans this
  · obtain ⟨⟨_, hr⟩, he⟩ := finv S.vers.length
    rw [he, List.take_length] at hr
    exact Row.keep hr (Nat.le_refl _) (fun _ _ _ _ => rfl) (by omega)
  have bs0 : ∀ X : St, abuildSlice Try.prog X 24 0 #[] = some (.slice (some ⟨X.next, 0, none⟩) 0 0, X.alloc (.cells [] 62 (some 0))) := fun X => buildSlice_zero Try.el24 Try.sz62 Try.zero62 (by decide)
  refine call_E Try.enters23 Try.func23 rfl (Nat.le_of_ble_eq_true rfl) fun hw hbd => ?_
  simp (maxSteps := 1000000) (disch := (first | omega | (simp only [nx_alloc, nx_upd, len_cons, len_nil, List.length_set, List.length_map, List.length_append] <;> omega) | fail)) only [Nat.reduceAdd, Nat.reduceSub, Nat.reduceMul, Nat.reduceLT, Nat.reduceLeDiff, Nat.reduceEqDiff, ↓reduceIte, reduceCtorEq, Int.reduceAdd, Int.reduceSub, Int.reduceMul, Int.reduceLT, Int.reduceLE, Int.reduceEq, Int.reduceNe, Int.reduceToNat, Int.reduceNeg, go_sem, Try.ntmps23, Try.results23, bs0]
  rw [← hA0]
  rw [← hA1]
  refine aw_loop (fun k x A' => ∃ (ρ : Nat → Value) (i : Nat), x = E 59 ρ [] ∧ k = S.vers.length - i ∧ i ≤ S.vers.length ∧ A' = ((S.vers.take i).foldl fO s0).1 ∧ ρ 1 = .pointer (some ⟨A.next, 0, none⟩) ∧ ρ 3 = ((S.vers.take i).foldl fO s0).2.1 ∧ ρ 4 = .int .i64 i) S.vers.length
    ⟨_, 0, rfl, rfl, Nat.zero_le _, by rw [hs0]; rfl, rfl, by rw [hs0]; rfl, rfl⟩ ?_
  clear hr1
  rintro k x A' ⟨ρ, i, rfl, hk, hi, hA', r1, r3, r4⟩
  refine aw_of ?_
  obtain ⟨⟨ho, hrow⟩, hlv⟩ := finv i
  rw [← hA'] at ho hrow
  have hg1 : A'.get A.next = _ := (ho.get _ (by omega)).trans g0
  have hv' := hv.ge (o0.trans ho).ge
  have hlen := NV.lenU (e := 28) hv'.1
  by_cases hend : i = S.vers.length
  · have e1 : ¬ ((i : Int) < S.vers.length) := by omega
    rw [hend, List.take_length] at hA' r3
    simp (maxSteps := 1000000) (disch := (first | omega | (simp only [nx_alloc, nx_upd, len_cons, len_nil, List.length_set, List.length_map, List.length_append] <;> omega) | fail)) only [Nat.reduceAdd, Nat.reduceSub, Nat.reduceMul, Nat.reduceLT, Nat.reduceLeDiff, Nat.reduceEqDiff, ↓reduceIte, reduceCtorEq, Int.reduceAdd, Int.reduceSub, Int.reduceMul, Int.reduceLT, Int.reduceLE, Int.reduceEq, Int.reduceNe, Int.reduceToNat, Int.reduceNeg, go_sem, r1, r3, r4, hg1, hlen, Try.results23]
    exact gc_here ⟨rfl, hA'⟩
  have e1 : ((i : Int) < S.vers.length) := by omega
  obtain ⟨V, hV⟩ : ∃ V, S.vers[i]? = some V := ⟨S.vers[i]'(by omega), List.getElem?_eq_getElem (by omega)⟩
  have hVb := hb V (List.mem_of_getElem? hV)
  have hstep := foldl_take fO s0 hV
  have hfV : ∀ s, fO s V = V.blocks.foldl stepI s := fun s => by rw [hfO]
  rw [hfV] at hstep
  have hsum := liveL_len (S.vers.take i) [] (fun V hV => hb V (List.mem_of_mem_take hV))
  have htl : (S.vers.take i).length ≤ 8 := by rw [List.length_take]; omega
  have hlive : (liveL (S.vers.take i)).length ≤ 8000 := by have : ([] : List HashT).length = 0 := rfl; unfold liveL; omega
  have iS : liveI A0 ((S.vers.take i).foldl fO s0) := (finv i).1
  generalize (S.vers.take i).foldl fO s0 = s at *
  simp (maxSteps := 1000000) (disch := (first | omega | (simp only [nx_alloc, nx_upd, len_cons, len_nil, List.length_set, List.length_map, List.length_append] <;> omega) | fail)) only [Nat.reduceAdd, Nat.reduceSub, Nat.reduceMul, Nat.reduceLT, Nat.reduceLeDiff, Nat.reduceEqDiff, ↓reduceIte, reduceCtorEq, Int.reduceAdd, Int.reduceSub, Int.reduceMul, Int.reduceLT, Int.reduceLE, Int.reduceEq, Int.reduceNe, Int.reduceToNat, Int.reduceNeg, go_sem, r1, r3, r4, hg1, hlen]
  refine aw_loop (fun k2 y A3 => ∃ (ρ : Nat → Value) (j : Nat), y = E 59 ρ [] ∧ k2 = V.blocks.length - j ∧ j ≤ V.blocks.length ∧ A3 = ((V.blocks.take j).foldl stepI s).1 ∧ ρ 3 = ((V.blocks.take j).foldl stepI s).2.1 ∧ ρ 1 = .pointer (some ⟨A.next, 0, none⟩) ∧ ρ 4 = .int .i64 i ∧ ρ 5 = .int .i64 j) V.blocks.length
    ⟨_, 0, rfl, rfl, Nat.zero_le _, hA', r3, r1, r4, rfl⟩ ?_
  clear r1 r3 r4 hg1 hlen
  rintro k2 y A3 ⟨ρ, j, rfl, hk2, hj, hA3, r3, r1, r4, r5⟩
  refine aw_of ?_
  have hjt : (V.blocks.take j).length ≤ 1000 := by rw [List.length_take]; omega
  obtain ⟨i3, hl3⟩ := foldI_ok (V.blocks.take j) iS (by rw [hlv]; omega)
  have hjl := addHs_len (V.blocks.take j) s.2.2
  rw [hlv] at hjl
  have o3 : Over A0 A3 := by rw [hA3]; exact i3.1
  have hg3 : A3.get A.next = _ := (o3.get _ (by omega)).trans g0
  have hlen3 := NV.lenU (e := 28) (hv.ge (o0.trans o3).ge).1
  obtain ⟨b, off, vc, q1, q2, q3, q4, cells, e', m, q5, q6, q7⟩ := (hv.ge (o0.trans o3).ge).1.at (P := Try.prog) (e := 28) Try.sz28 hV
  obtain ⟨p, q, w, rfl, hp3, _, _⟩ := q3
  have lq := ld_one q7 1 (by decide)
  simp only [List.getElem?_cons_zero, List.getElem?_cons_succ] at lq
  have hlenp := View.lenU (e := 62) hp3
  by_cases hjend : j = V.blocks.length
  · have e2 : ¬ ((j : Int) < V.blocks.length) := by omega
    rw [hjend, List.take_length] at hA3 r3
    simp (maxSteps := 1000000) (disch := (first | omega | (simp only [nx_alloc, nx_upd, len_cons, len_nil, List.length_set, List.length_map, List.length_append] <;> omega) | fail)) only [Nat.reduceAdd, Nat.reduceSub, Nat.reduceMul, Nat.reduceLT, Nat.reduceLeDiff, Nat.reduceEqDiff, ↓reduceIte, reduceCtorEq, Int.reduceAdd, Int.reduceSub, Int.reduceMul, Int.reduceLT, Int.reduceLE, Int.reduceEq, Int.reduceNe, Int.reduceToNat, Int.reduceNeg, go_sem, r1, r4, r5, hg3, q2, q5, lq, hlenp]
    refine ⟨k - 1, by omega, _, i + 1, rfl, by omega, by omega, by rw [hstep]; exact hA3, ?_, ?_, ?_⟩
    · simp (maxSteps := 1000000) (disch := (first | omega | (simp only [nx_alloc, nx_upd, len_cons, len_nil, List.length_set, List.length_map, List.length_append] <;> omega) | fail)) only [Nat.reduceAdd, Nat.reduceSub, Nat.reduceMul, Nat.reduceLT, Nat.reduceLeDiff, Nat.reduceEqDiff, ↓reduceIte, reduceCtorEq, Int.reduceAdd, Int.reduceSub, Int.reduceMul, Int.reduceLT, Int.reduceLE, Int.reduceEq, Int.reduceNe, Int.reduceToNat, Int.reduceNeg, go_sem, r1]
    · simp (maxSteps := 1000000) (disch := (first | omega | (simp only [nx_alloc, nx_upd, len_cons, len_nil, List.length_set, List.length_map, List.length_append] <;> omega) | fail)) only [Nat.reduceAdd, Nat.reduceSub, Nat.reduceMul, Nat.reduceLT, Nat.reduceLeDiff, Nat.reduceEqDiff, ↓reduceIte, reduceCtorEq, Int.reduceAdd, Int.reduceSub, Int.reduceMul, Int.reduceLT, Int.reduceLE, Int.reduceEq, Int.reduceNe, Int.reduceToNat, Int.reduceNeg, go_sem, r3]
      rw [hstep]
    · simp (maxSteps := 1000000) (disch := (first | omega | (simp only [nx_alloc, nx_upd, len_cons, len_nil, List.length_set, List.length_map, List.length_append] <;> omega) | fail)) only [Nat.reduceAdd, Nat.reduceSub, Nat.reduceMul, Nat.reduceLT, Nat.reduceLeDiff, Nat.reduceEqDiff, ↓reduceIte, reduceCtorEq, Int.reduceAdd, Int.reduceSub, Int.reduceMul, Int.reduceLT, Int.reduceLE, Int.reduceEq, Int.reduceNe, Int.reduceToNat, Int.reduceNeg, go_sem]
      rfl
  have e2 : ((j : Int) < V.blocks.length) := by omega
  obtain ⟨h, hh⟩ : ∃ h, V.blocks[j]? = some h := ⟨V.blocks[j]'(by omega), List.getElem?_eq_getElem (by omega)⟩
  have hst3 := foldl_take stepI s hh
  generalize (V.blocks.take j).foldl stepI s = s3 at *
  obtain ⟨sA, su3, sl3⟩ := s3
  simp only at hA3 r3 hl3
  subst hA3
  rw [hlv] at hl3
  obtain ⟨_, _, hadd, hnot⟩ := stepI_ok i3 (by show sl3.length ≤ _; rw [hl3]; omega) h
  obtain ⟨_, hrow3⟩ := i3
  simp only at hrow3 hadd hnot
  obtain ⟨xb, xo, x1, x2, x3, xcl, xe, xm, x4, x5, x6⟩ := View.at (P := Try.prog) (e := 62) hp3 Try.sz62 (i := j) (by omega)
  rw [hs_elem hh] at x6
  have hldx := ld_agg (e' := xe) (m := xm) x5 x6
  have st6 := stN (n := 32) (X := A3.alloc (.cells zH 62 (some 0))) (b := A3.next) (z := zH) (e := 62) rfl (hsC_len h) (hsC_cell' h)
  obtain ⟨A4, hA4⟩ : ∃ A4, A4 = (A3.alloc (.cells zH 62 (some 0))).upd A3.next (some (.cells (hsC h) 62 (some 0))) := ⟨_, rfl⟩
  have o4 : Over A3 A4 := hA4 ▸ ((Over.refl _).alloc _).upd (Nat.le_refl _) _
  have g6 : A4.get A3.next = some (.cells (hsC h) 62 (some 0)) := by rw [hA4, get_upd_same]
  have n4 : A4.next = A3.next + 1 := by rw [hA4]; rfl
  rw [← hA4] at hadd hnot
  unfold zH at st6 hA4
  have hld6 := ldN (e := 62) (m := some 0) (hsC_len h)
  have htk6 : (hsC h).take 32 = hsC h := List.take_of_length_le (by rw [hsC_len]; omega)
  have hrow4 : HsRow A4 A0.next sl3 su3 := Row.over hrow3 o4
  have hlu := View.lenU (e := 62) (Row.view hrow4)
  simp (maxSteps := 1000000) (disch := (first | omega | (simp only [nx_alloc, nx_upd, len_cons, len_nil, List.length_set, List.length_map, List.length_append] <;> omega) | fail)) only [Nat.reduceAdd, Nat.reduceSub, Nat.reduceMul, Nat.reduceLT, Nat.reduceLeDiff, Nat.reduceEqDiff, ↓reduceIte, reduceCtorEq, Int.reduceAdd, Int.reduceSub, Int.reduceMul, Int.reduceLT, Int.reduceLE, Int.reduceEq, Int.reduceNe, Int.reduceToNat, Int.reduceNeg, go_sem, r1, r3, r4, r5, hg3, q2, q5, lq, hlenp, x3, x4, hldx, st6]
  rw [← hA4]
  have hsl3 : sl3.length ≤ 1000000 := by rw [hl3]; omega
  refine aw_loop (fun k4 y A5 => ∃ (ρ : Nat → Value) (t : Nat), y = E 59 ρ [] ∧ k4 = sl3.length - t ∧ t ≤ sl3.length ∧ A5 = A4 ∧ ρ 7 = .bool (decide (h ∈ sl3.take t)) ∧ ρ 8 = .int .i64 t ∧ ρ 3 = su3 ∧ ρ 1 = .pointer (some ⟨A.next, 0, none⟩) ∧ ρ 4 = .int .i64 i ∧ ρ 5 = .int .i64 j ∧ ρ 6 = .pointer (some ⟨A3.next, 0, none⟩)) sl3.length
    ⟨_, 0, rfl, rfl, Nat.zero_le _, rfl, rfl, rfl, r3, r1, r4, r5, rfl⟩ ?_
  clear r1 r3 r4 r5 st6
  rintro k4 y A5 ⟨ρ, t, rfl, hk4, ht, rfl, r7, r8, r3, r1, r4, r5, r6⟩
  refine aw_of ?_
  by_cases htend : t = sl3.length
  rotate_left
  · have e3 : ((t : Int) < sl3.length) := by omega
    obtain ⟨y, hy⟩ : ∃ y, sl3[t]? = some y := ⟨_, List.getElem?_eq_getElem (by omega)⟩
    obtain ⟨yb, yo, y1, y2, y3, ycl, ye, ym, y4, y5, y6⟩ := View.at (P := Try.prog) (e := 62) (Row.view hrow4) Try.sz62 (i := t) (by omega)
    rw [hs_elem hy] at y6
    have hldy := ld_agg (e' := ye) (m := ym) y5 y6
    have htkt : sl3.take (t + 1) = sl3.take t ++ [y] := by rw [List.take_add_one, hy]; rfl
    by_cases hin : h ∈ sl3.take t
    · have hin' : h ∈ sl3.take (t + 1) := by rw [htkt]; exact List.mem_append_left _ hin
      simp (maxSteps := 1000000) (disch := (first | omega | (simp only [nx_alloc, nx_upd, len_cons, len_nil, List.length_set, List.length_map, List.length_append] <;> omega) | fail)) only [Nat.reduceAdd, Nat.reduceSub, Nat.reduceMul, Nat.reduceLT, Nat.reduceLeDiff, Nat.reduceEqDiff, ↓reduceIte, reduceCtorEq, Int.reduceAdd, Int.reduceSub, Int.reduceMul, Int.reduceLT, Int.reduceLE, Int.reduceEq, Int.reduceNe, Int.reduceToNat, Int.reduceNeg, go_sem, r3, r7, r8, hlu, hin]
      refine aw_draw2 [⟨false, [], [0]⟩, ⟨false, [0], [0]⟩, ⟨false, [0, 1], [0]⟩, ⟨false, [0, 1], [0]⟩, ⟨false, [0, 1, 2, 3], [0]⟩, ⟨false, [0, 1, 2, 3, 4], [0]⟩, ⟨false, [0, 1], [0]⟩, ⟨false, [0, 1, 2, 3, 4, 5, 6], [0]⟩, ⟨false, [0, 1, 2, 3, 4, 5, 6, 7], [0]⟩, ⟨false, [0, 1, 2, 3, 4, 5, 6, 7, 8], [0]⟩] [A5] 0 (by kernel_rfl) (by kernel_rfl) rfl ?_
      simp (maxSteps := 1000000) (disch := (first | omega | (simp only [nx_alloc, nx_upd, len_cons, len_nil, List.length_set, List.length_map, List.length_append] <;> omega) | fail)) only [Nat.reduceAdd, Nat.reduceSub, Nat.reduceMul, Nat.reduceLT, Nat.reduceLeDiff, Nat.reduceEqDiff, ↓reduceIte, reduceCtorEq, Int.reduceAdd, Int.reduceSub, Int.reduceMul, Int.reduceLT, Int.reduceLE, Int.reduceEq, Int.reduceNe, Int.reduceToNat, Int.reduceNeg, go_sem, r3, r6, r7, r8, hin]
      refine ⟨k4 - 1, by omega, _, t + 1, rfl, by omega, by omega, ?_, ?_, ?_, ?_, ?_, ?_, ?_⟩
      · simp (maxSteps := 1000000) (disch := (first | omega | (simp only [nx_alloc, nx_upd, len_cons, len_nil, List.length_set, List.length_map, List.length_append] <;> omega) | fail)) only [Nat.reduceAdd, Nat.reduceSub, Nat.reduceMul, Nat.reduceLT, Nat.reduceLeDiff, Nat.reduceEqDiff, ↓reduceIte, reduceCtorEq, Int.reduceAdd, Int.reduceSub, Int.reduceMul, Int.reduceLT, Int.reduceLE, Int.reduceEq, Int.reduceNe, Int.reduceToNat, Int.reduceNeg, go_sem, hin']
      · simp (maxSteps := 1000000) (disch := (first | omega | (simp only [nx_alloc, nx_upd, len_cons, len_nil, List.length_set, List.length_map, List.length_append] <;> omega) | fail)) only [Nat.reduceAdd, Nat.reduceSub, Nat.reduceMul, Nat.reduceLT, Nat.reduceLeDiff, Nat.reduceEqDiff, ↓reduceIte, reduceCtorEq, Int.reduceAdd, Int.reduceSub, Int.reduceMul, Int.reduceLT, Int.reduceLE, Int.reduceEq, Int.reduceNe, Int.reduceToNat, Int.reduceNeg, go_sem]
        rfl
      · simp (maxSteps := 1000000) (disch := (first | omega | (simp only [nx_alloc, nx_upd, len_cons, len_nil, List.length_set, List.length_map, List.length_append] <;> omega) | fail)) only [Nat.reduceAdd, Nat.reduceSub, Nat.reduceMul, Nat.reduceLT, Nat.reduceLeDiff, Nat.reduceEqDiff, ↓reduceIte, reduceCtorEq, Int.reduceAdd, Int.reduceSub, Int.reduceMul, Int.reduceLT, Int.reduceLE, Int.reduceEq, Int.reduceNe, Int.reduceToNat, Int.reduceNeg, go_sem, r3]
      · simp (maxSteps := 1000000) (disch := (first | omega | (simp only [nx_alloc, nx_upd, len_cons, len_nil, List.length_set, List.length_map, List.length_append] <;> omega) | fail)) only [Nat.reduceAdd, Nat.reduceSub, Nat.reduceMul, Nat.reduceLT, Nat.reduceLeDiff, Nat.reduceEqDiff, ↓reduceIte, reduceCtorEq, Int.reduceAdd, Int.reduceSub, Int.reduceMul, Int.reduceLT, Int.reduceLE, Int.reduceEq, Int.reduceNe, Int.reduceToNat, Int.reduceNeg, go_sem, r1]
      · simp (maxSteps := 1000000) (disch := (first | omega | (simp only [nx_alloc, nx_upd, len_cons, len_nil, List.length_set, List.length_map, List.length_append] <;> omega) | fail)) only [Nat.reduceAdd, Nat.reduceSub, Nat.reduceMul, Nat.reduceLT, Nat.reduceLeDiff, Nat.reduceEqDiff, ↓reduceIte, reduceCtorEq, Int.reduceAdd, Int.reduceSub, Int.reduceMul, Int.reduceLT, Int.reduceLE, Int.reduceEq, Int.reduceNe, Int.reduceToNat, Int.reduceNeg, go_sem, r4]
      · simp (maxSteps := 1000000) (disch := (first | omega | (simp only [nx_alloc, nx_upd, len_cons, len_nil, List.length_set, List.length_map, List.length_append] <;> omega) | fail)) only [Nat.reduceAdd, Nat.reduceSub, Nat.reduceMul, Nat.reduceLT, Nat.reduceLeDiff, Nat.reduceEqDiff, ↓reduceIte, reduceCtorEq, Int.reduceAdd, Int.reduceSub, Int.reduceMul, Int.reduceLT, Int.reduceLE, Int.reduceEq, Int.reduceNe, Int.reduceToNat, Int.reduceNeg, go_sem, r5]
      · simp (maxSteps := 1000000) (disch := (first | omega | (simp only [nx_alloc, nx_upd, len_cons, len_nil, List.length_set, List.length_map, List.length_append] <;> omega) | fail)) only [Nat.reduceAdd, Nat.reduceSub, Nat.reduceMul, Nat.reduceLT, Nat.reduceLeDiff, Nat.reduceEqDiff, ↓reduceIte, reduceCtorEq, Int.reduceAdd, Int.reduceSub, Int.reduceMul, Int.reduceLT, Int.reduceLE, Int.reduceEq, Int.reduceNe, Int.reduceToNat, Int.reduceNeg, go_sem, r6]
    · simp (maxSteps := 1000000) (disch := (first | omega | (simp only [nx_alloc, nx_upd, len_cons, len_nil, List.length_set, List.length_map, List.length_append] <;> omega) | fail)) only [Nat.reduceAdd, Nat.reduceSub, Nat.reduceMul, Nat.reduceLT, Nat.reduceLeDiff, Nat.reduceEqDiff, ↓reduceIte, reduceCtorEq, Int.reduceAdd, Int.reduceSub, Int.reduceMul, Int.reduceLT, Int.reduceLE, Int.reduceEq, Int.reduceNe, Int.reduceToNat, Int.reduceNeg, go_sem, r3, r7, r8, hlu, hin]
      refine aw_draw2 [⟨false, [], [0]⟩, ⟨false, [0], [0]⟩, ⟨false, [0, 1], [0]⟩, ⟨false, [0, 1], [0]⟩, ⟨false, [0, 1, 2, 3], [0]⟩, ⟨false, [0, 1, 2, 3, 4], [0]⟩, ⟨false, [0, 1], [0]⟩, ⟨false, [0, 1, 2, 3, 4, 5, 6], [0]⟩, ⟨false, [0, 1, 2, 3, 4, 5, 6, 7], [0]⟩, ⟨false, [0, 1, 2, 3, 4, 5, 6, 7, 8], [0]⟩] [A5] 0 (by kernel_rfl) (by kernel_rfl) rfl ?_
      simp (maxSteps := 1000000) (disch := (first | omega | (simp only [nx_alloc, nx_upd, len_cons, len_nil, List.length_set, List.length_map, List.length_append] <;> omega) | fail)) only [Nat.reduceAdd, Nat.reduceSub, Nat.reduceMul, Nat.reduceLT, Nat.reduceLeDiff, Nat.reduceEqDiff, ↓reduceIte, reduceCtorEq, Int.reduceAdd, Int.reduceSub, Int.reduceMul, Int.reduceLT, Int.reduceLE, Int.reduceEq, Int.reduceNe, Int.reduceToNat, Int.reduceNeg, go_sem, r3, r6, r7, r8, hin, y3, y4, hldy, g6, hld6, htk6, hsq_eql]
      refine ⟨k4 - 1, by omega, _, t + 1, rfl, by omega, by omega, ?_, ?_, ?_, ?_, ?_, ?_, ?_⟩
      · simp (maxSteps := 1000000) (disch := (first | omega | (simp only [nx_alloc, nx_upd, len_cons, len_nil, List.length_set, List.length_map, List.length_append] <;> omega) | fail)) only [Nat.reduceAdd, Nat.reduceSub, Nat.reduceMul, Nat.reduceLT, Nat.reduceLeDiff, Nat.reduceEqDiff, ↓reduceIte, reduceCtorEq, Int.reduceAdd, Int.reduceSub, Int.reduceMul, Int.reduceLT, Int.reduceLE, Int.reduceEq, Int.reduceNe, Int.reduceToNat, Int.reduceNeg, go_sem]
        rw [htkt]
        exact congrArg Value.bool (decide_eq_decide.2 (by simp [hin, eq_comm]))
      · simp (maxSteps := 1000000) (disch := (first | omega | (simp only [nx_alloc, nx_upd, len_cons, len_nil, List.length_set, List.length_map, List.length_append] <;> omega) | fail)) only [Nat.reduceAdd, Nat.reduceSub, Nat.reduceMul, Nat.reduceLT, Nat.reduceLeDiff, Nat.reduceEqDiff, ↓reduceIte, reduceCtorEq, Int.reduceAdd, Int.reduceSub, Int.reduceMul, Int.reduceLT, Int.reduceLE, Int.reduceEq, Int.reduceNe, Int.reduceToNat, Int.reduceNeg, go_sem]
        rfl
      · simp (maxSteps := 1000000) (disch := (first | omega | (simp only [nx_alloc, nx_upd, len_cons, len_nil, List.length_set, List.length_map, List.length_append] <;> omega) | fail)) only [Nat.reduceAdd, Nat.reduceSub, Nat.reduceMul, Nat.reduceLT, Nat.reduceLeDiff, Nat.reduceEqDiff, ↓reduceIte, reduceCtorEq, Int.reduceAdd, Int.reduceSub, Int.reduceMul, Int.reduceLT, Int.reduceLE, Int.reduceEq, Int.reduceNe, Int.reduceToNat, Int.reduceNeg, go_sem, r3]
      · simp (maxSteps := 1000000) (disch := (first | omega | (simp only [nx_alloc, nx_upd, len_cons, len_nil, List.length_set, List.length_map, List.length_append] <;> omega) | fail)) only [Nat.reduceAdd, Nat.reduceSub, Nat.reduceMul, Nat.reduceLT, Nat.reduceLeDiff, Nat.reduceEqDiff, ↓reduceIte, reduceCtorEq, Int.reduceAdd, Int.reduceSub, Int.reduceMul, Int.reduceLT, Int.reduceLE, Int.reduceEq, Int.reduceNe, Int.reduceToNat, Int.reduceNeg, go_sem, r1]
      · simp (maxSteps := 1000000) (disch := (first | omega | (simp only [nx_alloc, nx_upd, len_cons, len_nil, List.length_set, List.length_map, List.length_append] <;> omega) | fail)) only [Nat.reduceAdd, Nat.reduceSub, Nat.reduceMul, Nat.reduceLT, Nat.reduceLeDiff, Nat.reduceEqDiff, ↓reduceIte, reduceCtorEq, Int.reduceAdd, Int.reduceSub, Int.reduceMul, Int.reduceLT, Int.reduceLE, Int.reduceEq, Int.reduceNe, Int.reduceToNat, Int.reduceNeg, go_sem, r4]
      · simp (maxSteps := 1000000) (disch := (first | omega | (simp only [nx_alloc, nx_upd, len_cons, len_nil, List.length_set, List.length_map, List.length_append] <;> omega) | fail)) only [Nat.reduceAdd, Nat.reduceSub, Nat.reduceMul, Nat.reduceLT, Nat.reduceLeDiff, Nat.reduceEqDiff, ↓reduceIte, reduceCtorEq, Int.reduceAdd, Int.reduceSub, Int.reduceMul, Int.reduceLT, Int.reduceLE, Int.reduceEq, Int.reduceNe, Int.reduceToNat, Int.reduceNeg, go_sem, r5]
      · simp (maxSteps := 1000000) (disch := (first | omega | (simp only [nx_alloc, nx_upd, len_cons, len_nil, List.length_set, List.length_map, List.length_append] <;> omega) | fail)) only [Nat.reduceAdd, Nat.reduceSub, Nat.reduceMul, Nat.reduceLT, Nat.reduceLeDiff, Nat.reduceEqDiff, ↓reduceIte, reduceCtorEq, Int.reduceAdd, Int.reduceSub, Int.reduceMul, Int.reduceLT, Int.reduceLE, Int.reduceEq, Int.reduceNe, Int.reduceToNat, Int.reduceNeg, go_sem, r6]
  have e3 : ¬ ((t : Int) < sl3.length) := by omega
  rw [htend, List.take_length] at r7
  by_cases hin : h ∈ sl3
  · have hst4 := hst3.trans (hadd hin)
    simp (maxSteps := 1000000) (disch := (first | omega | (simp only [nx_alloc, nx_upd, len_cons, len_nil, List.length_set, List.length_map, List.length_append] <;> omega) | fail)) only [Nat.reduceAdd, Nat.reduceSub, Nat.reduceMul, Nat.reduceLT, Nat.reduceLeDiff, Nat.reduceEqDiff, ↓reduceIte, reduceCtorEq, Int.reduceAdd, Int.reduceSub, Int.reduceMul, Int.reduceLT, Int.reduceLE, Int.reduceEq, Int.reduceNe, Int.reduceToNat, Int.reduceNeg, go_sem, r3, r5, r7, r8, hlu, hin]
    refine ⟨k2 - 1, by omega, _, j + 1, rfl, by omega, by omega, by rw [hst4], ?_, ?_, ?_, ?_⟩
    · simp (maxSteps := 1000000) (disch := (first | omega | (simp only [nx_alloc, nx_upd, len_cons, len_nil, List.length_set, List.length_map, List.length_append] <;> omega) | fail)) only [Nat.reduceAdd, Nat.reduceSub, Nat.reduceMul, Nat.reduceLT, Nat.reduceLeDiff, Nat.reduceEqDiff, ↓reduceIte, reduceCtorEq, Int.reduceAdd, Int.reduceSub, Int.reduceMul, Int.reduceLT, Int.reduceLE, Int.reduceEq, Int.reduceNe, Int.reduceToNat, Int.reduceNeg, go_sem, r3]
      rw [hst4]
    · simp (maxSteps := 1000000) (disch := (first | omega | (simp only [nx_alloc, nx_upd, len_cons, len_nil, List.length_set, List.length_map, List.length_append] <;> omega) | fail)) only [Nat.reduceAdd, Nat.reduceSub, Nat.reduceMul, Nat.reduceLT, Nat.reduceLeDiff, Nat.reduceEqDiff, ↓reduceIte, reduceCtorEq, Int.reduceAdd, Int.reduceSub, Int.reduceMul, Int.reduceLT, Int.reduceLE, Int.reduceEq, Int.reduceNe, Int.reduceToNat, Int.reduceNeg, go_sem, r1]
    · simp (maxSteps := 1000000) (disch := (first | omega | (simp only [nx_alloc, nx_upd, len_cons, len_nil, List.length_set, List.length_map, List.length_append] <;> omega) | fail)) only [Nat.reduceAdd, Nat.reduceSub, Nat.reduceMul, Nat.reduceLT, Nat.reduceLeDiff, Nat.reduceEqDiff, ↓reduceIte, reduceCtorEq, Int.reduceAdd, Int.reduceSub, Int.reduceMul, Int.reduceLT, Int.reduceLE, Int.reduceEq, Int.reduceNe, Int.reduceToNat, Int.reduceNeg, go_sem, r4]
    · simp (maxSteps := 1000000) (disch := (first | omega | (simp only [nx_alloc, nx_upd, len_cons, len_nil, List.length_set, List.length_map, List.length_append] <;> omega) | fail)) only [Nat.reduceAdd, Nat.reduceSub, Nat.reduceMul, Nat.reduceLT, Nat.reduceLeDiff, Nat.reduceEqDiff, ↓reduceIte, reduceCtorEq, Int.reduceAdd, Int.reduceSub, Int.reduceMul, Int.reduceLT, Int.reduceLE, Int.reduceEq, Int.reduceNe, Int.reduceToNat, Int.reduceNeg, go_sem]
      rfl
  · have hpush := hnot hin
    rw [← n4] at hpush
    have hset := set_all [.int .u8 0, .int .u8 0, .int .u8 0, .int .u8 0, .int .u8 0, .int .u8 0, .int .u8 0, .int .u8 0, .int .u8 0, .int .u8 0, .int .u8 0, .int .u8 0, .int .u8 0, .int .u8 0, .int .u8 0, .int .u8 0, .int .u8 0, .int .u8 0, .int .u8 0, .int .u8 0, .int .u8 0, .int .u8 0, .int .u8 0, .int .u8 0, .int .u8 0, .int .u8 0, .int .u8 0, .int .u8 0, .int .u8 0, .int .u8 0, .int .u8 0, .int .u8 0] (hsC h) (by rw [hsC_len]; rfl)
    have hlen32 := hsC_len h
    simp (maxSteps := 1000000) (disch := (first | omega | (simp only [nx_alloc, nx_upd, len_cons, len_nil, List.length_set, List.length_map, List.length_append] <;> omega) | fail)) only [Nat.reduceAdd, Nat.reduceSub, Nat.reduceMul, Nat.reduceLT, Nat.reduceLeDiff, Nat.reduceEqDiff, ↓reduceIte, reduceCtorEq, Int.reduceAdd, Int.reduceSub, Int.reduceMul, Int.reduceLT, Int.reduceLE, Int.reduceEq, Int.reduceNe, Int.reduceToNat, Int.reduceNeg, go_sem, r3, r5, r6, r7, r8, hlu, hin, g6, hld6, htk6, hset]
    rw [hpush]
    simp (maxSteps := 1000000) (disch := (first | omega | (simp only [nx_alloc, nx_upd, len_cons, len_nil, List.length_set, List.length_map, List.length_append] <;> omega) | fail)) only [Nat.reduceAdd, Nat.reduceSub, Nat.reduceMul, Nat.reduceLT, Nat.reduceLeDiff, Nat.reduceEqDiff, ↓reduceIte, reduceCtorEq, Int.reduceAdd, Int.reduceSub, Int.reduceMul, Int.reduceLT, Int.reduceLE, Int.reduceEq, Int.reduceNe, Int.reduceToNat, Int.reduceNeg, go_sem, r5]
    refine ⟨k2 - 1, by omega, _, j + 1, rfl, by omega, by omega, by rw [hst3], ?_, ?_, ?_, ?_⟩
    · simp (maxSteps := 1000000) (disch := (first | omega | (simp only [nx_alloc, nx_upd, len_cons, len_nil, List.length_set, List.length_map, List.length_append] <;> omega) | fail)) only [Nat.reduceAdd, Nat.reduceSub, Nat.reduceMul, Nat.reduceLT, Nat.reduceLeDiff, Nat.reduceEqDiff, ↓reduceIte, reduceCtorEq, Int.reduceAdd, Int.reduceSub, Int.reduceMul, Int.reduceLT, Int.reduceLE, Int.reduceEq, Int.reduceNe, Int.reduceToNat, Int.reduceNeg, go_sem]
      rw [hst3]
    · simp (maxSteps := 1000000) (disch := (first | omega | (simp only [nx_alloc, nx_upd, len_cons, len_nil, List.length_set, List.length_map, List.length_append] <;> omega) | fail)) only [Nat.reduceAdd, Nat.reduceSub, Nat.reduceMul, Nat.reduceLT, Nat.reduceLeDiff, Nat.reduceEqDiff, ↓reduceIte, reduceCtorEq, Int.reduceAdd, Int.reduceSub, Int.reduceMul, Int.reduceLT, Int.reduceLE, Int.reduceEq, Int.reduceNe, Int.reduceToNat, Int.reduceNeg, go_sem, r1]
    · simp (maxSteps := 1000000) (disch := (first | omega | (simp only [nx_alloc, nx_upd, len_cons, len_nil, List.length_set, List.length_map, List.length_append] <;> omega) | fail)) only [Nat.reduceAdd, Nat.reduceSub, Nat.reduceMul, Nat.reduceLT, Nat.reduceLeDiff, Nat.reduceEqDiff, ↓reduceIte, reduceCtorEq, Int.reduceAdd, Int.reduceSub, Int.reduceMul, Int.reduceLT, Int.reduceLE, Int.reduceEq, Int.reduceNe, Int.reduceToNat, Int.reduceNeg, go_sem, r4]
    · simp (maxSteps := 1000000) (disch := (first | omega | (simp only [nx_alloc, nx_upd, len_cons, len_nil, List.length_set, List.length_map, List.length_append] <;> omega) | fail)) only [Nat.reduceAdd, Nat.reduceSub, Nat.reduceMul, Nat.reduceLT, Nat.reduceLeDiff, Nat.reduceEqDiff, ↓reduceIte, reduceCtorEq, Int.reduceAdd, Int.reduceSub, Int.reduceMul, Int.reduceLT, Int.reduceLE, Int.reduceEq, Int.reduceNe, Int.reduceToNat, Int.reduceNeg, go_sem]
      rfl
end Go.Fw
