import Derived.Test.YtfmbflmknjlefaaFwHeader5
set_option linter.unusedSimpArgs false
set_option linter.unusedVariables false
set_option maxRecDepth 4000
namespace Go.Fw
open Go.Proofs Go.RowKit
theorem Try.enters87 : Enters Try.prog 87 := enters_of Try.func87 rfl (by kernel_rfl)
theorem Try.enters88 : Enters Try.prog 88 := enters_of Try.func88 rfl (by kernel_rfl)
theorem Try.enters89 : Enters Try.prog 89 := enters_of Try.func89 rfl (by kernel_rfl)
theorem Try.enters70 : Enters Try.prog 70 := enters_of Try.func70 rfl (by kernel_rfl)
theorem Try.enters30 : Enters Try.prog 30 := enters_of Try.func30 rfl (by kernel_rfl)
theorem Try.guardHs : Try.prog.eqGuardType Try.prog.depth 43 = false := by kernel_rfl
theorem hs_eq (a b : HashT) : aeqIn Try.prog 5 43 (.agg (hsC a).toArray) (.agg (hsC b).toArray) = some (decide (a = b)) := by
  have ha := hsC_len a
  have hb := hsC_len b
  have ia : intsOf .u8 (hsC a) = some a.1 := intsOf_ints a.1
  have ib : intsOf .u8 (hsC b) = some b.1 := intsOf_ints b.1
  simp only [aeqIn, Try.underlying43, Try.underlying5, Try.sz5, List.size_toArray, List.toList_toArray, ha, hb, ia, ib]
  rw [if_pos (by simp)]
  congr 1
  rw [Bool.eq_iff_iff, decide_eq_true_iff, beq_iff_eq]
  exact ⟨fun h => Subtype.ext h, fun h => by rw [h]⟩
theorem hs_neq (x y : Operand) (a b : HashT) : abin Try.prog .neq 43 x y (.agg (hsC a).toArray) (.agg (hsC b).toArray) = some (.bool (!decide (a = b))) := by
  unfold abin
  simp only [Try.guardHs, Bool.false_eq_true, if_false, hs_eq, Option.map_some]
set_option maxHeartbeats 2000000 in
theorem equalH_ok (w0 : World) (A : St) (l m : List HashT) (v u : Value) (hv : HsView A l v) (hu : HsView A m u) (hl : l.length ≤ 1073741824) (hm : m.length ≤ 1073741824) : ACalls Try.prog w0 87 #[v, u] A (fin (.bool (decide (l = m))) A) := by
  refine call_E Try.enters87 Try.func87 rfl (Nat.le_of_ble_eq_true rfl) fun hw hbd => ?_
  have hlen := View.lenU (e := 43) hv
  have hlen2 := View.lenU (e := 43) hu
  by_cases hne : l.length = m.length
  rotate_left
  · have hne' : ¬ ((l.length : Int) = m.length) := by omega
    simp (maxSteps := 1000000) (disch := (first | omega | (simp only [nx_alloc, nx_upd, len_cons, len_nil, List.length_set, List.length_map, List.length_append] <;> omega) | fail)) only [go_sem, Try.ntmps87, Try.results87, hlen, hlen2]
    exact gc_fin' hw (Over.refl _) (congrArg Value.bool (decide_eq_false (fun h => hne (by rw [h]))).symm) (.bool _)
  have hne' : ((l.length : Int) = m.length) := by omega
  simp (maxSteps := 1000000) (disch := (first | omega | (simp only [nx_alloc, nx_upd, len_cons, len_nil, List.length_set, List.length_map, List.length_append] <;> omega) | fail)) only [go_sem, Try.ntmps87, Try.results87, hlen, hlen2]
  refine aw_loop (fun k x A' => ∃ (ρ : Nat → Value) (i : Nat), x = E 26 ρ [] ∧ A' = A ∧ k = l.length - i ∧ i ≤ l.length ∧ l.take i = m.take i ∧ ρ 0 = v ∧ ρ 1 = u ∧ ρ 12 = .int .i64 l.length ∧ ρ 13 = .int .i64 i) l.length
    ⟨_, 0, rfl, rfl, rfl, Nat.zero_le _, by simp, rfl, rfl, by first | rfl | (show Value.int .i64 (m.length : Nat) = _; rw [hne]), rfl⟩ ?_
  rintro k x A' ⟨ρ, i, rfl, rfl, hk, hi, he, g0, g1, g12, g13⟩
  refine aw_of ?_
  by_cases hend : i = l.length
  · have e1 : ¬ ((i : Int) < l.length) := by omega
    simp (maxSteps := 1000000) (disch := (first | omega | (simp only [nx_alloc, nx_upd, len_cons, len_nil, List.length_set, List.length_map, List.length_append] <;> omega) | fail)) only [go_sem, g0, g1, g12, g13, Try.results87]
    refine gc_fin' hw (Over.refl _) (congrArg Value.bool (decide_eq_true ?_).symm) (.bool _)
    rw [hend, List.take_length, hne, List.take_length] at he; exact he
  have e1 : ((i : Int) < l.length) := by omega
  obtain ⟨t, ht⟩ : ∃ t, l[i]? = some t := ⟨l[i]'(by omega), List.getElem?_eq_getElem (by omega)⟩
  obtain ⟨t', ht'⟩ : ∃ t, m[i]? = some t := ⟨m[i]'(by omega), List.getElem?_eq_getElem (by omega)⟩
  obtain ⟨hb, ho, hcells, he', hm, h1, h2, h3, h4, h5, h6⟩ := View.en (P := Try.prog) (e := 43) hv hsC_len Try.sz43 ht
  obtain ⟨qb, qo, qcells, qe', qm, q1, q2, q3, q4, q5, q6⟩ := View.en (P := Try.prog) (e := 43) hu hsC_len Try.sz43 ht'
  simp (maxSteps := 1000000) (disch := (first | omega | (simp only [nx_alloc, nx_upd, len_cons, len_nil, List.length_set, List.length_map, List.length_append] <;> omega) | fail)) only [go_sem, g0, g1, g12, g13]
  refine aw_draw (by kernel_rfl) ?_
  by_cases htt : t = t'
  · simp (maxSteps := 1000000) (disch := (first | omega | (simp only [nx_alloc, nx_upd, len_cons, len_nil, List.length_set, List.length_map, List.length_append] <;> omega) | fail)) only [go_sem, g0, g1, g13, h3, h4, h5, q3, q4, q5, hs_neq, htt]
    refine ⟨k - 1, by omega, _, i + 1, rfl, by omega, by omega, ?_, ?_, ?_, ?_, ?_⟩
    · rw [List.take_add_one, List.take_add_one, he, ht, ht', htt]
    · simp (maxSteps := 1000000) (disch := (first | omega | (simp only [nx_alloc, nx_upd, len_cons, len_nil, List.length_set, List.length_map, List.length_append] <;> omega) | fail)) only [go_sem, g0]
    · simp (maxSteps := 1000000) (disch := (first | omega | (simp only [nx_alloc, nx_upd, len_cons, len_nil, List.length_set, List.length_map, List.length_append] <;> omega) | fail)) only [go_sem, g1]
    · simp (maxSteps := 1000000) (disch := (first | omega | (simp only [nx_alloc, nx_upd, len_cons, len_nil, List.length_set, List.length_map, List.length_append] <;> omega) | fail)) only [go_sem, g12]
    · simp (maxSteps := 1000000) (disch := (first | omega | (simp only [nx_alloc, nx_upd, len_cons, len_nil, List.length_set, List.length_map, List.length_append] <;> omega) | fail)) only [go_sem, g13]
      rfl
  · simp (maxSteps := 1000000) (disch := (first | omega | (simp only [nx_alloc, nx_upd, len_cons, len_nil, List.length_set, List.length_map, List.length_append] <;> omega) | fail)) only [go_sem, g0, g1, g13, h3, h4, h5, q3, q4, q5, hs_neq, htt, Try.results87]
    refine gc_fin' hw (Over.refl _) (congrArg Value.bool (decide_eq_false ?_).symm) (.bool _)
    intro h
    rw [h, ht'] at ht
    cases ht; exact htt rfl
set_option maxHeartbeats 2000000 in
theorem equalS_ok (w0 : World) (A : St) (l m : List ByteArray) (v u : Value) (hv : StView A l v) (hu : StView A m u) (hl : l.length ≤ 1073741824) (hm : m.length ≤ 1073741824) : ACalls Try.prog w0 88 #[v, u] A (fin (.bool (decide (l = m))) A) := by
  refine call_E Try.enters88 Try.func88 rfl (Nat.le_of_ble_eq_true rfl) fun hw hbd => ?_
  have hlen := View.lenU (e := 9) hv
  have hlen2 := View.lenU (e := 9) hu
  by_cases hne : l.length = m.length
  rotate_left
  · have hne' : ¬ ((l.length : Int) = m.length) := by omega
    simp (maxSteps := 1000000) (disch := (first | omega | (simp only [nx_alloc, nx_upd, len_cons, len_nil, List.length_set, List.length_map, List.length_append] <;> omega) | fail)) only [go_sem, Try.ntmps88, Try.results88, hlen, hlen2]
    exact gc_fin' hw (Over.refl _) (congrArg Value.bool (decide_eq_false (fun h => hne (by rw [h]))).symm) (.bool _)
  have hne' : ((l.length : Int) = m.length) := by omega
  simp (maxSteps := 1000000) (disch := (first | omega | (simp only [nx_alloc, nx_upd, len_cons, len_nil, List.length_set, List.length_map, List.length_append] <;> omega) | fail)) only [go_sem, Try.ntmps88, Try.results88, hlen, hlen2]
  refine aw_loop (fun k x A' => ∃ (ρ : Nat → Value) (i : Nat), x = E 26 ρ [] ∧ A' = A ∧ k = l.length - i ∧ i ≤ l.length ∧ l.take i = m.take i ∧ ρ 0 = v ∧ ρ 1 = u ∧ ρ 12 = .int .i64 l.length ∧ ρ 13 = .int .i64 i) l.length
    ⟨_, 0, rfl, rfl, rfl, Nat.zero_le _, by simp, rfl, rfl, by first | rfl | (show Value.int .i64 (m.length : Nat) = _; rw [hne]), rfl⟩ ?_
  rintro k x A' ⟨ρ, i, rfl, rfl, hk, hi, he, g0, g1, g12, g13⟩
  refine aw_of ?_
  by_cases hend : i = l.length
  · have e1 : ¬ ((i : Int) < l.length) := by omega
    simp (maxSteps := 1000000) (disch := (first | omega | (simp only [nx_alloc, nx_upd, len_cons, len_nil, List.length_set, List.length_map, List.length_append] <;> omega) | fail)) only [go_sem, g0, g1, g12, g13, Try.results88]
    refine gc_fin' hw (Over.refl _) (congrArg Value.bool (decide_eq_true ?_).symm) (.bool _)
    rw [hend, List.take_length, hne, List.take_length] at he; exact he
  have e1 : ((i : Int) < l.length) := by omega
  obtain ⟨t, ht⟩ : ∃ t, l[i]? = some t := ⟨l[i]'(by omega), List.getElem?_eq_getElem (by omega)⟩
  obtain ⟨t', ht'⟩ : ∃ t, m[i]? = some t := ⟨m[i]'(by omega), List.getElem?_eq_getElem (by omega)⟩
  obtain ⟨hb, ho, h1, h2, h3, hcells, he', hm, h4, h5⟩ := View.at1 (P := Try.prog) (e := 9) hv Try.sz9 (strE_at l i t ht)
  obtain ⟨qb, qo, q1, q2, q3, qcells, qe', qm, q4, q5⟩ := View.at1 (P := Try.prog) (e := 9) hu Try.sz9 (strE_at m i t' ht')
  simp (maxSteps := 1000000) (disch := (first | omega | (simp only [nx_alloc, nx_upd, len_cons, len_nil, List.length_set, List.length_map, List.length_append] <;> omega) | fail)) only [go_sem, g0, g1, g12, g13]
  refine aw_draw (by kernel_rfl) ?_
  by_cases htt : t = t'
  · simp (maxSteps := 1000000) (disch := (first | omega | (simp only [nx_alloc, nx_upd, len_cons, len_nil, List.length_set, List.length_map, List.length_append] <;> omega) | fail)) only [go_sem, g0, g1, g13, h3, h4, h5, q3, q4, q5, beqBytes, htt]
    refine ⟨k - 1, by omega, _, i + 1, rfl, by omega, by omega, ?_, ?_, ?_, ?_, ?_⟩
    · rw [List.take_add_one, List.take_add_one, he, ht, ht', htt]
    · simp (maxSteps := 1000000) (disch := (first | omega | (simp only [nx_alloc, nx_upd, len_cons, len_nil, List.length_set, List.length_map, List.length_append] <;> omega) | fail)) only [go_sem, g0]
    · simp (maxSteps := 1000000) (disch := (first | omega | (simp only [nx_alloc, nx_upd, len_cons, len_nil, List.length_set, List.length_map, List.length_append] <;> omega) | fail)) only [go_sem, g1]
    · simp (maxSteps := 1000000) (disch := (first | omega | (simp only [nx_alloc, nx_upd, len_cons, len_nil, List.length_set, List.length_map, List.length_append] <;> omega) | fail)) only [go_sem, g12]
    · simp (maxSteps := 1000000) (disch := (first | omega | (simp only [nx_alloc, nx_upd, len_cons, len_nil, List.length_set, List.length_map, List.length_append] <;> omega) | fail)) only [go_sem, g13]
      rfl
  · simp (maxSteps := 1000000) (disch := (first | omega | (simp only [nx_alloc, nx_upd, len_cons, len_nil, List.length_set, List.length_map, List.length_append] <;> omega) | fail)) only [go_sem, g0, g1, g13, h3, h4, h5, q3, q4, q5, beqBytes, htt, Try.results88]
    refine gc_fin' hw (Over.refl _) (congrArg Value.bool (decide_eq_false ?_).symm) (.bool _)
    intro h
    rw [h, ht'] at ht
    cases ht; exact htt rfl
set_option maxHeartbeats 2000000 in
theorem equalI_ok (w0 : World) (A : St) (l m : List Int) (v u : Value) (hv : InView A l v) (hu : InView A m u) (hl : l.length ≤ 1073741824) (hm : m.length ≤ 1073741824) : ACalls Try.prog w0 89 #[v, u] A (fin (.bool (decide (l = m))) A) := by
  refine call_E Try.enters89 Try.func89 rfl (Nat.le_of_ble_eq_true rfl) fun hw hbd => ?_
  have hlen := View.lenU (e := 3) hv
  have hlen2 := View.lenU (e := 3) hu
  by_cases hne : l.length = m.length
  rotate_left
  · have hne' : ¬ ((l.length : Int) = m.length) := by omega
    simp (maxSteps := 1000000) (disch := (first | omega | (simp only [nx_alloc, nx_upd, len_cons, len_nil, List.length_set, List.length_map, List.length_append] <;> omega) | fail)) only [go_sem, Try.ntmps89, Try.results89, hlen, hlen2]
    exact gc_fin' hw (Over.refl _) (congrArg Value.bool (decide_eq_false (fun h => hne (by rw [h]))).symm) (.bool _)
  have hne' : ((l.length : Int) = m.length) := by omega
  simp (maxSteps := 1000000) (disch := (first | omega | (simp only [nx_alloc, nx_upd, len_cons, len_nil, List.length_set, List.length_map, List.length_append] <;> omega) | fail)) only [go_sem, Try.ntmps89, Try.results89, hlen, hlen2]
  refine aw_loop (fun k x A' => ∃ (ρ : Nat → Value) (i : Nat), x = E 26 ρ [] ∧ A' = A ∧ k = l.length - i ∧ i ≤ l.length ∧ l.take i = m.take i ∧ ρ 0 = v ∧ ρ 1 = u ∧ ρ 12 = .int .i64 l.length ∧ ρ 13 = .int .i64 i) l.length
    ⟨_, 0, rfl, rfl, rfl, Nat.zero_le _, by simp, rfl, rfl, by first | rfl | (show Value.int .i64 (m.length : Nat) = _; rw [hne]), rfl⟩ ?_
  rintro k x A' ⟨ρ, i, rfl, rfl, hk, hi, he, g0, g1, g12, g13⟩
  refine aw_of ?_
  by_cases hend : i = l.length
  · have e1 : ¬ ((i : Int) < l.length) := by omega
    simp (maxSteps := 1000000) (disch := (first | omega | (simp only [nx_alloc, nx_upd, len_cons, len_nil, List.length_set, List.length_map, List.length_append] <;> omega) | fail)) only [go_sem, g0, g1, g12, g13, Try.results89]
    refine gc_fin' hw (Over.refl _) (congrArg Value.bool (decide_eq_true ?_).symm) (.bool _)
    rw [hend, List.take_length, hne, List.take_length] at he; exact he
  have e1 : ((i : Int) < l.length) := by omega
  obtain ⟨t, ht⟩ : ∃ t, l[i]? = some t := ⟨l[i]'(by omega), List.getElem?_eq_getElem (by omega)⟩
  obtain ⟨t', ht'⟩ : ∃ t, m[i]? = some t := ⟨m[i]'(by omega), List.getElem?_eq_getElem (by omega)⟩
  obtain ⟨hb, ho, h1, h2, h3, hcells, he', hm, h4, h5⟩ := View.at1 (P := Try.prog) (e := 3) hv Try.sz3 (i64E_at l i t ht)
  obtain ⟨qb, qo, q1, q2, q3, qcells, qe', qm, q4, q5⟩ := View.at1 (P := Try.prog) (e := 3) hu Try.sz3 (i64E_at m i t' ht')
  simp (maxSteps := 1000000) (disch := (first | omega | (simp only [nx_alloc, nx_upd, len_cons, len_nil, List.length_set, List.length_map, List.length_append] <;> omega) | fail)) only [go_sem, g0, g1, g12, g13]
  refine aw_draw (by kernel_rfl) ?_
  by_cases htt : t = t'
  · simp (maxSteps := 1000000) (disch := (first | omega | (simp only [nx_alloc, nx_upd, len_cons, len_nil, List.length_set, List.length_map, List.length_append] <;> omega) | fail)) only [go_sem, g0, g1, g13, h3, h4, h5, q3, q4, q5, htt]
    refine ⟨k - 1, by omega, _, i + 1, rfl, by omega, by omega, ?_, ?_, ?_, ?_, ?_⟩
    · rw [List.take_add_one, List.take_add_one, he, ht, ht', htt]
    · simp (maxSteps := 1000000) (disch := (first | omega | (simp only [nx_alloc, nx_upd, len_cons, len_nil, List.length_set, List.length_map, List.length_append] <;> omega) | fail)) only [go_sem, g0]
    · simp (maxSteps := 1000000) (disch := (first | omega | (simp only [nx_alloc, nx_upd, len_cons, len_nil, List.length_set, List.length_map, List.length_append] <;> omega) | fail)) only [go_sem, g1]
    · simp (maxSteps := 1000000) (disch := (first | omega | (simp only [nx_alloc, nx_upd, len_cons, len_nil, List.length_set, List.length_map, List.length_append] <;> omega) | fail)) only [go_sem, g12]
    · simp (maxSteps := 1000000) (disch := (first | omega | (simp only [nx_alloc, nx_upd, len_cons, len_nil, List.length_set, List.length_map, List.length_append] <;> omega) | fail)) only [go_sem, g13]
      rfl
  · simp (maxSteps := 1000000) (disch := (first | omega | (simp only [nx_alloc, nx_upd, len_cons, len_nil, List.length_set, List.length_map, List.length_append] <;> omega) | fail)) only [go_sem, g0, g1, g13, h3, h4, h5, q3, q4, q5, htt, Try.results89]
    refine gc_fin' hw (Over.refl _) (congrArg Value.bool (decide_eq_false ?_).symm) (.bool _)
    intro h
    rw [h, ht'] at ht
    cases ht; exact htt rfl
/-- The same version? -/
def eqV (V W : VerT) : Bool := decide (V.id = W.id) && decide (V.blocks = W.blocks) && decide (V.names = W.names) && decide (V.sizes = W.sizes)
theorem eqV_iff (V W : VerT) : eqV V W = true ↔ V = W := by
  obtain ⟨a, b, c, d⟩ := V
  obtain ⟨a', b', c', d'⟩ := W
  simp [eqV, and_assoc]
set_option maxHeartbeats 4000000 in
theorem vsame_ok (w0 : World) (A : St) (V W : VerT) (v u : Value) (hv : VerV A V v) (hu : VerV A W u) (hs : V.small) (ht : W.small) : ACalls Try.prog w0 70 #[v, u] A (fin (.bool (eqV V W)) A) := by
  obtain ⟨b, n, s, rfl, vb, vn, vs⟩ := hv
  obtain ⟨hs1, hs2, hs3⟩ := hs
  obtain ⟨b', n', s', rfl, ub, un, us⟩ := hu
  obtain ⟨ht1, ht2, ht3⟩ := ht
  obtain ⟨ab, cb, rfl⟩ := View.sl0 vb
  obtain ⟨an, cn, rfl⟩ := View.sl0 vn
  obtain ⟨az, cs, rfl⟩ := View.sl0 vs
  obtain ⟨ab', cb', rfl⟩ := View.sl0 ub
  obtain ⟨an', cn', rfl⟩ := View.sl0 un
  obtain ⟨az', cs', rfl⟩ := View.sl0 us
  obtain ⟨id, B, N, S⟩ := V
  obtain ⟨id', B', N', S'⟩ := W
  simp only at vb vn vs hs1 hs2 hs3 ub un us ht1 ht2 ht3 ⊢
  refine call_E Try.enters70 Try.func70 rfl (Nat.le_of_ble_eq_true rfl) fun hw hbd => ?_
  obtain ⟨A1, hA1⟩ : ∃ A1, A1 = (A.alloc (.cells [.int .u32 id, .slice ab B.length cb, .slice an N.length cn, .slice az S.length cs] 27 (some 0))).alloc (.cells [.int .u32 id', .slice ab' B'.length cb', .slice an' N'.length cn', .slice az' S'.length cs'] 27 (some 0)) := ⟨_, rfl⟩
  have ov1 : Over A A1 := hA1 ▸ ((Over.refl A).alloc _).alloc _
  have hn1 : A1.next = A.next + 2 := by rw [hA1]; rfl
  have hbx : A1.get A.next = some (.cells [.int .u32 id, .slice ab B.length cb, .slice an N.length cn, .slice az S.length cs] 27 (some 0)) := by rw [hA1, get_alloc_old (by simp)]; exact get_alloc_same ..
  have hby : A1.get (A.next + 1) = some (.cells [.int .u32 id', .slice ab' B'.length cb', .slice an' N'.length cn', .slice az' S'.length cs'] 27 (some 0)) := by rw [hA1]; exact get_alloc_same (A.alloc _) _
  have vb1 : HsView A1 B _ := View.over vb ov1
  have vn1 : StView A1 N _ := View.over vn ov1
  have vs1 : InView A1 S _ := View.over vs ov1
  have ub1 : HsView A1 B' _ := View.over ub ov1
  have un1 : StView A1 N' _ := View.over un ov1
  have us1 : InView A1 S' _ := View.over us ov1
  by_cases q1 : id = id'
  rotate_left
  · simp (maxSteps := 1000000) (disch := (first | omega | (simp only [nx_alloc, nx_upd, len_cons, len_nil, List.length_set, List.length_map, List.length_append] <;> omega) | fail)) only [go_sem, Try.ntmps70, Try.results70]
    rw [← hA1]
    exact gc_fin' hw ov1 (by simp [eqV, q1]) (.bool _)
  simp (maxSteps := 1000000) (disch := (first | omega | (simp only [nx_alloc, nx_upd, len_cons, len_nil, List.length_set, List.length_map, List.length_append] <;> omega) | fail)) only [go_sem, Try.ntmps70, Try.results70]
  rw [← hA1]
  refine call1 (equalH_ok w0 A1 B B' _ _ vb1 ub1 (by omega) (by omega)) ?_
  by_cases q2 : B = B'
  rotate_left
  · simp (maxSteps := 1000000) (disch := (first | omega | (simp only [nx_alloc, nx_upd, len_cons, len_nil, List.length_set, List.length_map, List.length_append] <;> omega) | fail)) only [go_sem, q2, Try.results70]
    exact gc_fin' hw ov1 (by simp [eqV, q2]) (.bool _)
  simp (maxSteps := 1000000) (disch := (first | omega | (simp only [nx_alloc, nx_upd, len_cons, len_nil, List.length_set, List.length_map, List.length_append] <;> omega) | fail)) only [go_sem, q2, hbx, hby]
  refine call1 (equalS_ok w0 A1 N N' _ _ vn1 un1 (by omega) (by omega)) ?_
  by_cases q3 : N = N'
  rotate_left
  · simp (maxSteps := 1000000) (disch := (first | omega | (simp only [nx_alloc, nx_upd, len_cons, len_nil, List.length_set, List.length_map, List.length_append] <;> omega) | fail)) only [go_sem, q3, Try.results70]
    exact gc_fin' hw ov1 (by simp [eqV, q3]) (.bool _)
  simp (maxSteps := 1000000) (disch := (first | omega | (simp only [nx_alloc, nx_upd, len_cons, len_nil, List.length_set, List.length_map, List.length_append] <;> omega) | fail)) only [go_sem, q3, hbx, hby]
  refine call1 (equalI_ok w0 A1 S S' _ _ vs1 us1 (by omega) (by omega)) ?_
  simp (maxSteps := 1000000) (disch := (first | omega | (simp only [nx_alloc, nx_upd, len_cons, len_nil, List.length_set, List.length_map, List.length_append] <;> omega) | fail)) only [go_sem, Try.results70]
  exact gc_fin' hw ov1 (by simp [eqV, q1, q2, q3]) (.bool _)
set_option maxHeartbeats 8000000 in
theorem rvsame_ok (w0 : World) (A : St) (V W : VerT) (v u : Value) (hv : VerV A V v) (hu : VerV A W u) (hs : V.small) (ht : W.small) : ACalls Try.prog w0 30 #[v, u] A (fin (.bool (eqV V W)) A) := by
  obtain ⟨b, n, s, rfl, vb, vn, vs⟩ := hv
  obtain ⟨hs1, hs2, hs3⟩ := hs
  obtain ⟨b', n', s', rfl, ub, un, us⟩ := hu
  obtain ⟨ht1, ht2, ht3⟩ := ht
  obtain ⟨ab, cb, rfl⟩ := View.sl0 vb
  obtain ⟨an, cn, rfl⟩ := View.sl0 vn
  obtain ⟨az, cs, rfl⟩ := View.sl0 vs
  obtain ⟨ab', cb', rfl⟩ := View.sl0 ub
  obtain ⟨an', cn', rfl⟩ := View.sl0 un
  obtain ⟨az', cs', rfl⟩ := View.sl0 us
  obtain ⟨id, B, N, S⟩ := V
  obtain ⟨id', B', N', S'⟩ := W
  simp only at vb vn vs hs1 hs2 hs3 ub un us ht1 ht2 ht3 ⊢
  refine call_E Try.enters30 Try.func30 rfl (Nat.le_of_ble_eq_true rfl) fun hw hbd => ?_
  obtain ⟨A1, hA1⟩ : ∃ A1, A1 = (A.alloc (.cells [.int .u32 id, .slice ab B.length cb, .slice an N.length cn, .slice az S.length cs] 27 (some 0))).alloc (.cells [.int .u32 id', .slice ab' B'.length cb', .slice an' N'.length cn', .slice az' S'.length cs'] 27 (some 0)) := ⟨_, rfl⟩
  have ov1 : Over A A1 := hA1 ▸ ((Over.refl A).alloc _).alloc _
  have hn1 : A1.next = A.next + 2 := by rw [hA1]; rfl
  have hbx : A1.get A.next = some (.cells [.int .u32 id, .slice ab B.length cb, .slice an N.length cn, .slice az S.length cs] 27 (some 0)) := by rw [hA1, get_alloc_old (by simp)]; exact get_alloc_same ..
  have hby : A1.get (A.next + 1) = some (.cells [.int .u32 id', .slice ab' B'.length cb', .slice an' N'.length cn', .slice az' S'.length cs'] 27 (some 0)) := by rw [hA1]; exact get_alloc_same (A.alloc _) _
  have vb1 : HsView A1 B _ := View.over vb ov1
  have vn1 : StView A1 N _ := View.over vn ov1
  have vs1 : InView A1 S _ := View.over vs ov1
  have ub1 : HsView A1 B' _ := View.over ub ov1
  have un1 : StView A1 N' _ := View.over un ov1
  have us1 : InView A1 S' _ := View.over us ov1
  by_cases q1 : id = id'
  rotate_left
  · have q1' : ¬ ((id : Int) = id') := by omega
    simp (maxSteps := 1000000) (disch := (first | omega | (simp only [nx_alloc, nx_upd, len_cons, len_nil, List.length_set, List.length_map, List.length_append] <;> omega) | fail)) only [go_sem, Try.ntmps30, Try.results30]
    rw [← hA1]
    exact gc_fin' hw ov1 (by simp [eqV, q1]) (.bool _)
  have q1' : ((id : Int) = id') := by omega
  by_cases q2 : B.length = B'.length
  rotate_left
  · have q2' : ¬ ((B.length : Int) = B'.length) := by omega
    simp (maxSteps := 1000000) (disch := (first | omega | (simp only [nx_alloc, nx_upd, len_cons, len_nil, List.length_set, List.length_map, List.length_append] <;> omega) | fail)) only [go_sem, Try.ntmps30, Try.results30]
    rw [← hA1]
    exact gc_fin' hw ov1 (by simp [eqV, show ¬ B = B' from fun h => q2 (by rw [h])]) (.bool _)
  have q2' : ((B.length : Int) = B'.length) := by omega
  by_cases q3 : N.length = N'.length
  rotate_left
  · have q3' : ¬ ((N.length : Int) = N'.length) := by omega
    simp (maxSteps := 1000000) (disch := (first | omega | (simp only [nx_alloc, nx_upd, len_cons, len_nil, List.length_set, List.length_map, List.length_append] <;> omega) | fail)) only [go_sem, Try.ntmps30, Try.results30]
    rw [← hA1]
    exact gc_fin' hw ov1 (by simp [eqV, show ¬ N = N' from fun h => q3 (by rw [h])]) (.bool _)
  have q3' : ((N.length : Int) = N'.length) := by omega
  by_cases q4 : S.length = S'.length
  rotate_left
  · have q4' : ¬ ((S.length : Int) = S'.length) := by omega
    simp (maxSteps := 1000000) (disch := (first | omega | (simp only [nx_alloc, nx_upd, len_cons, len_nil, List.length_set, List.length_map, List.length_append] <;> omega) | fail)) only [go_sem, Try.ntmps30, Try.results30]
    rw [← hA1]
    exact gc_fin' hw ov1 (by simp [eqV, show ¬ S = S' from fun h => q4 (by rw [h])]) (.bool _)
  have q4' : ((S.length : Int) = S'.length) := by omega
  simp (maxSteps := 1000000) (disch := (first | omega | (simp only [nx_alloc, nx_upd, len_cons, len_nil, List.length_set, List.length_map, List.length_append] <;> omega) | fail)) only [go_sem, Try.ntmps30, Try.results30]
  rw [← hA1]
  refine aw_loop (fun k x A' => ∃ (ρ : Nat → Value) (i : Nat), x = E 94 ρ [] ∧ A' = A1 ∧ k = B.length - i ∧ i ≤ B.length ∧ B.take i = B'.take i ∧ ρ 2 = .pointer (some ⟨A.next, 0, none⟩) ∧ ρ 3 = .pointer (some ⟨A.next + 1, 0, none⟩) ∧ ρ 5 = .int .i64 i) B.length
    ⟨_, 0, rfl, rfl, rfl, Nat.zero_le _, by simp, rfl, rfl, rfl⟩ ?_
  rintro k x A' ⟨ρ, i, rfl, rfl, hk, hi, he, g2, g3, g9⟩
  refine aw_of ?_
  by_cases hend : i = B.length
  rotate_left
  · have e1 : ((i : Int) < B.length) := by omega
    obtain ⟨t, ht⟩ : ∃ t, B[i]? = some t := ⟨B[i]'(by omega), List.getElem?_eq_getElem (by omega)⟩
    obtain ⟨t', ht'⟩ : ∃ t, B'[i]? = some t := ⟨B'[i]'(by omega), List.getElem?_eq_getElem (by omega)⟩
    obtain ⟨hb, ho, hcells, he', hm, h1, h2, h3, h4, h5, h6⟩ := View.en (P := Try.prog) (e := 43) vb1 hsC_len Try.sz43 ht
    obtain ⟨qb, qo, qcells, qe', qm, q1, q2, q3, q4, q5, q6⟩ := View.en (P := Try.prog) (e := 43) ub1 hsC_len Try.sz43 ht'
    simp (maxSteps := 1000000) (disch := (first | omega | (simp only [nx_alloc, nx_upd, len_cons, len_nil, List.length_set, List.length_map, List.length_append] <;> omega) | fail)) only [go_sem, g2, g3, g9, hbx]
    refine aw_draw (by kernel_rfl) ?_
    by_cases htt : t = t'
    · simp (maxSteps := 1000000) (disch := (first | omega | (simp only [nx_alloc, nx_upd, len_cons, len_nil, List.length_set, List.length_map, List.length_append] <;> omega) | fail)) only [go_sem, g2, g3, g9, hbx, hby, h3, h4, h5, q3, q4, q5, hs_neq, htt]
      refine ⟨k - 1, by omega, _, i + 1, rfl, by omega, by omega, ?_, ?_, ?_, ?_⟩
      · rw [List.take_add_one, List.take_add_one, he, ht, ht', htt]
      · simp (maxSteps := 1000000) (disch := (first | omega | (simp only [nx_alloc, nx_upd, len_cons, len_nil, List.length_set, List.length_map, List.length_append] <;> omega) | fail)) only [go_sem, g2]
      · simp (maxSteps := 1000000) (disch := (first | omega | (simp only [nx_alloc, nx_upd, len_cons, len_nil, List.length_set, List.length_map, List.length_append] <;> omega) | fail)) only [go_sem, g3]
      · simp (maxSteps := 1000000) (disch := (first | omega | (simp only [nx_alloc, nx_upd, len_cons, len_nil, List.length_set, List.length_map, List.length_append] <;> omega) | fail)) only [go_sem]
        rfl
    · simp (maxSteps := 1000000) (disch := (first | omega | (simp only [nx_alloc, nx_upd, len_cons, len_nil, List.length_set, List.length_map, List.length_append] <;> omega) | fail)) only [go_sem, g2, g3, g9, hbx, hby, h3, h4, h5, q3, q4, q5, hs_neq, htt, Try.results30]
      have : ¬ B = B' := fun h => by
        rw [h, ht'] at ht
        cases ht; exact htt rfl
      exact gc_fin' hw ov1 (by simp [eqV, this]) (.bool _)
  have e1 : ¬ ((i : Int) < B.length) := by omega
  have zB : B = B' := by rw [hend, List.take_length, List.take_of_length_le (by omega)] at he; exact he
  clear hk hi he hend
  simp (maxSteps := 1000000) (disch := (first | omega | (simp only [nx_alloc, nx_upd, len_cons, len_nil, List.length_set, List.length_map, List.length_append] <;> omega) | fail)) only [go_sem, g2, g3, g9, hbx]
  clear e1
  refine aw_loop (fun k x A2 => ∃ (ρ : Nat → Value) (i : Nat), x = E 94 ρ [] ∧ A2 = A' ∧ k = N.length - i ∧ i ≤ N.length ∧ N.take i = N'.take i ∧ ρ 2 = .pointer (some ⟨A.next, 0, none⟩) ∧ ρ 3 = .pointer (some ⟨A.next + 1, 0, none⟩) ∧ ρ 6 = .int .i64 i) N.length
    ⟨_, 0, rfl, rfl, rfl, Nat.zero_le _, by simp, g2, g3, rfl⟩ ?_
  clear g2 g3 g9
  rintro k x A2 ⟨ρ, i, rfl, rfl, hk, hi, he, g2, g3, g9⟩
  refine aw_of ?_
  by_cases hend : i = N.length
  rotate_left
  · have e1 : ((i : Int) < N.length) := by omega
    obtain ⟨t, ht⟩ : ∃ t, N[i]? = some t := ⟨N[i]'(by omega), List.getElem?_eq_getElem (by omega)⟩
    obtain ⟨t', ht'⟩ : ∃ t, N'[i]? = some t := ⟨N'[i]'(by omega), List.getElem?_eq_getElem (by omega)⟩
    obtain ⟨hb, ho, h1, h2, h3, hcells, he', hm, h4, h5⟩ := View.at1 (P := Try.prog) (e := 9) vn1 Try.sz9 (strE_at N i t ht)
    obtain ⟨qb, qo, q1, q2, q3, qcells, qe', qm, q4, q5⟩ := View.at1 (P := Try.prog) (e := 9) un1 Try.sz9 (strE_at N' i t' ht')
    simp (maxSteps := 1000000) (disch := (first | omega | (simp only [nx_alloc, nx_upd, len_cons, len_nil, List.length_set, List.length_map, List.length_append] <;> omega) | fail)) only [go_sem, g2, g3, g9, hbx]
    refine aw_draw (by kernel_rfl) ?_
    by_cases htt : t = t'
    · simp (maxSteps := 1000000) (disch := (first | omega | (simp only [nx_alloc, nx_upd, len_cons, len_nil, List.length_set, List.length_map, List.length_append] <;> omega) | fail)) only [go_sem, g2, g3, g9, hbx, hby, h3, h4, h5, q3, q4, q5, beqBytes, htt]
      refine ⟨k - 1, by omega, _, i + 1, rfl, by omega, by omega, ?_, ?_, ?_, ?_⟩
      · rw [List.take_add_one, List.take_add_one, he, ht, ht', htt]
      · simp (maxSteps := 1000000) (disch := (first | omega | (simp only [nx_alloc, nx_upd, len_cons, len_nil, List.length_set, List.length_map, List.length_append] <;> omega) | fail)) only [go_sem, g2]
      · simp (maxSteps := 1000000) (disch := (first | omega | (simp only [nx_alloc, nx_upd, len_cons, len_nil, List.length_set, List.length_map, List.length_append] <;> omega) | fail)) only [go_sem, g3]
      · simp (maxSteps := 1000000) (disch := (first | omega | (simp only [nx_alloc, nx_upd, len_cons, len_nil, List.length_set, List.length_map, List.length_append] <;> omega) | fail)) only [go_sem]
        rfl
    · simp (maxSteps := 1000000) (disch := (first | omega | (simp only [nx_alloc, nx_upd, len_cons, len_nil, List.length_set, List.length_map, List.length_append] <;> omega) | fail)) only [go_sem, g2, g3, g9, hbx, hby, h3, h4, h5, q3, q4, q5, beqBytes, htt, Try.results30]
      have : ¬ N = N' := fun h => by
        rw [h, ht'] at ht
        cases ht; exact htt rfl
      exact gc_fin' hw ov1 (by simp [eqV, this]) (.bool _)
  have e1 : ¬ ((i : Int) < N.length) := by omega
  have zN : N = N' := by rw [hend, List.take_length, List.take_of_length_le (by omega)] at he; exact he
  clear hk hi he hend
  simp (maxSteps := 1000000) (disch := (first | omega | (simp only [nx_alloc, nx_upd, len_cons, len_nil, List.length_set, List.length_map, List.length_append] <;> omega) | fail)) only [go_sem, g2, g3, g9, hbx]
  clear e1
  refine aw_loop (fun k x A3 => ∃ (ρ : Nat → Value) (i : Nat), x = E 94 ρ [] ∧ A3 = A2 ∧ k = S.length - i ∧ i ≤ S.length ∧ S.take i = S'.take i ∧ ρ 2 = .pointer (some ⟨A.next, 0, none⟩) ∧ ρ 3 = .pointer (some ⟨A.next + 1, 0, none⟩) ∧ ρ 7 = .int .i64 i) S.length
    ⟨_, 0, rfl, rfl, rfl, Nat.zero_le _, by simp, g2, g3, rfl⟩ ?_
  clear g2 g3 g9
  rintro k x A3 ⟨ρ, i, rfl, rfl, hk, hi, he, g2, g3, g9⟩
  refine aw_of ?_
  by_cases hend : i = S.length
  rotate_left
  · have e1 : ((i : Int) < S.length) := by omega
    obtain ⟨t, ht⟩ : ∃ t, S[i]? = some t := ⟨S[i]'(by omega), List.getElem?_eq_getElem (by omega)⟩
    obtain ⟨t', ht'⟩ : ∃ t, S'[i]? = some t := ⟨S'[i]'(by omega), List.getElem?_eq_getElem (by omega)⟩
    obtain ⟨hb, ho, h1, h2, h3, hcells, he', hm, h4, h5⟩ := View.at1 (P := Try.prog) (e := 3) vs1 Try.sz3 (i64E_at S i t ht)
    obtain ⟨qb, qo, q1, q2, q3, qcells, qe', qm, q4, q5⟩ := View.at1 (P := Try.prog) (e := 3) us1 Try.sz3 (i64E_at S' i t' ht')
    simp (maxSteps := 1000000) (disch := (first | omega | (simp only [nx_alloc, nx_upd, len_cons, len_nil, List.length_set, List.length_map, List.length_append] <;> omega) | fail)) only [go_sem, g2, g3, g9, hbx]
    refine aw_draw (by kernel_rfl) ?_
    by_cases htt : t = t'
    · simp (maxSteps := 1000000) (disch := (first | omega | (simp only [nx_alloc, nx_upd, len_cons, len_nil, List.length_set, List.length_map, List.length_append] <;> omega) | fail)) only [go_sem, g2, g3, g9, hbx, hby, h3, h4, h5, q3, q4, q5, htt]
      refine ⟨k - 1, by omega, _, i + 1, rfl, by omega, by omega, ?_, ?_, ?_, ?_⟩
      · rw [List.take_add_one, List.take_add_one, he, ht, ht', htt]
      · simp (maxSteps := 1000000) (disch := (first | omega | (simp only [nx_alloc, nx_upd, len_cons, len_nil, List.length_set, List.length_map, List.length_append] <;> omega) | fail)) only [go_sem, g2]
      · simp (maxSteps := 1000000) (disch := (first | omega | (simp only [nx_alloc, nx_upd, len_cons, len_nil, List.length_set, List.length_map, List.length_append] <;> omega) | fail)) only [go_sem, g3]
      · simp (maxSteps := 1000000) (disch := (first | omega | (simp only [nx_alloc, nx_upd, len_cons, len_nil, List.length_set, List.length_map, List.length_append] <;> omega) | fail)) only [go_sem]
        rfl
    · simp (maxSteps := 1000000) (disch := (first | omega | (simp only [nx_alloc, nx_upd, len_cons, len_nil, List.length_set, List.length_map, List.length_append] <;> omega) | fail)) only [go_sem, g2, g3, g9, hbx, hby, h3, h4, h5, q3, q4, q5, htt, Try.results30]
      have : ¬ S = S' := fun h => by
        rw [h, ht'] at ht
        cases ht; exact htt rfl
      exact gc_fin' hw ov1 (by simp [eqV, this]) (.bool _)
  have e1 : ¬ ((i : Int) < S.length) := by omega
  have zS : S = S' := by rw [hend, List.take_length, List.take_of_length_le (by omega)] at he; exact he
  simp (maxSteps := 1000000) (disch := (first | omega | (simp only [nx_alloc, nx_upd, len_cons, len_nil, List.length_set, List.length_map, List.length_append] <;> omega) | fail)) only [go_sem, g2, g3, g9, hbx, Try.results30]
  exact gc_fin' hw ov1 (by simp [eqV, q1, zB, zN, zS]) (.bool _)
end Go.Fw
