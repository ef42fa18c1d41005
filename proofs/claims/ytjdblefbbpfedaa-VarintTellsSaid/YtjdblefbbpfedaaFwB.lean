import Derived.Test.YtjdblefbbpfedaaFwA
set_option linter.unusedSimpArgs false
set_option linter.unusedVariables false
namespace Go.Fw
open Go.Proofs Go.RowKit
attribute [local go_sem] List.length_cons List.length_nil Nat.zero_add Nat.add_zero Nat.zero_mul Nat.mul_one Int.toNat_zero Int.toNat_natCast List.map_cons List.map_nil List.map_toArray List.toList_toArray List.append_toArray List.nil_append List.cons_append List.append_nil List.all_toArray List.all_cons List.all_nil Bool.and_true Bool.true_and Bool.and_self List.getElem?_toArray List.getElem?_cons_zero List.getElem?_cons_succ Option.bind_some Option.map_some id true_and and_true and_self St.next_alloc St.next_upd beq_self_eq_true Bool.not_true Bool.not_false Bool.false_eq_true false_implies true_implies Option.isNone_none Option.isNone_some Option.isSome_none Option.isSome_some ge_iff_le gt_iff_lt Nat.sub_zero Nat.add_assoc IntWalk.i64_in IntWalk.u64_in IntWalk.u8_in IntWalk.u32_in IntWalk.i32_in IntWalk.u16_in dec_not Bool.not_eq_true decide_true decide_false ne_eq not_true_eq_false not_false_eq_true Bool.true_or Bool.or_true Bool.or_false Bool.false_or Bool.and_false Bool.false_and upd_apply rd_eq ar_zero ar_succ ar_nil tm_size tm_getD tm_set E_tmps E_defers put_E put_none eval_tmp eval_const eval_func setArgs_0 setArgs_1 setArgs_2 append_lit stepV_some stepA_some guardO_true ifB_true ifB_false wantV_true wantV_false wantV_dec_t wantV_dec_f ifB_dec_t ifB_dec_f condV_bool dec_and dec_or isB_bool someB_t someB_f okO_tmp okO_func okO_int okO_bool okO_string okO_ptr0 okO_slice0 okO_nilFunc okO_nilIface okO_map0 okO_agg wanted_none wanted_some lookT_some aopsL_nil aopsL_cons wpA_skip wpA_label wpA_exit wpA_goto wpA_ret wpA_seq wpA_block wpA_region wpA_cond wpA_loop wpA_rangeFunc wpA_draw thenQ_normal thenQ_exit thenQ_ret thenQ_panic blockQ_normal blockQ_ret blockQ_panic blockQ_exit funQ_ret funQ_normal funQ_panic op_move op_assign pickV_or pickV_and pickV_t pickV_f pickV_true pickV_false op_pick allocV_some op_alloc op_box op_load op_nilCheck op_bin op_un op_convert op_makeInterface op_makeSlice op_fieldAddr op_field op_indexAddr op_index op_extract op_typeAssert storeV_some op_store op_slice00 op_slice10 op_slice01 op_slice11 op_slice111 op_slice011 op_build op_buildSlice op_makeFunc callV_true op_call op_builtin panicV_iface op_panic ACallV_func ACallV_yield afterCall_returned afterCall_panicked bin_add bin_sub bin_mul bin_and bin_or bin_xor bin_andNot bin_eql bin_neq bin_lss bin_leq bin_gtr bin_geq bin_quo bin_rem bin_shl bin_shr bin_sadd bin_seql bin_sneq bin_slss uB_bool bin_beql bin_bneq uP_pointer bin_peql bin_pneq uS_slice bin_leql bin_lneq bin_ieql bin_ineq un_neg un_xor un_not nilCheck_ptr nilCheck_func nilCheck_yield load_ptr loadC_one loadC_agg store_ptr slice_eq sliceU_string sliceU_slice sliceU_array sliceS_eq boundsS_some sliceL_eq boundsL_nil boundsL_exact boundsL_least boundsL_own boundsL_ownN bounds_11 bounds_10 bounds_01 bounds_00 builtin_len len_string len_array len_slice builtin_append builtin_copy pairA_some builtin_min builtin_max min_two max_two index_eq index_string index_array indexAddr_eq indexAddr_array indexAddr_slice fieldAddr_eq posO_some fAddr_some fieldAddr_struct partC_some field_eq field_struct part_eq partU_one partU_agg extract_tuple conv_eq conv_int conv_string u8O_u8 conv_bytes conv_text_nil conv_text_zero conv_text mkIface_eq get_upd_same consO_some finR_0 finR_1 finR_2 aresL_nil aresL_cons ares1_tmp ares1_cell retV_some aleave_nil aleave_coll bnd_int bnd_bool bnd_string bnd_nilIface bnd_slice0 bnd_iface bnd_slice bnd_ptr bnd_ptr0 bndL_nil bndL_cons bndA_lit bnd_tuple bnd_agg calm_same skipC_eq aopsC_nil aopsC_cons stepC_call stepC_move stepC_assign stepC_pick stepC_alloc stepC_box stepC_build stepC_buildSlice stepC_load stepC_store stepC_nilCheck stepC_binOp stepC_unOp stepC_convert stepC_makeInterface stepC_makeFunc stepC_makeSlice stepC_slice stepC_fieldAddr stepC_field stepC_indexAddr stepC_index stepC_extract stepC_typeAssert stepC_builtin to_same sameA_eq aopsX_nil aopsX_cons stepX_heavy stepX_light lightK_eq allC_nil allC_cons hs_zero hs_succ stepT_call pure_call stepT_move pure_move stepT_assign pure_assign stepT_pick pure_pick stepT_alloc pure_alloc stepT_box pure_box stepT_build pure_build stepT_buildSlice pure_buildSlice stepT_load pure_load stepT_store pure_store stepT_nilCheck pure_nilCheck stepT_binOp pure_binOp stepT_unOp pure_unOp stepT_convert pure_convert stepT_makeInterface pure_makeInterface stepT_makeFunc pure_makeFunc stepT_makeSlice pure_makeSlice stepT_slice pure_slice stepT_fieldAddr pure_fieldAddr stepT_field pure_field stepT_indexAddr pure_indexAddr stepT_index pure_index stepT_extract pure_extract stepT_typeAssert pure_typeAssert stepT_builtin pure_b_len pure_b_append pure_b_copy pure_b_min pure_b_max mk_E get_alloc_old get_alloc_new get_upd_old Try.agg1 Try.sz1 Try.byt1 Try.zero1 Try.agg2 Try.sz2 Try.byt2 Try.zero2 Try.agg3 Try.sz3 Try.byt3 Try.zero3 Try.agg4 Try.sz4 Try.byt4 Try.zero4 Try.agg5 Try.sz5 Try.byt5 Try.zero5 Try.agg6 Try.sz6 Try.byt6 Try.zero6 Try.agg7 Try.sz7 Try.byt7 Try.zero7 Try.agg8 Try.sz8 Try.byt8 Try.zero8 Try.agg9 Try.sz9 Try.byt9 Try.zero9 Try.agg10 Try.sz10 Try.byt10 Try.zero10 Try.agg11 Try.sz11 Try.byt11 Try.zero11 Try.agg12 Try.sz12 Try.byt12 Try.zero12 Try.agg13 Try.sz13 Try.byt13 Try.zero13 Try.agg14 Try.sz14 Try.byt14 Try.zero14 Try.agg15 Try.sz15 Try.byt15 Try.zero15 Try.agg16 Try.sz16 Try.byt16 Try.zero16 Try.agg17 Try.sz17 Try.byt17 Try.zero17 Try.agg18 Try.sz18 Try.byt18 Try.zero18 Try.agg19 Try.sz19 Try.byt19 Try.zero19 Try.agg20 Try.sz20 Try.byt20 Try.zero20 Try.agg21 Try.sz21 Try.byt21 Try.zero21 Try.agg22 Try.sz22 Try.byt22 Try.zero22 Try.agg23 Try.sz23 Try.byt23 Try.zero23 Try.agg24 Try.sz24 Try.byt24 Try.zero24 Try.agg26 Try.sz26 Try.byt26 Try.zero26 Try.agg27 Try.sz27 Try.byt27 Try.zero27 Try.agg28 Try.sz28 Try.byt28 Try.zero28 Try.agg29 Try.sz29 Try.byt29 Try.zero29 Try.agg30 Try.sz30 Try.byt30 Try.el30 Try.zero30 Try.agg31 Try.sz31 Try.byt31 Try.zero31 Try.agg33 Try.sz33 Try.byt33 Try.zero33 Try.agg34 Try.sz34 Try.byt34 Try.zero34 Try.agg35 Try.sz35 Try.byt35 Try.zero35 Try.agg36 Try.sz36 Try.byt36 Try.zero36 Try.agg37 Try.sz37 Try.byt37 Try.zero37 Try.agg38 Try.sz38 Try.byt38 Try.zero38 Try.agg39 Try.sz39 Try.byt39 Try.zero39 Try.agg41 Try.sz41 Try.byt41 Try.zero41 Try.agg42 Try.sz42 Try.byt42 Try.zero42 Try.agg43 Try.sz43 Try.byt43 Try.zero43 Try.agg44 Try.sz44 Try.byt44 Try.zero44 Try.agg45 Try.sz45 Try.byt45 Try.zero45 Try.agg46 Try.sz46 Try.byt46 Try.zero46 Try.agg47 Try.sz47 Try.byt47 Try.zero47 Try.agg48 Try.sz48 Try.byt48 Try.zero48 Try.agg49 Try.sz49 Try.byt49 Try.zero49 Try.agg50 Try.sz50 Try.byt50 Try.zero50 Try.agg51 Try.sz51 Try.byt51 Try.zero51 Try.agg52 Try.sz52 Try.byt52 Try.zero52 Try.agg53 Try.sz53 Try.byt53 Try.zero53 Try.agg54 Try.sz54 Try.byt54 Try.zero54 Try.agg55 Try.sz55 Try.byt55 Try.zero55 Try.agg56 Try.sz56 Try.byt56 Try.zero56 Try.agg57 Try.sz57 Try.byt57 Try.zero57 Try.agg58 Try.sz58 Try.byt58 Try.zero58 Try.agg59 Try.sz59 Try.byt59 Try.zero59 Try.agg60 Try.sz60 Try.byt60 Try.zero60 Try.agg61 Try.sz61 Try.byt61 Try.zero61 Try.agg62 Try.sz62 Try.byt62 Try.zero62 Try.underlying1 Try.underlying2 Try.underlying3 Try.underlying4 Try.underlying5 Try.underlying6 Try.underlying7 Try.underlying8 Try.underlying9 Try.underlying10 Try.underlying11 Try.underlying12 Try.underlying13 Try.underlying14 Try.underlying15 Try.underlying16 Try.underlying17 Try.underlying18 Try.underlying19 Try.underlying20 Try.underlying21 Try.underlying22 Try.underlying23 Try.underlying24 Try.underlying26 Try.underlying27 Try.underlying28 Try.underlying29 Try.underlying30 Try.underlying31 Try.underlying33 Try.underlying34 Try.underlying35 Try.underlying36 Try.underlying37 Try.underlying38 Try.underlying39 Try.underlying41 Try.underlying42 Try.underlying43 Try.underlying44 Try.underlying45 Try.underlying46 Try.underlying47 Try.underlying48 Try.underlying49 Try.underlying50 Try.underlying51 Try.underlying52 Try.underlying53 Try.underlying54 Try.underlying55 Try.underlying56 Try.underlying57 Try.underlying58 Try.underlying59 Try.underlying60 Try.underlying61 Try.underlying62
theorem Try.enters22 : Enters Try.prog 22 := enters_of Try.func22 rfl (by kernel_rfl)
theorem Try.enters23 : Enters Try.prog 23 := enters_of Try.func23 rfl (by kernel_rfl)
theorem Try.enters10 : Enters Try.prog 10 := enters_of Try.func10 rfl (by kernel_rfl)

set_option maxHeartbeats 400000 in
theorem sevens_ok (w0 : World) (A : St) (n : Int) :
    ACalls Try.prog w0 22 #[.int .u64 n] A (fin (.func (.func 23) #[] #[.pointer (some ⟨A.next, 0, none⟩)]) (A.alloc (.cells [.int .u64 n] 23 (some 0)))) := by
  refine call_E Try.enters22 Try.func22 rfl (Nat.le_of_ble_eq_true rfl) fun hw hbd => ?_
  simp (maxSteps := 1000000) (disch := (first | omega | (simp only [St.next_alloc, St.next_upd]; omega))) only [Nat.reduceAdd, Nat.reduceSub, Nat.reduceMul, Nat.reduceLT, Nat.reduceLeDiff, Nat.reduceEqDiff, ↓reduceIte, reduceCtorEq, Int.reduceAdd, Int.reduceSub, Int.reduceMul, Int.reduceLT, Int.reduceLE, Int.reduceEq, Int.reduceNe, Int.reduceToNat, Int.reduceNeg, go_sem, Try.ntmps22, Try.results22]
  exact gc_here ⟨rfl, rfl⟩

theorem and127 (m : Nat) (h : m < 18446744073709551616) : ibits .and .u64 (m : Int) 127 = ((m % 128 : Nat) : Int) := by
  have := and_mask .u64 rfl (m : Int) 7 ⟨by omega, by simp only [IntKind.bits]; omega⟩ (by decide)
  simpa using this
theorem shr7 (m : Nat) : ishr .u64 (m : Int) 7 = ((m / 128 : Nat) : Int) := by
  have := ishr_eq .u64 (m : Int) 7 (by decide)
  simpa using this

set_option maxHeartbeats 400000 in
/-- The loop over a number's sevens, for any 'yield' that goes on. -/
theorem sevens1_ok (w0 : World) (J : Nat → St → Prop) (F : St → Prop) (l c : Nat)
    (hJ : ∀ m A, J m A → A.get c = some (.cells [.int .u64 m] 23 (some 0)) ∧ m < 18446744073709551616)
    (hY : ∀ m A, J m A → AYield Try.prog w0 l #[.int .u8 ((m % 128 : Nat) : Int), .bool (decide (127 < (m : Int)))] A fun e A' => e = .returned (.bool true) ∧ A'.get c = some (.cells [.int .u64 m] 23 (some 0)) ∧
      (127 < m → J (m / 128) (A'.upd c (some (.cells [.int .u64 ((m / 128 : Nat) : Int)] 23 (some 0))))) ∧ (¬ 127 < m → F A'))
    (A : St) (m : Nat) (h : J m A) : ACalls Try.prog w0 23 #[.func (.yield l) #[] #[], .pointer (some ⟨c, 0, none⟩)] A fun e A' => e = .returned (.tuple #[]) ∧ F A' := by
  refine call_E Try.enters23 Try.func23 rfl (Nat.le_of_ble_eq_true rfl) fun hw hbd => ?_
  simp (maxSteps := 1000000) (disch := (first | omega | (simp only [St.next_alloc, St.next_upd]; omega))) only [Nat.reduceAdd, Nat.reduceSub, Nat.reduceMul, Nat.reduceLT, Nat.reduceLeDiff, Nat.reduceEqDiff, ↓reduceIte, reduceCtorEq, Int.reduceAdd, Int.reduceSub, Int.reduceMul, Int.reduceLT, Int.reduceLE, Int.reduceEq, Int.reduceNe, Int.reduceToNat, Int.reduceNeg, go_sem, Try.ntmps23, Try.results23]
  refine aw_loop (fun k a A' => ∃ (ρ : Nat → Value) (m : Nat), a = E 16 ρ [] ∧ k = m ∧ J m A' ∧ ρ 0 = .func (.yield l) #[] #[] ∧ ρ 1 = .pointer (some ⟨c, 0, none⟩)) m ⟨_, m, rfl, rfl, h, rfl, rfl⟩ ?_
  rintro k a A' ⟨ρ, m, rfl, rfl, hj, h0, h1⟩
  obtain ⟨hc, hm⟩ := hJ k A' hj
  refine aw_of ?_
  simp (maxSteps := 1000000) (disch := (first | omega | (simp only [St.next_alloc, St.next_upd]; omega))) only [Nat.reduceAdd, Nat.reduceSub, Nat.reduceMul, Nat.reduceLT, Nat.reduceLeDiff, Nat.reduceEqDiff, ↓reduceIte, reduceCtorEq, Int.reduceAdd, Int.reduceSub, Int.reduceMul, Int.reduceLT, Int.reduceLE, Int.reduceEq, Int.reduceNe, Int.reduceToNat, Int.reduceNeg, go_sem, h0, h1, hc, and127 k hm]
  refine (hY k A' hj).mono ?_
  rintro e A2 ⟨rfl, hc2, hgo, hend⟩
  simp (maxSteps := 1000000) (disch := (first | omega | (simp only [St.next_alloc, St.next_upd]; omega))) only [Nat.reduceAdd, Nat.reduceSub, Nat.reduceMul, Nat.reduceLT, Nat.reduceLeDiff, Nat.reduceEqDiff, ↓reduceIte, reduceCtorEq, Int.reduceAdd, Int.reduceSub, Int.reduceMul, Int.reduceLT, Int.reduceLE, Int.reduceEq, Int.reduceNe, Int.reduceToNat, Int.reduceNeg, go_sem, h1, hc2]
  refine ifB_dec (fun h127 => ?_) (fun h127 => ?_)
  · simp (maxSteps := 1000000) (disch := (first | omega | (simp only [St.next_alloc, St.next_upd]; omega))) only [Nat.reduceAdd, Nat.reduceSub, Nat.reduceMul, Nat.reduceLT, Nat.reduceLeDiff, Nat.reduceEqDiff, ↓reduceIte, reduceCtorEq, Int.reduceAdd, Int.reduceSub, Int.reduceMul, Int.reduceLT, Int.reduceLE, Int.reduceEq, Int.reduceNe, Int.reduceToNat, Int.reduceNeg, go_sem, h1, hc2, store_ptr]
    rw [storeC_one _ _ _ _ _ _ _ rfl rfl (Nat.le_refl _) (Nat.le_refl _)]
    simp (maxSteps := 1000000) (disch := (first | omega | (simp only [St.next_alloc, St.next_upd]; omega))) only [Nat.reduceAdd, Nat.reduceSub, Nat.reduceMul, Nat.reduceLT, Nat.reduceLeDiff, Nat.reduceEqDiff, ↓reduceIte, reduceCtorEq, Int.reduceAdd, Int.reduceSub, Int.reduceMul, Int.reduceLT, Int.reduceLE, Int.reduceEq, Int.reduceNe, Int.reduceToNat, Int.reduceNeg, go_sem, shr7]
    refine ⟨k / 128, by omega, _, k / 128, rfl, rfl, hgo (by omega), ?_, ?_⟩
    · simp (maxSteps := 1000000) (disch := (first | omega | (simp only [St.next_alloc, St.next_upd]; omega))) only [Nat.reduceAdd, Nat.reduceSub, Nat.reduceMul, Nat.reduceLT, Nat.reduceLeDiff, Nat.reduceEqDiff, ↓reduceIte, reduceCtorEq, Int.reduceAdd, Int.reduceSub, Int.reduceMul, Int.reduceLT, Int.reduceLE, Int.reduceEq, Int.reduceNe, Int.reduceToNat, Int.reduceNeg, go_sem, h0]
    · simp (maxSteps := 1000000) (disch := (first | omega | (simp only [St.next_alloc, St.next_upd]; omega))) only [Nat.reduceAdd, Nat.reduceSub, Nat.reduceMul, Nat.reduceLT, Nat.reduceLeDiff, Nat.reduceEqDiff, ↓reduceIte, reduceCtorEq, Int.reduceAdd, Int.reduceSub, Int.reduceMul, Int.reduceLT, Int.reduceLE, Int.reduceEq, Int.reduceNe, Int.reduceToNat, Int.reduceNeg, go_sem, h1]
  · simp (maxSteps := 1000000) (disch := (first | omega | (simp only [St.next_alloc, St.next_upd]; omega))) only [Nat.reduceAdd, Nat.reduceSub, Nat.reduceMul, Nat.reduceLT, Nat.reduceLeDiff, Nat.reduceEqDiff, ↓reduceIte, reduceCtorEq, Int.reduceAdd, Int.reduceSub, Int.reduceMul, Int.reduceLT, Int.reduceLE, Int.reduceEq, Int.reduceNe, Int.reduceToNat, Int.reduceNeg, go_sem, Try.results23]
    exact gc_here ⟨rfl, hend (by omega)⟩

/-- A number as bytes. -/
def enc (n : Nat) : List Int := if n < 128 then [(n : Int)] else ((n % 128 + 128 : Nat) : Int) :: enc (n / 128)
termination_by n
theorem enc_lt {n : Nat} (h : n < 128) : enc n = [(n : Int)] := by rw [enc, if_pos h]
theorem enc_ge {n : Nat} (h : ¬ n < 128) : enc n = ((n % 128 + 128 : Nat) : Int) :: enc (n / 128) := by rw [enc, if_neg h]
theorem enc_len : ∀ (k n : Nat), n < 128 ^ (k + 1) → (enc n).length ≤ k + 1
  | 0, n, h => by rw [enc_lt (by simpa using h)]; simp
  | k + 1, n, h => by
    by_cases hn : n < 128
    · rw [enc_lt hn]; simp
    · rw [enc_ge hn]
      have : n / 128 < 128 ^ (k + 1) := by
        rw [Nat.pow_succ] at h
        omega
      have := enc_len k (n / 128) this
      simp; omega
theorem or128 (m : Nat) (h : m < 128) : ibits .or .u8 (m : Int) 128 = ((m + 128 : Nat) : Int) := by
  have := or_add .u8 rfl (m : Int) 1 7 (by omega) (by simp; omega) (by omega) (by simp [IntKind.bits]; omega)
  have e : (1 : Int) * 2 ^ 7 = 128 := rfl
  rw [e] at this
  rw [this]; rfl

/-- What is laid while a number is put: its row so far. -/
def rowAt (A : St) (b1 lo : Nat) (acc : List Int) : Prop :=
  (acc = [] ∧ A.get b1 = some (.cells [.slice none 0 0] 30 (some 0))) ∨
  ∃ k, lo ≤ k ∧ k < A.next ∧ A.get b1 = some (.cells [.slice (some ⟨k, 0, some 1⟩) acc.length acc.length] 30 (some 0)) ∧ A.get k = some (.cells (acc.map (.int .u8 ·)) 5 (some 0))

set_option maxHeartbeats 1000000 in
theorem put_ok (w0 : World) (A : St) (n : Nat) (hn : n < 18446744073709551616) : ACalls Try.prog w0 10 #[.int .u64 n] A (fin (.string (strOfNums (enc n))) A) := by
  refine call_E Try.enters10 Try.func10 rfl (Nat.le_of_ble_eq_true rfl) fun hw hbd => ?_
  simp (maxSteps := 1000000) (disch := (first | omega | (simp only [St.next_alloc, St.next_upd]; omega))) only [Nat.reduceAdd, Nat.reduceSub, Nat.reduceMul, Nat.reduceLT, Nat.reduceLeDiff, Nat.reduceEqDiff, ↓reduceIte, reduceCtorEq, Int.reduceAdd, Int.reduceSub, Int.reduceMul, Int.reduceLT, Int.reduceLE, Int.reduceEq, Int.reduceNe, Int.reduceToNat, Int.reduceNeg, go_sem, Try.ntmps10, Try.results10]
  refine call1 (sevens_ok w0 _ _) ?_
  simp (maxSteps := 1000000) (disch := (first | omega | (simp only [St.next_alloc, St.next_upd]; omega))) only [Nat.reduceAdd, Nat.reduceSub, Nat.reduceMul, Nat.reduceLT, Nat.reduceLeDiff, Nat.reduceEqDiff, ↓reduceIte, reduceCtorEq, Int.reduceAdd, Int.reduceSub, Int.reduceMul, Int.reduceLT, Int.reduceLE, Int.reduceEq, Int.reduceNe, Int.reduceToNat, Int.reduceNeg, go_sem]
  refine aw_rangeFunc_E (by simp (maxSteps := 1000000) (disch := (first | omega | (simp only [St.next_alloc, St.next_upd]; omega))) only [Nat.reduceAdd, Nat.reduceSub, Nat.reduceMul, Nat.reduceLT, Nat.reduceLeDiff, Nat.reduceEqDiff, ↓reduceIte, reduceCtorEq, Int.reduceAdd, Int.reduceSub, Int.reduceMul, Int.reduceLT, Int.reduceLE, Int.reduceEq, Int.reduceNe, Int.reduceToNat, Int.reduceNeg, go_sem]; rfl) rfl ?_
  simp (maxSteps := 1000000) (disch := (first | omega | (simp only [St.next_alloc, St.next_upd]; omega))) only [Nat.reduceAdd, Nat.reduceSub, Nat.reduceMul, Nat.reduceLT, Nat.reduceLeDiff, Nat.reduceEqDiff, ↓reduceIte, reduceCtorEq, Int.reduceAdd, Int.reduceSub, Int.reduceMul, Int.reduceLT, Int.reduceLE, Int.reduceEq, Int.reduceNe, Int.reduceToNat, Int.reduceNeg, go_sem]
  refine gen_loop fun ρ0 asg body hρ hasg hbody => ?_
  have h3 : ρ0 3 = .pointer (some ⟨A.next, 0, none⟩) := by rw [hρ]; simp (maxSteps := 1000000) (disch := (first | omega | (simp only [St.next_alloc, St.next_upd]; omega))) only [Nat.reduceAdd, Nat.reduceSub, Nat.reduceMul, Nat.reduceLT, Nat.reduceLeDiff, Nat.reduceEqDiff, ↓reduceIte, reduceCtorEq, Int.reduceAdd, Int.reduceSub, Int.reduceMul, Int.reduceLT, Int.reduceLE, Int.reduceEq, Int.reduceNe, Int.reduceToNat, Int.reduceNeg, go_sem]
  obtain ⟨A0, hA0⟩ : ∃ A0, A0 = (((A.alloc (.cells [.slice none 0 0] 30 (some 0))).alloc (.cells [.int .u64 (n : Int)] 23 (some 0))).alloc (.dfr false)).alloc (.loop .ready none (tm 19 ρ0) #[8, 9] asg body) := ⟨_, rfl⟩
  rw [← hA0]
  have hlen : (enc n).length ≤ 10 := enc_len 9 n (by omega)
  refine (sevens1_ok w0 (fun m A' => Over A A' ∧ A.next + 4 ≤ A'.next ∧ m < 18446744073709551616 ∧ A'.get (A.next + 1) = some (.cells [.int .u64 m] 23 (some 0)) ∧ A'.get (A.next + 2) = some (.dfr false) ∧ A'.get (A.next + 3) = some (.loop .ready none (tm 19 ρ0) #[8, 9] asg body) ∧
      ∃ acc, enc n = acc ++ enc m ∧ rowAt A' A.next (A.next + 4) acc)
    (fun A' => Over A A' ∧ A.next + 4 ≤ A'.next ∧ A'.get (A.next + 2) = some (.dfr false) ∧ A'.get (A.next + 3) = some (.loop .ready none (tm 19 ρ0) #[8, 9] asg body) ∧ enc n ≠ [] ∧ rowAt A' A.next (A.next + 4) (enc n)) (A.next + 3) (A.next + 1) ?_ ?_ A0 n ?_).mono ?_
  · rintro m A' ⟨_, _, hm, hc, _⟩
    exact ⟨hc, hm⟩
  · rintro m A' ⟨hov, hnx, hm, hc, hd, hl, acc, hacc, hrow⟩
    refine ayield_E (upd (upd ρ0 8 (.int .u8 ((m % 128 : Nat) : Int))) 9 (.bool (decide (127 < (m : Int))))) hl rfl (setArgs_2 ..) ?_
    conv => arg 5; rw [hasg]
    simp (maxSteps := 1000000) (disch := (first | omega | (simp only [St.next_alloc, St.next_upd]; omega))) only [Nat.reduceAdd, Nat.reduceSub, Nat.reduceMul, Nat.reduceLT, Nat.reduceLeDiff, Nat.reduceEqDiff, ↓reduceIte, reduceCtorEq, Int.reduceAdd, Int.reduceSub, Int.reduceMul, Int.reduceLT, Int.reduceLE, Int.reduceEq, Int.reduceNe, Int.reduceToNat, Int.reduceNeg, go_sem]
    refine asgQ_of hl ?_
    obtain ⟨A2, hA2⟩ : ∃ A2, A2 = A'.upd (A.next + 3) (some (.loop .busy none (tm 19 ρ0) #[8, 9] asg body)) := ⟨_, rfl⟩
    rw [← hA2]
    refine aw_of ?_
    conv => arg 5; rw [hbody]
    have hn2 : A2.next = A'.next := by rw [hA2]; rfl
    have hg2 : ∀ b, b ≠ A.next + 3 → A2.get b = A'.get b := fun b hb => by rw [hA2, St.get_upd, if_neg hb]
    have hl2 : A2.get (A.next + 3) = some (.loop .busy none (tm 19 ρ0) #[8, 9] asg body) := by rw [hA2]; exact get_upd_same ..
    have hov2 : Over A A2 := by rw [hA2]; exact hov.upd (by omega) _
    have hc2 : A2.get (A.next + 1) = some (.cells [.int .u64 (m : Int)] 23 (some 0)) := by rw [hg2 _ (by omega)]; exact hc
    have hd2 : A2.get (A.next + 2) = some (.dfr false) := by rw [hg2 _ (by omega)]; exact hd
    have hal : acc.length ≤ 10 := by have := congrArg List.length hacc; rw [List.length_append] at this; omega
    simp (maxSteps := 1000000) (disch := (first | omega | (simp only [St.next_alloc, St.next_upd]; omega))) only [Nat.reduceAdd, Nat.reduceSub, Nat.reduceMul, Nat.reduceLT, Nat.reduceLeDiff, Nat.reduceEqDiff, ↓reduceIte, reduceCtorEq, Int.reduceAdd, Int.reduceSub, Int.reduceMul, Int.reduceLT, Int.reduceLE, Int.reduceEq, Int.reduceNe, Int.reduceToNat, Int.reduceNeg, go_sem, h3]
    rcases hrow with ⟨hacc0, hb1⟩ | ⟨k, hk0, hkn, hb1, hkc⟩
    · have hb2 : A2.get A.next = some (.cells [.slice none 0 0] 30 (some 0)) := by rw [hg2 _ (by omega)]; exact hb1
      refine ifB_dec (fun h127 => ?_) (fun h127 => ?_)
      · simp (maxSteps := 1000000) (disch := (first | omega | (simp only [St.next_alloc, St.next_upd]; omega))) only [Nat.reduceAdd, Nat.reduceSub, Nat.reduceMul, Nat.reduceLT, Nat.reduceLeDiff, Nat.reduceEqDiff, ↓reduceIte, reduceCtorEq, Int.reduceAdd, Int.reduceSub, Int.reduceMul, Int.reduceLT, Int.reduceLE, Int.reduceEq, Int.reduceNe, Int.reduceToNat, Int.reduceNeg, go_sem, h3, or128 (m % 128) (by omega)]
        simp (maxSteps := 1000000) (disch := (first | omega | (simp only [St.next_alloc, St.next_upd]; omega))) only [Nat.reduceAdd, Nat.reduceSub, Nat.reduceMul, Nat.reduceLT, Nat.reduceLeDiff, Nat.reduceEqDiff, ↓reduceIte, reduceCtorEq, Int.reduceAdd, Int.reduceSub, Int.reduceMul, Int.reduceLT, Int.reduceLE, Int.reduceEq, Int.reduceNe, Int.reduceToNat, Int.reduceNeg, go_sem, h3, hb2]
        rw [buildSlice_one Try.el30 Try.sz5 Try.zero5 rfl rfl]
        simp (maxSteps := 1000000) (disch := (first | omega | (simp only [St.next_alloc, St.next_upd]; omega))) only [Nat.reduceAdd, Nat.reduceSub, Nat.reduceMul, Nat.reduceLT, Nat.reduceLeDiff, Nat.reduceEqDiff, ↓reduceIte, reduceCtorEq, Int.reduceAdd, Int.reduceSub, Int.reduceMul, Int.reduceLT, Int.reduceLE, Int.reduceEq, Int.reduceNe, Int.reduceToNat, Int.reduceNeg, go_sem]
        rw [append_nil Try.el30 Try.underlying30 (by intro k; exact TypeDesc.noConfusion) Try.sz5 Try.byt5 Try.zero5 rfl (by decide) (srcCells_slice (by decide) (get_alloc_same ..) (Nat.le_refl _)) (by decide) (by decide) (by decide)]
        simp (maxSteps := 1000000) (disch := (first | omega | (simp only [St.next_alloc, St.next_upd]; omega))) only [Nat.reduceAdd, Nat.reduceSub, Nat.reduceMul, Nat.reduceLT, Nat.reduceLeDiff, Nat.reduceEqDiff, ↓reduceIte, reduceCtorEq, Int.reduceAdd, Int.reduceSub, Int.reduceMul, Int.reduceLT, Int.reduceLE, Int.reduceEq, Int.reduceNe, Int.reduceToNat, Int.reduceNeg, go_sem, h3, hb2]
        rw [storeC_one _ _ _ _ _ _ _ rfl rfl (Nat.le_refl _) (Nat.le_refl _)]
        simp (maxSteps := 1000000) (disch := (first | omega | (simp only [St.next_alloc, St.next_upd]; omega))) only [Nat.reduceAdd, Nat.reduceSub, Nat.reduceMul, Nat.reduceLT, Nat.reduceLeDiff, Nat.reduceEqDiff, ↓reduceIte, reduceCtorEq, Int.reduceAdd, Int.reduceSub, Int.reduceMul, Int.reduceLT, Int.reduceLE, Int.reduceEq, Int.reduceNe, Int.reduceToNat, Int.reduceNeg, go_sem]
        refine roundQ_normal (pe := none) (by simp (disch := (first | omega | (simp only [St.next_alloc, St.next_upd]; omega))) only [St.get_upd, St.get_alloc, St.next_alloc, St.next_upd, ↓reduceIte, natF_lt, natF_gt, Nat.add_assoc, Nat.reduceAdd, Nat.reduceEqDiff, Nat.add_left_cancel_iff]; exact hl2) ⟨rfl, ?_, fun h127 => ?_, fun h127 => ?_⟩
        · simp (disch := (first | omega | (simp only [St.next_alloc, St.next_upd]; omega))) only [St.get_upd, St.get_alloc, St.next_alloc, St.next_upd, ↓reduceIte, natF_lt, natF_gt, Nat.add_assoc, Nat.reduceAdd, Nat.reduceEqDiff, Nat.add_left_cancel_iff, hc2]
        · refine ⟨((((hov2.alloc _).alloc _).upd (Nat.le_refl _) _).upd (by omega) _).upd (by omega) _, by simp (disch := (first | omega | (simp only [St.next_alloc, St.next_upd]; omega))) only [St.get_upd, St.get_alloc, St.next_alloc, St.next_upd, ↓reduceIte, natF_lt, natF_gt, Nat.add_assoc, Nat.reduceAdd, Nat.reduceEqDiff, Nat.add_left_cancel_iff]; omega, by omega, ?_, ?_, acc ++ [((m % 128 + 128 : Nat) : Int)], ?_, ?_⟩
          · simp (disch := (first | omega | (simp only [St.next_alloc, St.next_upd]; omega))) only [St.get_upd, St.get_alloc, St.next_alloc, St.next_upd, ↓reduceIte, natF_lt, natF_gt, Nat.add_assoc, Nat.reduceAdd, Nat.reduceEqDiff, Nat.add_left_cancel_iff, hd2]
          · simp (disch := (first | omega | (simp only [St.next_alloc, St.next_upd]; omega))) only [St.get_upd, St.get_alloc, St.next_alloc, St.next_upd, ↓reduceIte, natF_lt, natF_gt, Nat.add_assoc, Nat.reduceAdd, Nat.reduceEqDiff, Nat.add_left_cancel_iff]
          · rw [hacc, enc_ge (by omega)]; simp
          · skip
            refine .inr ⟨A2.next + 1, by omega, by simp (disch := (first | omega | (simp only [St.next_alloc, St.next_upd]; omega))) only [St.get_upd, St.get_alloc, St.next_alloc, St.next_upd, ↓reduceIte, natF_lt, natF_gt, Nat.add_assoc, Nat.reduceAdd, Nat.reduceEqDiff, Nat.add_left_cancel_iff]; omega, ?_, ?_⟩
            · simp (disch := (first | omega | (simp only [St.next_alloc, St.next_upd]; omega))) only [St.get_upd, St.get_alloc, St.next_alloc, St.next_upd, ↓reduceIte, natF_lt, natF_gt, Nat.add_assoc, Nat.reduceAdd, Nat.reduceEqDiff, Nat.add_left_cancel_iff]
              rw [List.length_append]; rw [hacc0]; rfl
            · simp (disch := (first | omega | (simp only [St.next_alloc, St.next_upd]; omega))) only [St.get_upd, St.get_alloc, St.next_alloc, St.next_upd, ↓reduceIte, natF_lt, natF_gt, Nat.add_assoc, Nat.reduceAdd, Nat.reduceEqDiff, Nat.add_left_cancel_iff]
              rw [hacc0]; rfl
        · omega
      · simp (maxSteps := 1000000) (disch := (first | omega | (simp only [St.next_alloc, St.next_upd]; omega))) only [Nat.reduceAdd, Nat.reduceSub, Nat.reduceMul, Nat.reduceLT, Nat.reduceLeDiff, Nat.reduceEqDiff, ↓reduceIte, reduceCtorEq, Int.reduceAdd, Int.reduceSub, Int.reduceMul, Int.reduceLT, Int.reduceLE, Int.reduceEq, Int.reduceNe, Int.reduceToNat, Int.reduceNeg, go_sem, h3]
        have hencn : enc n = acc ++ [((m % 128 : Nat) : Int)] := by rw [hacc, enc_lt (by omega), Nat.mod_eq_of_lt (by omega)]
        simp (maxSteps := 1000000) (disch := (first | omega | (simp only [St.next_alloc, St.next_upd]; omega))) only [Nat.reduceAdd, Nat.reduceSub, Nat.reduceMul, Nat.reduceLT, Nat.reduceLeDiff, Nat.reduceEqDiff, ↓reduceIte, reduceCtorEq, Int.reduceAdd, Int.reduceSub, Int.reduceMul, Int.reduceLT, Int.reduceLE, Int.reduceEq, Int.reduceNe, Int.reduceToNat, Int.reduceNeg, go_sem, h3, hb2]
        rw [buildSlice_one Try.el30 Try.sz5 Try.zero5 rfl rfl]
        simp (maxSteps := 1000000) (disch := (first | omega | (simp only [St.next_alloc, St.next_upd]; omega))) only [Nat.reduceAdd, Nat.reduceSub, Nat.reduceMul, Nat.reduceLT, Nat.reduceLeDiff, Nat.reduceEqDiff, ↓reduceIte, reduceCtorEq, Int.reduceAdd, Int.reduceSub, Int.reduceMul, Int.reduceLT, Int.reduceLE, Int.reduceEq, Int.reduceNe, Int.reduceToNat, Int.reduceNeg, go_sem]
        rw [append_nil Try.el30 Try.underlying30 (by intro k; exact TypeDesc.noConfusion) Try.sz5 Try.byt5 Try.zero5 rfl (by decide) (srcCells_slice (by decide) (get_alloc_same ..) (Nat.le_refl _)) (by decide) (by decide) (by decide)]
        simp (maxSteps := 1000000) (disch := (first | omega | (simp only [St.next_alloc, St.next_upd]; omega))) only [Nat.reduceAdd, Nat.reduceSub, Nat.reduceMul, Nat.reduceLT, Nat.reduceLeDiff, Nat.reduceEqDiff, ↓reduceIte, reduceCtorEq, Int.reduceAdd, Int.reduceSub, Int.reduceMul, Int.reduceLT, Int.reduceLE, Int.reduceEq, Int.reduceNe, Int.reduceToNat, Int.reduceNeg, go_sem, h3, hb2]
        rw [storeC_one _ _ _ _ _ _ _ rfl rfl (Nat.le_refl _) (Nat.le_refl _)]
        simp (maxSteps := 1000000) (disch := (first | omega | (simp only [St.next_alloc, St.next_upd]; omega))) only [Nat.reduceAdd, Nat.reduceSub, Nat.reduceMul, Nat.reduceLT, Nat.reduceLeDiff, Nat.reduceEqDiff, ↓reduceIte, reduceCtorEq, Int.reduceAdd, Int.reduceSub, Int.reduceMul, Int.reduceLT, Int.reduceLE, Int.reduceEq, Int.reduceNe, Int.reduceToNat, Int.reduceNeg, go_sem]
        refine roundQ_normal (pe := none) (by simp (disch := (first | omega | (simp only [St.next_alloc, St.next_upd]; omega))) only [St.get_upd, St.get_alloc, St.next_alloc, St.next_upd, ↓reduceIte, natF_lt, natF_gt, Nat.add_assoc, Nat.reduceAdd, Nat.reduceEqDiff, Nat.add_left_cancel_iff]; exact hl2) ⟨rfl, ?_, fun h127 => ?_, fun h127 => ?_⟩
        · simp (disch := (first | omega | (simp only [St.next_alloc, St.next_upd]; omega))) only [St.get_upd, St.get_alloc, St.next_alloc, St.next_upd, ↓reduceIte, natF_lt, natF_gt, Nat.add_assoc, Nat.reduceAdd, Nat.reduceEqDiff, Nat.add_left_cancel_iff, hc2]
        · omega
        · refine ⟨((((hov2.alloc _).alloc _).upd (Nat.le_refl _) _).upd (by omega) _), by simp (disch := (first | omega | (simp only [St.next_alloc, St.next_upd]; omega))) only [St.get_upd, St.get_alloc, St.next_alloc, St.next_upd, ↓reduceIte, natF_lt, natF_gt, Nat.add_assoc, Nat.reduceAdd, Nat.reduceEqDiff, Nat.add_left_cancel_iff]; omega, ?_, ?_, ?_, ?_⟩
          · simp (disch := (first | omega | (simp only [St.next_alloc, St.next_upd]; omega))) only [St.get_upd, St.get_alloc, St.next_alloc, St.next_upd, ↓reduceIte, natF_lt, natF_gt, Nat.add_assoc, Nat.reduceAdd, Nat.reduceEqDiff, Nat.add_left_cancel_iff, hd2]
          · simp (disch := (first | omega | (simp only [St.next_alloc, St.next_upd]; omega))) only [St.get_upd, St.get_alloc, St.next_alloc, St.next_upd, ↓reduceIte, natF_lt, natF_gt, Nat.add_assoc, Nat.reduceAdd, Nat.reduceEqDiff, Nat.add_left_cancel_iff]
          · rw [hencn]; simp
          · rw [hencn]
            refine .inr ⟨A2.next + 1, by omega, by simp (disch := (first | omega | (simp only [St.next_alloc, St.next_upd]; omega))) only [St.get_upd, St.get_alloc, St.next_alloc, St.next_upd, ↓reduceIte, natF_lt, natF_gt, Nat.add_assoc, Nat.reduceAdd, Nat.reduceEqDiff, Nat.add_left_cancel_iff]; omega, ?_, ?_⟩
            · simp (disch := (first | omega | (simp only [St.next_alloc, St.next_upd]; omega))) only [St.get_upd, St.get_alloc, St.next_alloc, St.next_upd, ↓reduceIte, natF_lt, natF_gt, Nat.add_assoc, Nat.reduceAdd, Nat.reduceEqDiff, Nat.add_left_cancel_iff]
              rw [List.length_append]; rw [hacc0]; rfl
            · simp (disch := (first | omega | (simp only [St.next_alloc, St.next_upd]; omega))) only [St.get_upd, St.get_alloc, St.next_alloc, St.next_upd, ↓reduceIte, natF_lt, natF_gt, Nat.add_assoc, Nat.reduceAdd, Nat.reduceEqDiff, Nat.add_left_cancel_iff]
              rw [hacc0]; rfl
    · have hb2 : A2.get A.next = some (.cells [.slice (some ⟨k, 0, some 1⟩) acc.length acc.length] 30 (some 0)) := by rw [hg2 _ (by omega)]; exact hb1
      have hkc2 : A2.get k = some (.cells (acc.map (.int .u8 ·)) 5 (some 0)) := by rw [hg2 _ (by omega)]; exact hkc
      refine ifB_dec (fun h127 => ?_) (fun h127 => ?_)
      · simp (maxSteps := 1000000) (disch := (first | omega | (simp only [St.next_alloc, St.next_upd]; omega))) only [Nat.reduceAdd, Nat.reduceSub, Nat.reduceMul, Nat.reduceLT, Nat.reduceLeDiff, Nat.reduceEqDiff, ↓reduceIte, reduceCtorEq, Int.reduceAdd, Int.reduceSub, Int.reduceMul, Int.reduceLT, Int.reduceLE, Int.reduceEq, Int.reduceNe, Int.reduceToNat, Int.reduceNeg, go_sem, h3, or128 (m % 128) (by omega)]
        simp (maxSteps := 1000000) (disch := (first | omega | (simp only [St.next_alloc, St.next_upd]; omega))) only [Nat.reduceAdd, Nat.reduceSub, Nat.reduceMul, Nat.reduceLT, Nat.reduceLeDiff, Nat.reduceEqDiff, ↓reduceIte, reduceCtorEq, Int.reduceAdd, Int.reduceSub, Int.reduceMul, Int.reduceLT, Int.reduceLE, Int.reduceEq, Int.reduceNe, Int.reduceToNat, Int.reduceNeg, go_sem, h3, hb2]
        rw [buildSlice_one Try.el30 Try.sz5 Try.zero5 rfl rfl]
        have hk3 : (A2.alloc (.cells [.int .u8 ((m % 128 + 128 : Nat) : Int)] 5 (some 0))).get k = some (.cells (acc.map (.int .u8 ·)) 5 (some 0)) := by
          simp (disch := (first | omega | (simp only [St.next_alloc, St.next_upd]; omega))) only [St.get_upd, St.get_alloc, St.next_alloc, St.next_upd, ↓reduceIte, natF_lt, natF_gt, Nat.add_assoc, Nat.reduceAdd, Nat.reduceEqDiff, Nat.add_left_cancel_iff]
          exact hkc2
        simp (maxSteps := 1000000) (disch := (first | omega | (simp only [St.next_alloc, St.next_upd]; omega))) only [Nat.reduceAdd, Nat.reduceSub, Nat.reduceMul, Nat.reduceLT, Nat.reduceLeDiff, Nat.reduceEqDiff, ↓reduceIte, reduceCtorEq, Int.reduceAdd, Int.reduceSub, Int.reduceMul, Int.reduceLT, Int.reduceLE, Int.reduceEq, Int.reduceNe, Int.reduceToNat, Int.reduceNeg, go_sem]
        rw [append_own Try.el30 Try.underlying30 (by intro k; exact TypeDesc.noConfusion) Try.sz5 Try.byt5 Try.zero5 rfl (srcCells_slice (by decide) (get_alloc_same ..) (Nat.le_refl _)) (by decide) (by omega) (by omega) hk3 (by simp) rfl]
        simp (maxSteps := 1000000) (disch := (first | omega | (simp only [St.next_alloc, St.next_upd]; omega))) only [Nat.reduceAdd, Nat.reduceSub, Nat.reduceMul, Nat.reduceLT, Nat.reduceLeDiff, Nat.reduceEqDiff, ↓reduceIte, reduceCtorEq, Int.reduceAdd, Int.reduceSub, Int.reduceMul, Int.reduceLT, Int.reduceLE, Int.reduceEq, Int.reduceNe, Int.reduceToNat, Int.reduceNeg, go_sem, h3, hb2]
        rw [storeC_one _ _ _ _ _ _ _ rfl rfl (Nat.le_refl _) (Nat.le_refl _)]
        simp (maxSteps := 1000000) (disch := (first | omega | (simp only [St.next_alloc, St.next_upd]; omega))) only [Nat.reduceAdd, Nat.reduceSub, Nat.reduceMul, Nat.reduceLT, Nat.reduceLeDiff, Nat.reduceEqDiff, ↓reduceIte, reduceCtorEq, Int.reduceAdd, Int.reduceSub, Int.reduceMul, Int.reduceLT, Int.reduceLE, Int.reduceEq, Int.reduceNe, Int.reduceToNat, Int.reduceNeg, go_sem]
        refine roundQ_normal (pe := none) (by simp (disch := (first | omega | (simp only [St.next_alloc, St.next_upd]; omega))) only [St.get_upd, St.get_alloc, St.next_alloc, St.next_upd, ↓reduceIte, natF_lt, natF_gt, Nat.add_assoc, Nat.reduceAdd, Nat.reduceEqDiff, Nat.add_left_cancel_iff]; exact hl2) ⟨rfl, ?_, fun h127 => ?_, fun h127 => ?_⟩
        · simp (disch := (first | omega | (simp only [St.next_alloc, St.next_upd]; omega))) only [St.get_upd, St.get_alloc, St.next_alloc, St.next_upd, ↓reduceIte, natF_lt, natF_gt, Nat.add_assoc, Nat.reduceAdd, Nat.reduceEqDiff, Nat.add_left_cancel_iff, hc2]
        · refine ⟨(((((hov2.alloc _).upd (b := k) (by omega) none).alloc _).upd (Nat.le_refl _) _).upd (by omega) _).upd (by omega) _, by simp (disch := (first | omega | (simp only [St.next_alloc, St.next_upd]; omega))) only [St.get_upd, St.get_alloc, St.next_alloc, St.next_upd, ↓reduceIte, natF_lt, natF_gt, Nat.add_assoc, Nat.reduceAdd, Nat.reduceEqDiff, Nat.add_left_cancel_iff]; omega, by omega, ?_, ?_, acc ++ [((m % 128 + 128 : Nat) : Int)], ?_, ?_⟩
          · simp (disch := (first | omega | (simp only [St.next_alloc, St.next_upd]; omega))) only [St.get_upd, St.get_alloc, St.next_alloc, St.next_upd, ↓reduceIte, natF_lt, natF_gt, Nat.add_assoc, Nat.reduceAdd, Nat.reduceEqDiff, Nat.add_left_cancel_iff, hd2]
          · simp (disch := (first | omega | (simp only [St.next_alloc, St.next_upd]; omega))) only [St.get_upd, St.get_alloc, St.next_alloc, St.next_upd, ↓reduceIte, natF_lt, natF_gt, Nat.add_assoc, Nat.reduceAdd, Nat.reduceEqDiff, Nat.add_left_cancel_iff]
          · rw [hacc, enc_ge (by omega)]; simp
          · skip
            refine .inr ⟨A2.next + 1, by omega, by simp (disch := (first | omega | (simp only [St.next_alloc, St.next_upd]; omega))) only [St.get_upd, St.get_alloc, St.next_alloc, St.next_upd, ↓reduceIte, natF_lt, natF_gt, Nat.add_assoc, Nat.reduceAdd, Nat.reduceEqDiff, Nat.add_left_cancel_iff]; omega, ?_, ?_⟩
            · simp (disch := (first | omega | (simp only [St.next_alloc, St.next_upd]; omega))) only [St.get_upd, St.get_alloc, St.next_alloc, St.next_upd, ↓reduceIte, natF_lt, natF_gt, Nat.add_assoc, Nat.reduceAdd, Nat.reduceEqDiff, Nat.add_left_cancel_iff]
              rw [List.length_append]; rfl
            · simp (disch := (first | omega | (simp only [St.next_alloc, St.next_upd]; omega))) only [St.get_upd, St.get_alloc, St.next_alloc, St.next_upd, ↓reduceIte, natF_lt, natF_gt, Nat.add_assoc, Nat.reduceAdd, Nat.reduceEqDiff, Nat.add_left_cancel_iff]
              rw [List.take_of_length_le (by simp)]; simp
        · omega
      · simp (maxSteps := 1000000) (disch := (first | omega | (simp only [St.next_alloc, St.next_upd]; omega))) only [Nat.reduceAdd, Nat.reduceSub, Nat.reduceMul, Nat.reduceLT, Nat.reduceLeDiff, Nat.reduceEqDiff, ↓reduceIte, reduceCtorEq, Int.reduceAdd, Int.reduceSub, Int.reduceMul, Int.reduceLT, Int.reduceLE, Int.reduceEq, Int.reduceNe, Int.reduceToNat, Int.reduceNeg, go_sem, h3]
        have hencn : enc n = acc ++ [((m % 128 : Nat) : Int)] := by rw [hacc, enc_lt (by omega), Nat.mod_eq_of_lt (by omega)]
        simp (maxSteps := 1000000) (disch := (first | omega | (simp only [St.next_alloc, St.next_upd]; omega))) only [Nat.reduceAdd, Nat.reduceSub, Nat.reduceMul, Nat.reduceLT, Nat.reduceLeDiff, Nat.reduceEqDiff, ↓reduceIte, reduceCtorEq, Int.reduceAdd, Int.reduceSub, Int.reduceMul, Int.reduceLT, Int.reduceLE, Int.reduceEq, Int.reduceNe, Int.reduceToNat, Int.reduceNeg, go_sem, h3, hb2]
        rw [buildSlice_one Try.el30 Try.sz5 Try.zero5 rfl rfl]
        have hk3 : (A2.alloc (.cells [.int .u8 ((m % 128 : Nat) : Int)] 5 (some 0))).get k = some (.cells (acc.map (.int .u8 ·)) 5 (some 0)) := by
          simp (disch := (first | omega | (simp only [St.next_alloc, St.next_upd]; omega))) only [St.get_upd, St.get_alloc, St.next_alloc, St.next_upd, ↓reduceIte, natF_lt, natF_gt, Nat.add_assoc, Nat.reduceAdd, Nat.reduceEqDiff, Nat.add_left_cancel_iff]
          exact hkc2
        simp (maxSteps := 1000000) (disch := (first | omega | (simp only [St.next_alloc, St.next_upd]; omega))) only [Nat.reduceAdd, Nat.reduceSub, Nat.reduceMul, Nat.reduceLT, Nat.reduceLeDiff, Nat.reduceEqDiff, ↓reduceIte, reduceCtorEq, Int.reduceAdd, Int.reduceSub, Int.reduceMul, Int.reduceLT, Int.reduceLE, Int.reduceEq, Int.reduceNe, Int.reduceToNat, Int.reduceNeg, go_sem]
        rw [append_own Try.el30 Try.underlying30 (by intro k; exact TypeDesc.noConfusion) Try.sz5 Try.byt5 Try.zero5 rfl (srcCells_slice (by decide) (get_alloc_same ..) (Nat.le_refl _)) (by decide) (by omega) (by omega) hk3 (by simp) rfl]
        simp (maxSteps := 1000000) (disch := (first | omega | (simp only [St.next_alloc, St.next_upd]; omega))) only [Nat.reduceAdd, Nat.reduceSub, Nat.reduceMul, Nat.reduceLT, Nat.reduceLeDiff, Nat.reduceEqDiff, ↓reduceIte, reduceCtorEq, Int.reduceAdd, Int.reduceSub, Int.reduceMul, Int.reduceLT, Int.reduceLE, Int.reduceEq, Int.reduceNe, Int.reduceToNat, Int.reduceNeg, go_sem, h3, hb2]
        rw [storeC_one _ _ _ _ _ _ _ rfl rfl (Nat.le_refl _) (Nat.le_refl _)]
        simp (maxSteps := 1000000) (disch := (first | omega | (simp only [St.next_alloc, St.next_upd]; omega))) only [Nat.reduceAdd, Nat.reduceSub, Nat.reduceMul, Nat.reduceLT, Nat.reduceLeDiff, Nat.reduceEqDiff, ↓reduceIte, reduceCtorEq, Int.reduceAdd, Int.reduceSub, Int.reduceMul, Int.reduceLT, Int.reduceLE, Int.reduceEq, Int.reduceNe, Int.reduceToNat, Int.reduceNeg, go_sem]
        refine roundQ_normal (pe := none) (by simp (disch := (first | omega | (simp only [St.next_alloc, St.next_upd]; omega))) only [St.get_upd, St.get_alloc, St.next_alloc, St.next_upd, ↓reduceIte, natF_lt, natF_gt, Nat.add_assoc, Nat.reduceAdd, Nat.reduceEqDiff, Nat.add_left_cancel_iff]; exact hl2) ⟨rfl, ?_, fun h127 => ?_, fun h127 => ?_⟩
        · simp (disch := (first | omega | (simp only [St.next_alloc, St.next_upd]; omega))) only [St.get_upd, St.get_alloc, St.next_alloc, St.next_upd, ↓reduceIte, natF_lt, natF_gt, Nat.add_assoc, Nat.reduceAdd, Nat.reduceEqDiff, Nat.add_left_cancel_iff, hc2]
        · omega
        · refine ⟨(((((hov2.alloc _).upd (b := k) (by omega) none).alloc _).upd (Nat.le_refl _) _).upd (by omega) _), by simp (disch := (first | omega | (simp only [St.next_alloc, St.next_upd]; omega))) only [St.get_upd, St.get_alloc, St.next_alloc, St.next_upd, ↓reduceIte, natF_lt, natF_gt, Nat.add_assoc, Nat.reduceAdd, Nat.reduceEqDiff, Nat.add_left_cancel_iff]; omega, ?_, ?_, ?_, ?_⟩
          · simp (disch := (first | omega | (simp only [St.next_alloc, St.next_upd]; omega))) only [St.get_upd, St.get_alloc, St.next_alloc, St.next_upd, ↓reduceIte, natF_lt, natF_gt, Nat.add_assoc, Nat.reduceAdd, Nat.reduceEqDiff, Nat.add_left_cancel_iff, hd2]
          · simp (disch := (first | omega | (simp only [St.next_alloc, St.next_upd]; omega))) only [St.get_upd, St.get_alloc, St.next_alloc, St.next_upd, ↓reduceIte, natF_lt, natF_gt, Nat.add_assoc, Nat.reduceAdd, Nat.reduceEqDiff, Nat.add_left_cancel_iff]
          · rw [hencn]; simp
          · rw [hencn]
            refine .inr ⟨A2.next + 1, by omega, by simp (disch := (first | omega | (simp only [St.next_alloc, St.next_upd]; omega))) only [St.get_upd, St.get_alloc, St.next_alloc, St.next_upd, ↓reduceIte, natF_lt, natF_gt, Nat.add_assoc, Nat.reduceAdd, Nat.reduceEqDiff, Nat.add_left_cancel_iff]; omega, ?_, ?_⟩
            · simp (disch := (first | omega | (simp only [St.next_alloc, St.next_upd]; omega))) only [St.get_upd, St.get_alloc, St.next_alloc, St.next_upd, ↓reduceIte, natF_lt, natF_gt, Nat.add_assoc, Nat.reduceAdd, Nat.reduceEqDiff, Nat.add_left_cancel_iff]
              rw [List.length_append]; rfl
            · simp (disch := (first | omega | (simp only [St.next_alloc, St.next_upd]; omega))) only [St.get_upd, St.get_alloc, St.next_alloc, St.next_upd, ↓reduceIte, natF_lt, natF_gt, Nat.add_assoc, Nat.reduceAdd, Nat.reduceEqDiff, Nat.add_left_cancel_iff]
              rw [List.take_of_length_le (by simp)]; simp
  · rw [hA0]
    refine ⟨((((Over.refl A).alloc _).alloc _).alloc _).alloc _, by simp (disch := (first | omega | (simp only [St.next_alloc, St.next_upd]; omega))) only [St.get_upd, St.get_alloc, St.next_alloc, St.next_upd, ↓reduceIte, natF_lt, natF_gt, Nat.add_assoc, Nat.reduceAdd, Nat.reduceEqDiff, Nat.add_left_cancel_iff]; omega, hn, ?_, ?_, ?_, [], rfl, .inl ⟨rfl, ?_⟩⟩
    · simp (disch := (first | omega | (simp only [St.next_alloc, St.next_upd]; omega))) only [St.get_upd, St.get_alloc, St.next_alloc, St.next_upd, ↓reduceIte, natF_lt, natF_gt, Nat.add_assoc, Nat.reduceAdd, Nat.reduceEqDiff, Nat.add_left_cancel_iff]
    · simp (disch := (first | omega | (simp only [St.next_alloc, St.next_upd]; omega))) only [St.get_upd, St.get_alloc, St.next_alloc, St.next_upd, ↓reduceIte, natF_lt, natF_gt, Nat.add_assoc, Nat.reduceAdd, Nat.reduceEqDiff, Nat.add_left_cancel_iff]
    · simp (disch := (first | omega | (simp only [St.next_alloc, St.next_upd]; omega))) only [St.get_upd, St.get_alloc, St.next_alloc, St.next_upd, ↓reduceIte, natF_lt, natF_gt, Nat.add_assoc, Nat.reduceAdd, Nat.reduceEqDiff, Nat.add_left_cancel_iff]
    · simp (disch := (first | omega | (simp only [St.next_alloc, St.next_upd]; omega))) only [St.get_upd, St.get_alloc, St.next_alloc, St.next_upd, ↓reduceIte, natF_lt, natF_gt, Nat.add_assoc, Nat.reduceAdd, Nat.reduceEqDiff, Nat.add_left_cancel_iff]
  · rintro e A2 ⟨rfl, hov, hnx, hd, hl, hne, hrow⟩
    refine rfQ_normal hl (by decide) ?_
    have hpos : (enc n).length ≠ 0 := fun h => hne (List.eq_nil_of_length_eq_zero h)
    rcases hrow with ⟨h0, _⟩ | ⟨k, hk0, hkn, hb1, hkc⟩
    · exact absurd h0 hne
    simp (maxSteps := 1000000) (disch := (first | omega | (simp only [St.next_alloc, St.next_upd]; omega))) only [Nat.reduceAdd, Nat.reduceSub, Nat.reduceMul, Nat.reduceLT, Nat.reduceLeDiff, Nat.reduceEqDiff, ↓reduceIte, reduceCtorEq, Int.reduceAdd, Int.reduceSub, Int.reduceMul, Int.reduceLT, Int.reduceLE, Int.reduceEq, Int.reduceNe, Int.reduceToNat, Int.reduceNeg, go_sem, hb1, hkc, Try.results10]
    rw [textC_some (l := enc n) (by simp) (by rw [List.drop_zero]; exact List.take_of_length_le (by simp))]
    simp (maxSteps := 1000000) (disch := (first | omega | (simp only [St.next_alloc, St.next_upd]; omega))) only [Nat.reduceAdd, Nat.reduceSub, Nat.reduceMul, Nat.reduceLT, Nat.reduceLeDiff, Nat.reduceEqDiff, ↓reduceIte, reduceCtorEq, Int.reduceAdd, Int.reduceSub, Int.reduceMul, Int.reduceLT, Int.reduceLE, Int.reduceEq, Int.reduceNe, Int.reduceToNat, Int.reduceNeg, go_sem, hd, Try.results10]
    exact gc_fin hw ((hov.upd (by omega) _).upd (by omega) _) (by simp only [bnd_string])
end Go.Fw
