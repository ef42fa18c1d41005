import Derived.Test.YtofhiplcpmhlcaaFwG
set_option linter.unusedSimpArgs false
set_option linter.unusedVariables false
namespace Go.Fw
open Go.Proofs Go.RowKit
attribute [local go_sem] List.length_cons List.length_nil Nat.zero_add Nat.add_zero Nat.zero_mul Nat.mul_one Int.toNat_zero Int.toNat_natCast List.map_cons List.map_nil List.map_toArray List.toList_toArray List.append_toArray List.append_eq List.nil_append List.cons_append List.append_nil List.all_toArray List.all_cons List.all_nil Bool.and_true Bool.true_and Bool.and_self List.getElem?_toArray List.getElem?_cons_zero List.getElem?_cons_succ List.set_cons_zero List.set_cons_succ List.drop_zero List.drop_succ_cons List.take_zero List.take_succ_cons Option.bind_some Option.map_some id true_and and_true and_self St.next_alloc St.next_upd beq_self_eq_true Bool.not_true Bool.not_false Bool.false_eq_true false_implies true_implies Option.isNone_none Option.isNone_some Option.isSome_none Option.isSome_some ge_iff_le gt_iff_lt Nat.sub_zero Nat.add_assoc IntWalk.i64_in IntWalk.u64_in IntWalk.u8_in IntWalk.u32_in IntWalk.i32_in IntWalk.u16_in dec_not Bool.not_eq_true decide_true decide_false ne_eq not_true_eq_false not_false_eq_true Bool.true_or Bool.or_true Bool.or_false Bool.false_or Bool.and_false Bool.false_and upd_apply rd_eq ar_zero ar_succ ar_nil tm_size tm_getD tm_set E_tmps E_defers put_E put_none eval_tmp eval_const eval_func setArgs_0 setArgs_1 setArgs_2 append_lit stepV_some stepA_some guardO_true ifB_true ifB_false wantV_true wantV_false wantV_dec_t wantV_dec_f ifB_dec_t ifB_dec_f condV_bool dec_and dec_or isB_bool someB_t someB_f okO_tmp okO_func okO_int okO_bool okO_string okO_ptr0 okO_slice0 okO_nilFunc okO_nilIface okO_map0 okO_agg wanted_none wanted_some lookT_some aopsL_nil aopsL_cons wpA_skip wpA_label wpA_exit wpA_goto wpA_ret wpA_seq wpA_block wpA_region wpA_cond wpA_loop wpA_rangeFunc wpA_draw thenQ_normal thenQ_exit thenQ_ret thenQ_panic blockQ_normal blockQ_ret blockQ_panic blockQ_exit funQ_ret funQ_normal funQ_panic op_move op_assign pickV_or pickV_and pickV_t pickV_f pickV_true pickV_false op_pick allocV_some op_alloc op_box op_load op_nilCheck op_bin op_un op_convert op_makeInterface op_makeSlice op_fieldAddr op_field op_indexAddr op_index op_extract op_typeAssert storeV_some op_store op_slice00 op_slice10 op_slice01 op_slice11 op_slice111 op_slice011 op_makeFunc callV_true op_call op_builtin panicV_iface op_panic ACallV_func ACallV_yield afterCall_returned afterCall_panicked bin_add bin_sub bin_mul bin_and bin_or bin_xor bin_andNot bin_eql bin_neq bin_lss bin_leq bin_gtr bin_geq bin_quo bin_rem bin_shl bin_shr bin_sadd bin_seql bin_sneq bin_slss uB_bool bin_beql bin_bneq uP_pointer bin_peql bin_pneq uS_slice bin_leql bin_lneq bin_ieql bin_ineq un_neg un_xor un_not nilCheck_ptr nilCheck_func nilCheck_yield load_ptr loadC_one loadC_agg store_ptr slice_eq sliceU_string sliceU_slice sliceU_array sliceS_eq boundsS_some sliceL_eq boundsL_nil boundsL_exact boundsL_least boundsL_own boundsL_ownN bounds_11 bounds_10 bounds_01 bounds_00 builtin_len len_string len_array len_slice builtin_append builtin_copy pairA_some builtin_min builtin_max min_two max_two index_eq index_string index_array indexAddr_eq indexAddr_array indexAddr_slice fieldAddr_eq posO_some fAddr_some fieldAddr_struct partC_some field_eq field_struct part_eq partU_one partU_agg extract_tuple conv_eq conv_int conv_string u8O_u8 conv_bytes conv_text_nil conv_text_zero conv_text mkIface_eq get_upd_same consO_some finR_0 finR_1 finR_2 aresL_nil aresL_cons ares1_tmp ares1_cell retV_some aleave_nil aleave_coll bnd_int bnd_bool bnd_string bnd_nilIface bnd_slice0 bnd_iface bnd_slice bnd_ptr bnd_ptr0 bndL_nil bndL_cons bndA_lit bnd_tuple bnd_agg calm_same skipC_eq aopsC_nil aopsC_cons stepC_call stepC_move stepC_assign stepC_pick stepC_alloc stepC_box stepC_build stepC_buildSlice stepC_load stepC_store stepC_nilCheck stepC_binOp stepC_unOp stepC_convert stepC_makeInterface stepC_makeFunc stepC_makeSlice stepC_slice stepC_fieldAddr stepC_field stepC_indexAddr stepC_index stepC_extract stepC_typeAssert stepC_builtin to_same sameA_eq aopsX_nil aopsX_cons stepX_heavy stepX_light lightK_eq allC_nil allC_cons hs_zero hs_succ stepT_call pure_call stepT_move pure_move stepT_assign pure_assign stepT_pick pure_pick stepT_alloc pure_alloc stepT_box pure_box stepT_build pure_build stepT_buildSlice pure_buildSlice stepT_load pure_load stepT_store pure_store stepT_nilCheck pure_nilCheck stepT_binOp pure_binOp stepT_unOp pure_unOp stepT_convert pure_convert stepT_makeInterface pure_makeInterface stepT_makeFunc pure_makeFunc stepT_makeSlice pure_makeSlice stepT_slice pure_slice stepT_fieldAddr pure_fieldAddr stepT_field pure_field stepT_indexAddr pure_indexAddr stepT_index pure_index stepT_extract pure_extract stepT_typeAssert pure_typeAssert stepT_builtin pure_b_len pure_b_append pure_b_copy pure_b_min pure_b_max leaveK_eq aleave_fn op_defer deferV_func resK_some defQ_ret defQ_normal storeC_int storeC_bool storeC_string storeC_slice storeC_func storeC_pointer len_cons len_nil cells_int cells_bool cells_string cells_slice cells_pointer cells_func cells_map cells_nilFunc cells_agg cell1_bool cell1_string cell1_slice cell1_pointer cell1_func cell1_i cell1_map cell1_nilFunc setList_nil setList_cons storeC_aggS fillP_nil fillP_cons fillAt_1 fillAt_n aggO_some sliceO_some places_0 places_s zerosR_0 zerosR_s thenElse_true evP_nil evP_cons okP_nil okP_cons op_buildL op_buildSliceL isBu_t isBu_f mk_E get_alloc_old get_alloc_new get_upd_old Try.agg1 Try.sz1 Try.byt1 Try.zero1 Try.agg2 Try.sz2 Try.byt2 Try.zero2 Try.agg3 Try.sz3 Try.byt3 Try.zero3 Try.agg4 Try.sz4 Try.byt4 Try.zero4 Try.agg5 Try.sz5 Try.byt5 Try.zero5 Try.agg6 Try.sz6 Try.byt6 Try.zero6 Try.agg7 Try.sz7 Try.byt7 Try.zero7 Try.agg8 Try.sz8 Try.byt8 Try.zero8 Try.agg9 Try.sz9 Try.byt9 Try.zero9 Try.agg10 Try.sz10 Try.byt10 Try.zero10 Try.agg11 Try.sz11 Try.byt11 Try.zero11 Try.agg12 Try.sz12 Try.byt12 Try.zero12 Try.agg13 Try.sz13 Try.byt13 Try.zero13 Try.agg14 Try.sz14 Try.byt14 Try.zero14 Try.agg15 Try.sz15 Try.byt15 Try.zero15 Try.agg16 Try.sz16 Try.byt16 Try.zero16 Try.agg17 Try.sz17 Try.byt17 Try.zero17 Try.agg18 Try.sz18 Try.byt18 Try.zero18 Try.agg19 Try.sz19 Try.byt19 Try.zero19 Try.agg20 Try.sz20 Try.byt20 Try.zero20 Try.agg21 Try.sz21 Try.byt21 Try.zero21 Try.agg22 Try.sz22 Try.byt22 Try.zero22 Try.agg23 Try.sz23 Try.byt23 Try.zero23 Try.agg24 Try.sz24 Try.byt24 Try.zero24 Try.agg25 Try.sz25 Try.byt25 Try.zero25 Try.agg27 Try.sz27 Try.byt27 Try.zero27 Try.agg28 Try.sz28 Try.byt28 Try.el28 Try.zero28 Try.agg30 Try.sz30 Try.byt30 Try.zero30 Try.agg31 Try.sz31 Try.byt31 Try.zero31 Try.agg32 Try.sz32 Try.byt32 Try.zero32 Try.agg33 Try.sz33 Try.byt33 Try.zero33 Try.agg34 Try.sz34 Try.byt34 Try.zero34 Try.agg35 Try.sz35 Try.byt35 Try.zero35 Try.agg36 Try.sz36 Try.byt36 Try.el36 Try.zero36 Try.agg38 Try.sz38 Try.byt38 Try.zero38 Try.agg39 Try.sz39 Try.byt39 Try.zero39 Try.agg40 Try.sz40 Try.byt40 Try.zero40 Try.agg41 Try.sz41 Try.byt41 Try.el41 Try.zero41 Try.agg42 Try.sz42 Try.byt42 Try.zero42 Try.agg43 Try.sz43 Try.byt43 Try.zero43 Try.agg44 Try.sz44 Try.byt44 Try.zero44 Try.agg46 Try.sz46 Try.byt46 Try.zero46 Try.agg47 Try.sz47 Try.byt47 Try.zero47 Try.agg48 Try.sz48 Try.byt48 Try.zero48 Try.agg49 Try.sz49 Try.byt49 Try.zero49 Try.agg50 Try.sz50 Try.byt50 Try.zero50 Try.agg51 Try.sz51 Try.byt51 Try.zero51 Try.agg52 Try.sz52 Try.byt52 Try.zero52 Try.agg53 Try.sz53 Try.byt53 Try.zero53 Try.agg54 Try.sz54 Try.byt54 Try.zero54 Try.agg55 Try.sz55 Try.byt55 Try.zero55 Try.agg56 Try.sz56 Try.byt56 Try.zero56 Try.agg57 Try.sz57 Try.byt57 Try.zero57 Try.agg58 Try.sz58 Try.byt58 Try.zero58 Try.agg59 Try.sz59 Try.byt59 Try.zero59 Try.agg60 Try.sz60 Try.byt60 Try.zero60 Try.agg61 Try.sz61 Try.byt61 Try.zero61 Try.agg62 Try.sz62 Try.byt62 Try.zero62 Try.agg63 Try.sz63 Try.byt63 Try.zero63 Try.agg64 Try.sz64 Try.byt64 Try.zero64 Try.agg65 Try.sz65 Try.byt65 Try.zero65 Try.agg66 Try.sz66 Try.byt66 Try.zero66 Try.agg67 Try.sz67 Try.byt67 Try.zero67 Try.agg68 Try.sz68 Try.byt68 Try.zero68 Try.build7 Try.build8 Try.build13 Try.build14 Try.build18 Try.build19 Try.bsl28 Try.bsl36 Try.bsl41 Try.build54 Try.build55 Try.build57 Try.build58 Try.build66 Try.build67 Try.underlying1 Try.underlying2 Try.underlying3 Try.underlying4 Try.underlying5 Try.underlying6 Try.underlying7 Try.underlying8 Try.underlying9 Try.underlying10 Try.underlying11 Try.underlying12 Try.underlying13 Try.underlying14 Try.underlying15 Try.underlying16 Try.underlying17 Try.underlying18 Try.underlying19 Try.underlying20 Try.underlying21 Try.underlying22 Try.underlying23 Try.underlying24 Try.underlying25 Try.underlying27 Try.underlying28 Try.underlying30 Try.underlying31 Try.underlying32 Try.underlying33 Try.underlying34 Try.underlying35 Try.underlying36 Try.underlying38 Try.underlying39 Try.underlying40 Try.underlying41 Try.underlying42 Try.underlying43 Try.underlying44 Try.underlying46 Try.underlying47 Try.underlying48 Try.underlying49 Try.underlying50 Try.underlying51 Try.underlying52 Try.underlying53 Try.underlying54 Try.underlying55 Try.underlying56 Try.underlying57 Try.underlying58 Try.underlying59 Try.underlying60 Try.underlying61 Try.underlying62 Try.underlying63 Try.underlying64 Try.underlying65 Try.underlying66 Try.underlying67 Try.underlying68
theorem Try.enters16 : Enters Try.prog 16 := enters_of Try.func16 rfl (by kernel_rfl)
theorem Try.enters17 : Enters Try.prog 17 := enters_of Try.func17 rfl (by kernel_rfl)
theorem Try.enters18 : Enters Try.prog 18 := enters_of Try.func18 rfl (by kernel_rfl)
theorem Try.enters24 : Enters Try.prog 24 := enters_of Try.func24 rfl (by kernel_rfl)
theorem Try.enters25 : Enters Try.prog 25 := enters_of Try.func25 rfl (by kernel_rfl)
set_option maxHeartbeats 4000000 in
theorem rfirst_ok (w0 : World) (A : St) (s : ByteArray) (hs : s.size ≤ 140737488355327) : ACalls Try.prog w0 15 #[.string s] A (fin (firstV (firstL (nums s))) A) := by
  refine call_E Try.enters15 Try.func15 rfl (Nat.le_of_ble_eq_true rfl) fun hw hbd => ?_
  simp (maxSteps := 1000000) (disch := (first | omega | (simp only [nx_alloc, nx_upd, len_cons, len_nil, List.length_set, List.length_map, List.length_append] <;> omega) | fail)) only [Nat.reduceAdd, Nat.reduceSub, Nat.reduceMul, Nat.reduceLT, Nat.reduceLeDiff, Nat.reduceEqDiff, ↓reduceIte, reduceCtorEq, Int.reduceAdd, Int.reduceSub, Int.reduceMul, Int.reduceLT, Int.reduceLE, Int.reduceEq, Int.reduceNe, Int.reduceToNat, Int.reduceNeg, go_sem, Try.ntmps15, Try.results15, beq_empty]
  refine ifB_dec (fun h0 => ?_) (fun h0 => ?_)
  · simp (maxSteps := 1000000) (disch := (first | omega | (simp only [nx_alloc, nx_upd, len_cons, len_nil, List.length_set, List.length_map, List.length_append] <;> omega) | fail)) only [Nat.reduceAdd, Nat.reduceSub, Nat.reduceMul, Nat.reduceLT, Nat.reduceLeDiff, Nat.reduceEqDiff, ↓reduceIte, reduceCtorEq, Int.reduceAdd, Int.reduceSub, Int.reduceMul, Int.reduceLT, Int.reduceLE, Int.reduceEq, Int.reduceNe, Int.reduceToNat, Int.reduceNeg, go_sem, Try.results15]
    have hn : nums s = [] := List.eq_nil_of_length_eq_zero (by rw [nums_length]; exact h0)
    exact gc_fin' hw (Over.refl _) (by unfold firstL; rw [if_pos hn]; rfl) (bnd_firstV _ _)
  have hne : nums s ≠ [] := fun h => h0 (by rw [← nums_length, h]; rfl)
  simp (maxSteps := 1000000) (disch := (first | omega | (simp only [nx_alloc, nx_upd, len_cons, len_nil, List.length_set, List.length_map, List.length_append] <;> omega) | fail)) only [Nat.reduceAdd, Nat.reduceSub, Nat.reduceMul, Nat.reduceLT, Nat.reduceLeDiff, Nat.reduceEqDiff, ↓reduceIte, reduceCtorEq, Int.reduceAdd, Int.reduceSub, Int.reduceMul, Int.reduceLT, Int.reduceLE, Int.reduceEq, Int.reduceNe, Int.reduceToNat, Int.reduceNeg, go_sem]
  refine ifB_dec (fun h6 => ?_) (fun h6 => ?_)
  · simp (maxSteps := 1000000) (disch := (first | omega | (simp only [nx_alloc, nx_upd, len_cons, len_nil, List.length_set, List.length_map, List.length_append] <;> omega) | fail)) only [Nat.reduceAdd, Nat.reduceSub, Nat.reduceMul, Nat.reduceLT, Nat.reduceLeDiff, Nat.reduceEqDiff, ↓reduceIte, reduceCtorEq, Int.reduceAdd, Int.reduceSub, Int.reduceMul, Int.reduceLT, Int.reduceLE, Int.reduceEq, Int.reduceNe, Int.reduceToNat, Int.reduceNeg, go_sem, Try.results15]
    exact gc_fin' hw (Over.refl _) (by unfold firstL; rw [if_neg hne, if_pos (by rw [nums_length]; omega)]; rfl) (bnd_firstV _ _)
  have hlen := nums_length s
  have hbs := nums_byte s
  generalize hl : nums s = l at *
  simp (maxSteps := 1000000) (disch := (first | omega | (simp only [nx_alloc, nx_upd, len_cons, len_nil, List.length_set, List.length_map, List.length_append] <;> omega) | fail)) only [Nat.reduceAdd, Nat.reduceSub, Nat.reduceMul, Nat.reduceLT, Nat.reduceLeDiff, Nat.reduceEqDiff, ↓reduceIte, reduceCtorEq, Int.reduceAdd, Int.reduceSub, Int.reduceMul, Int.reduceLT, Int.reduceLE, Int.reduceEq, Int.reduceNe, Int.reduceToNat, Int.reduceNeg, go_sem]
  refine call1 (rfixed_ok w0 _ s (2 : Nat) (by omega)) ?_
  rw [hl, fixL_ok (by decide) (by decide) (by omega)]
  have hb2 := bytes_drop hbs 2
  have hb6 := bytes_drop hbs 6
  have hs2 : (strOfNums (l.drop 2)).size = s.size - 2 := by rw [str_size, List.length_drop]; omega
  have hs6 : (strOfNums (l.drop 6)).size = s.size - 6 := by rw [str_size, List.length_drop]; omega
  have hd6 : (l.drop 6).length = s.size - 6 := by rw [List.length_drop]; omega
  obtain ⟨q1, q2⟩ := beN_lt 2 (l.take 2) (by rw [List.length_take]; omega) (bytes_take hbs 2)
  have q3 : (256 : Int) ^ 2 = 65536 := rfl
  obtain ⟨r1, r2⟩ := beN_lt 4 ((l.drop 2).take 4) (by rw [List.length_take, List.length_drop]; omega) (bytes_take hb2 4)
  have r3 : (256 : Int) ^ 4 = 4294967296 := rfl
  obtain ⟨n, hn⟩ := Int.eq_ofNat_of_zero_le q1
  obtain ⟨m, hm⟩ := Int.eq_ofNat_of_zero_le r1
  simp (maxSteps := 1000000) (disch := (first | omega | (simp only [nx_alloc, nx_upd, len_cons, len_nil, List.length_set, List.length_map, List.length_append] <;> omega) | fail)) only [Nat.reduceAdd, Nat.reduceSub, Nat.reduceMul, Nat.reduceLT, Nat.reduceLeDiff, Nat.reduceEqDiff, ↓reduceIte, reduceCtorEq, Int.reduceAdd, Int.reduceSub, Int.reduceMul, Int.reduceLT, Int.reduceLE, Int.reduceEq, Int.reduceNe, Int.reduceToNat, Int.reduceNeg, go_sem, getV, hn]
  refine ifB_dec (fun h90 => ?_) (fun h90 => ?_)
  · simp (maxSteps := 1000000) (disch := (first | omega | (simp only [nx_alloc, nx_upd, len_cons, len_nil, List.length_set, List.length_map, List.length_append] <;> omega) | fail)) only [Nat.reduceAdd, Nat.reduceSub, Nat.reduceMul, Nat.reduceLT, Nat.reduceLeDiff, Nat.reduceEqDiff, ↓reduceIte, reduceCtorEq, Int.reduceAdd, Int.reduceSub, Int.reduceMul, Int.reduceLT, Int.reduceLE, Int.reduceEq, Int.reduceNe, Int.reduceToNat, Int.reduceNeg, go_sem, Try.results15]
    exact gc_fin' hw (Over.refl _) (by unfold firstL; rw [if_neg hne, if_neg (by omega), if_pos (by omega)]; rfl) (bnd_firstV _ _)
  simp (maxSteps := 1000000) (disch := (first | omega | (simp only [nx_alloc, nx_upd, len_cons, len_nil, List.length_set, List.length_map, List.length_append] <;> omega) | fail)) only [Nat.reduceAdd, Nat.reduceSub, Nat.reduceMul, Nat.reduceLT, Nat.reduceLeDiff, Nat.reduceEqDiff, ↓reduceIte, reduceCtorEq, Int.reduceAdd, Int.reduceSub, Int.reduceMul, Int.reduceLT, Int.reduceLE, Int.reduceEq, Int.reduceNe, Int.reduceToNat, Int.reduceNeg, go_sem]
  refine ifB_dec (fun h40 => ?_) (fun h40 => ?_)
  · simp (maxSteps := 1000000) (disch := (first | omega | (simp only [nx_alloc, nx_upd, len_cons, len_nil, List.length_set, List.length_map, List.length_append] <;> omega) | fail)) only [Nat.reduceAdd, Nat.reduceSub, Nat.reduceMul, Nat.reduceLT, Nat.reduceLeDiff, Nat.reduceEqDiff, ↓reduceIte, reduceCtorEq, Int.reduceAdd, Int.reduceSub, Int.reduceMul, Int.reduceLT, Int.reduceLE, Int.reduceEq, Int.reduceNe, Int.reduceToNat, Int.reduceNeg, go_sem, Try.results15]
    exact gc_fin' hw (Over.refl _) (by unfold firstL; rw [if_neg hne, if_neg (by omega), if_neg (by omega), if_pos (by rw [hd6]; omega)]; rfl) (bnd_firstV _ _)
  have y2 : s.extract 2 s.size = strOfNums (l.drop 2) := by apply nums_inj; rw [nums_extract, hl, nums_str hb2]; rw [List.take_of_length_le (by rw [List.length_drop]; omega)]
  have x2 : s.extract 0 2 = strOfNums (l.take 2) := by apply nums_inj; rw [nums_extract, hl, nums_str (bytes_take hbs 2), List.drop_zero]
  have y6 : s.extract 6 (6 + n) = strOfNums ((l.drop 6).take n) := by apply nums_inj; rw [nums_extract, hl, nums_str (bytes_take hb6 n), Nat.add_sub_cancel_left]
  have z6 : s.extract (6 + n) s.size = strOfNums ((l.drop 6).drop n) := by apply nums_inj; rw [nums_extract, hl, nums_str (bytes_drop hb6 n), List.drop_drop, List.take_of_length_le (by rw [List.length_drop]; omega)]
  have e6 : (6 : Int) + (n : Int) = ((6 + n : Nat) : Int) := by omega
  simp (maxSteps := 1000000) (disch := (first | omega | (simp only [nx_alloc, nx_upd, len_cons, len_nil, List.length_set, List.length_map, List.length_append] <;> omega) | fail)) only [Nat.reduceAdd, Nat.reduceSub, Nat.reduceMul, Nat.reduceLT, Nat.reduceLeDiff, Nat.reduceEqDiff, ↓reduceIte, reduceCtorEq, Int.reduceAdd, Int.reduceSub, Int.reduceMul, Int.reduceLT, Int.reduceLE, Int.reduceEq, Int.reduceNe, Int.reduceToNat, Int.reduceNeg, go_sem, y2]
  refine call1 (rfixed_ok w0 _ (strOfNums (l.drop 2)) (4 : Nat) (by omega)) ?_
  rw [nums_str hb2, fixL_ok (by decide) (by decide) (by rw [List.length_drop]; omega)]
  have s2 : (strOfNums (l.take 2)).size = 2 := by rw [str_size, List.length_take]; omega
  have sn : (strOfNums ((l.drop 6).take n)).size = n := by rw [str_size, List.length_take]; omega
  have hall : ∀ x ∈ l.take 2 ++ (l.drop 6).take n, Byte x := fun x hx => (List.mem_append.1 hx).elim (bytes_take hbs 2 x) (bytes_take hb6 n x)
  have hlt := sumZ_lt hall
  have hcz : (strOfNums (l.take 2 ++ (l.drop 6).take n)).size = 2 + n := by rw [str_size, List.length_append, List.length_take, List.length_take]; omega
  simp (maxSteps := 1000000) (disch := (first | omega | (simp only [nx_alloc, nx_upd, len_cons, len_nil, List.length_set, List.length_map, List.length_append] <;> omega) | fail)) only [Nat.reduceAdd, Nat.reduceSub, Nat.reduceMul, Nat.reduceLT, Nat.reduceLeDiff, Nat.reduceEqDiff, ↓reduceIte, reduceCtorEq, Int.reduceAdd, Int.reduceSub, Int.reduceMul, Int.reduceLT, Int.reduceLE, Int.reduceEq, Int.reduceNe, Int.reduceToNat, Int.reduceNeg, go_sem, getV, hm, e6, y6, x2, s2, sn, str_append]
  refine call1 (rsum_ok w0 A _ (by omega)) ?_
  rw [sumS_str hall]
  simp (maxSteps := 1000000) (disch := (first | omega | (simp only [nx_alloc, nx_upd, len_cons, len_nil, List.length_set, List.length_map, List.length_append] <;> omega) | fail)) only [Nat.reduceAdd, Nat.reduceSub, Nat.reduceMul, Nat.reduceLT, Nat.reduceLeDiff, Nat.reduceEqDiff, ↓reduceIte, reduceCtorEq, Int.reduceAdd, Int.reduceSub, Int.reduceMul, Int.reduceLT, Int.reduceLE, Int.reduceEq, Int.reduceNe, Int.reduceToNat, Int.reduceNeg, go_sem]
  refine ifB_dec (fun h100 => ?_) (fun h100 => ?_)
  · simp (maxSteps := 1000000) (disch := (first | omega | (simp only [nx_alloc, nx_upd, len_cons, len_nil, List.length_set, List.length_map, List.length_append] <;> omega) | fail)) only [Nat.reduceAdd, Nat.reduceSub, Nat.reduceMul, Nat.reduceLT, Nat.reduceLeDiff, Nat.reduceEqDiff, ↓reduceIte, reduceCtorEq, Int.reduceAdd, Int.reduceSub, Int.reduceMul, Int.reduceLT, Int.reduceLE, Int.reduceEq, Int.reduceNe, Int.reduceToNat, Int.reduceNeg, go_sem, Try.results15]
    exact gc_fin' hw (Over.refl _) (by unfold firstL; rw [if_neg hne, if_neg (by omega), if_neg (by omega), if_neg (by rw [hd6]; omega), if_pos (by rw [hn, hm, Int.toNat_natCast]; exact h100)]; rfl) (bnd_firstV _ _)
  simp (maxSteps := 1000000) (disch := (first | omega | (simp only [nx_alloc, nx_upd, len_cons, len_nil, List.length_set, List.length_map, List.length_append] <;> omega) | fail)) only [Nat.reduceAdd, Nat.reduceSub, Nat.reduceMul, Nat.reduceLT, Nat.reduceLeDiff, Nat.reduceEqDiff, ↓reduceIte, reduceCtorEq, Int.reduceAdd, Int.reduceSub, Int.reduceMul, Int.reduceLT, Int.reduceLE, Int.reduceEq, Int.reduceNe, Int.reduceToNat, Int.reduceNeg, go_sem]
  refine aw_draw (by kernel_rfl) ?_
  simp (maxSteps := 1000000) (disch := (first | omega | (simp only [nx_alloc, nx_upd, len_cons, len_nil, List.length_set, List.length_map, List.length_append] <;> omega) | fail)) only [Nat.reduceAdd, Nat.reduceSub, Nat.reduceMul, Nat.reduceLT, Nat.reduceLeDiff, Nat.reduceEqDiff, ↓reduceIte, reduceCtorEq, Int.reduceAdd, Int.reduceSub, Int.reduceMul, Int.reduceLT, Int.reduceLE, Int.reduceEq, Int.reduceNe, Int.reduceToNat, Int.reduceNeg, go_sem, e6, z6, Try.results15]
  refine gc_fin' hw (Over.refl _) ?_ (bnd_firstV _ _)
  unfold firstL
  rw [if_neg hne, if_neg (by omega), if_neg (by omega), if_neg (by rw [hd6]; omega), if_neg (by rw [hn, hm, Int.toNat_natCast]; exact h100), hn, Int.toNat_natCast]
  rfl
/-- All frames, and what is behind them. -/
theorem firstL_lt {l x r : List Int} (h : firstL l = (x, r, 0)) : r.length < l.length ∧ ((∀ y ∈ l, Byte y) → (∀ y ∈ x, Byte y) ∧ ∀ y ∈ r, Byte y) := by
  unfold firstL at h
  by_cases h1 : l = []
  · rw [if_pos h1] at h; cases h
  by_cases h2 : l.length < 6
  · rw [if_neg h1, if_pos h2] at h; cases h
  by_cases h3 : 1024 < beN (l.take 2)
  · rw [if_neg h1, if_neg h2, if_pos h3] at h; cases h
  by_cases h4 : ((l.drop 6).length : Int) < beN (l.take 2)
  · rw [if_neg h1, if_neg h2, if_neg h3, if_pos h4] at h; cases h
  by_cases h5 : (sumZ (l.take 2 ++ (l.drop 6).take (beN (l.take 2)).toNat) : Int) ≠ beN ((l.drop 2).take 4)
  · rw [if_neg h1, if_neg h2, if_neg h3, if_neg h4, if_pos h5] at h; cases h
  rw [if_neg h1, if_neg h2, if_neg h3, if_neg h4, if_neg h5] at h
  simp only [Prod.mk.injEq, and_true] at h
  obtain ⟨rfl, rfl⟩ := h
  exact ⟨by rw [List.length_drop, List.length_drop]; omega, fun hb => ⟨bytes_take (bytes_drop hb 6) _, bytes_drop (bytes_drop hb 6) _⟩⟩
def allL (l : List Int) : List (List Int) × List Int :=
  if h : (firstL l).2.2 = 0 ∧ (firstL l).2.1.length < l.length then ((firstL l).1 :: (allL (firstL l).2.1).1, (allL (firstL l).2.1).2) else ([], l)
termination_by l.length
decreasing_by all_goals exact h.2
theorem allL_go {l x r : List Int} (h : firstL l = (x, r, 0)) : allL l = (x :: (allL r).1, (allL r).2) := by
  have hl := (firstL_lt h).1
  rw [allL, dif_pos (by rw [h]; exact ⟨rfl, hl⟩), h]
theorem allL_stop {l : List Int} (h : (firstL l).2.2 ≠ 0) : allL l = ([], l) := by
  rw [allL, dif_neg (fun k => h k.1)]
/-- Texts, as cells. -/
def strC (l : List (List Int)) : List Value := l.map fun x => .string (strOfNums x)
theorem strC_len (l : List (List Int)) : (strC l).length = l.length := by simp [strC]
set_option maxHeartbeats 4000000 in
theorem rall_ok (w0 : World) (A : St) (s : ByteArray) (hs : s.size ≤ 1048576) : ACalls Try.prog w0 17 #[.string s] A (fun e A' => ∃ v', e = .returned (.tuple #[v', .int .i64 ((s.size : Int) - (allL (nums s)).2.length)]) ∧ Over A A' ∧ Row A' 9 1 A.next (strC (allL (nums s)).1) (allL (nums s)).1.length v') := by
  refine call_E Try.enters17 Try.func17 rfl (Nat.le_of_ble_eq_true rfl) fun hw hbd => ?_
  simp (maxSteps := 1000000) (disch := (first | omega | (simp only [nx_alloc, nx_upd, len_cons, len_nil, List.length_set, List.length_map, List.length_append] <;> omega) | fail)) only [Nat.reduceAdd, Nat.reduceSub, Nat.reduceMul, Nat.reduceLT, Nat.reduceLeDiff, Nat.reduceEqDiff, ↓reduceIte, reduceCtorEq, Int.reduceAdd, Int.reduceSub, Int.reduceMul, Int.reduceLT, Int.reduceLE, Int.reduceEq, Int.reduceNe, Int.reduceToNat, Int.reduceNeg, go_sem, Try.ntmps17, Try.results17]
  refine aw_loop (fun m a A' => ∃ (ρ : Nat → Value) (acc : List (List Int)) (rest : List Int), a = E 30 ρ [] ∧ m = rest.length ∧ Over A A' ∧ (∀ x ∈ rest, Byte x) ∧ acc.length + rest.length ≤ s.size ∧ (allL (nums s)).1 = acc ++ (allL rest).1 ∧ (allL (nums s)).2 = (allL rest).2 ∧ ρ 0 = .string (strOfNums rest) ∧ ρ 5 = .int .i64 s.size ∧ Row A' 9 1 A.next (strC acc) acc.length (ρ 4)) (nums s).length
    ⟨_, [], nums s, rfl, rfl, (Over.refl A).alloc _, nums_byte s, by rw [nums_length]; simp, rfl, rfl, ?_, rfl, ⟨rfl, .inr ⟨A.next, none, rfl, .inl rfl, Nat.le_refl _, by simp, get_alloc_same ..⟩⟩⟩ ?_
  · simp (maxSteps := 1000000) (disch := (first | omega | (simp only [nx_alloc, nx_upd, len_cons, len_nil, List.length_set, List.length_map, List.length_append] <;> omega) | fail)) only [Nat.reduceAdd, Nat.reduceSub, Nat.reduceMul, Nat.reduceLT, Nat.reduceLeDiff, Nat.reduceEqDiff, ↓reduceIte, reduceCtorEq, Int.reduceAdd, Int.reduceSub, Int.reduceMul, Int.reduceLT, Int.reduceLE, Int.reduceEq, Int.reduceNe, Int.reduceToNat, Int.reduceNeg, go_sem]
    rw [str_nums]
  rintro m a A' ⟨ρ, acc, rest, rfl, rfl, hov, hb, hle, hA1, hA2, p0, p5, p4⟩
  refine aw_of ?_
  have hsz := str_size rest
  simp (maxSteps := 1000000) (disch := (first | omega | (simp only [nx_alloc, nx_upd, len_cons, len_nil, List.length_set, List.length_map, List.length_append] <;> omega) | fail)) only [Nat.reduceAdd, Nat.reduceSub, Nat.reduceMul, Nat.reduceLT, Nat.reduceLeDiff, Nat.reduceEqDiff, ↓reduceIte, reduceCtorEq, Int.reduceAdd, Int.reduceSub, Int.reduceMul, Int.reduceLT, Int.reduceLE, Int.reduceEq, Int.reduceNe, Int.reduceToNat, Int.reduceNeg, go_sem, p0]
  refine call1 (rfirst_ok w0 A' _ (by omega)) ?_
  rw [nums_str hb]
  rcases hf : firstL rest with ⟨x, r, e⟩
  simp (maxSteps := 1000000) (disch := (first | omega | (simp only [nx_alloc, nx_upd, len_cons, len_nil, List.length_set, List.length_map, List.length_append] <;> omega) | fail)) only [Nat.reduceAdd, Nat.reduceSub, Nat.reduceMul, Nat.reduceLT, Nat.reduceLeDiff, Nat.reduceEqDiff, ↓reduceIte, reduceCtorEq, Int.reduceAdd, Int.reduceSub, Int.reduceMul, Int.reduceLT, Int.reduceLE, Int.reduceEq, Int.reduceNe, Int.reduceToNat, Int.reduceNeg, go_sem, firstV]
  refine ifB_dec (fun he => ?_) (fun he => ?_)
  · have hst := allL_stop (l := rest) (by rw [hf]; exact he)
    rw [hst] at hA1 hA2
    simp (maxSteps := 1000000) (disch := (first | omega | (simp only [nx_alloc, nx_upd, len_cons, len_nil, List.length_set, List.length_map, List.length_append] <;> omega) | fail)) only [Nat.reduceAdd, Nat.reduceSub, Nat.reduceMul, Nat.reduceLT, Nat.reduceLeDiff, Nat.reduceEqDiff, ↓reduceIte, reduceCtorEq, Int.reduceAdd, Int.reduceSub, Int.reduceMul, Int.reduceLT, Int.reduceLE, Int.reduceEq, Int.reduceNe, Int.reduceToNat, Int.reduceNeg, go_sem, p0, p4, p5, hsz, Try.results17]
    refine gc_here ⟨_, by rw [hA2], hov, ?_⟩
    rw [hA1, List.append_nil]; exact p4
  · have he0 : e = 0 := by simpa using he
    subst he0
    obtain ⟨hlt, hbb⟩ := firstL_lt hf
    have hgo := allL_go hf
    simp (maxSteps := 1000000) (disch := (first | omega | (simp only [nx_alloc, nx_upd, len_cons, len_nil, List.length_set, List.length_map, List.length_append] <;> omega) | fail)) only [Nat.reduceAdd, Nat.reduceSub, Nat.reduceMul, Nat.reduceLT, Nat.reduceLeDiff, Nat.reduceEqDiff, ↓reduceIte, reduceCtorEq, Int.reduceAdd, Int.reduceSub, Int.reduceMul, Int.reduceLT, Int.reduceLE, Int.reduceEq, Int.reduceNe, Int.reduceToNat, Int.reduceNeg, go_sem, p4]
    obtain ⟨v', A2, hap, hr2, hn2, hrb, hf2⟩ := row_push (sp := none) (c := 1) (xs := [.string (strOfNums x)]) Try.el36 Try.underlying36 (by intro k; exact TypeDesc.noConfusion) Try.sz9 Try.byt9 Try.zero9 rfl p4 hov.next (by omega) (by omega) rfl rfl
    rw [hap]
    simp (maxSteps := 1000000) (disch := (first | omega | (simp only [nx_alloc, nx_upd, len_cons, len_nil, List.length_set, List.length_map, List.length_append] <;> omega) | fail)) only [Nat.reduceAdd, Nat.reduceSub, Nat.reduceMul, Nat.reduceLT, Nat.reduceLeDiff, Nat.reduceEqDiff, ↓reduceIte, reduceCtorEq, Int.reduceAdd, Int.reduceSub, Int.reduceMul, Int.reduceLT, Int.reduceLE, Int.reduceEq, Int.reduceNe, Int.reduceToNat, Int.reduceNeg, go_sem]
    refine ⟨r.length, hlt, _, acc ++ [x], r, rfl, rfl, ⟨by have := hov.next; omega, fun b hb => ?_⟩, (hbb hb).2, by rw [List.length_append, List.length_singleton]; omega, ?_, ?_, ?_, ?_, ?_⟩
    · rw [hf2 b (by have := hov.next; omega) (p4.ne hb), hov.get b hb]
    · rw [hA1, hgo]; simp
    · rw [hA2, hgo]
    · simp (maxSteps := 1000000) (disch := (first | omega | (simp only [nx_alloc, nx_upd, len_cons, len_nil, List.length_set, List.length_map, List.length_append] <;> omega) | fail)) only [Nat.reduceAdd, Nat.reduceSub, Nat.reduceMul, Nat.reduceLT, Nat.reduceLeDiff, Nat.reduceEqDiff, ↓reduceIte, reduceCtorEq, Int.reduceAdd, Int.reduceSub, Int.reduceMul, Int.reduceLT, Int.reduceLE, Int.reduceEq, Int.reduceNe, Int.reduceToNat, Int.reduceNeg, go_sem]
    · simp (maxSteps := 1000000) (disch := (first | omega | (simp only [nx_alloc, nx_upd, len_cons, len_nil, List.length_set, List.length_map, List.length_append] <;> omega) | fail)) only [Nat.reduceAdd, Nat.reduceSub, Nat.reduceMul, Nat.reduceLT, Nat.reduceLeDiff, Nat.reduceEqDiff, ↓reduceIte, reduceCtorEq, Int.reduceAdd, Int.reduceSub, Int.reduceMul, Int.reduceLT, Int.reduceLE, Int.reduceEq, Int.reduceNe, Int.reduceToNat, Int.reduceNeg, go_sem, p5]
    · simp (maxSteps := 1000000) (disch := (first | omega | (simp only [nx_alloc, nx_upd, len_cons, len_nil, List.length_set, List.length_map, List.length_append] <;> omega) | fail)) only [Nat.reduceAdd, Nat.reduceSub, Nat.reduceMul, Nat.reduceLT, Nat.reduceLeDiff, Nat.reduceEqDiff, ↓reduceIte, reduceCtorEq, Int.reduceAdd, Int.reduceSub, Int.reduceMul, Int.reduceLT, Int.reduceLE, Int.reduceEq, Int.reduceNe, Int.reduceToNat, Int.reduceNeg, go_sem]
      rw [List.length_append]
      unfold strC at hr2 ⊢
      rw [List.map_append]
      exact hr2
set_option maxHeartbeats 4000000 in
theorem same_ok (w0 : World) (A : St) (v u : Value) (a b : List (List Int)) (ha : ∀ x ∈ a, ∀ y ∈ x, Byte y) (hb : ∀ x ∈ b, ∀ y ∈ x, Byte y) (hla : a.length ≤ 1073741824) (hlb : b.length ≤ 1073741824) (hv : View A 1 (strC a) a.length v) (hu : View A 1 (strC b) b.length u) : ACalls Try.prog w0 18 #[v, u] A (fin (.bool (decide (a = b))) A) := by
  refine call_E Try.enters18 Try.func18 rfl (Nat.le_of_ble_eq_true rfl) fun hw hbd => ?_
  simp (maxSteps := 1000000) (disch := (first | omega | (simp only [nx_alloc, nx_upd, len_cons, len_nil, List.length_set, List.length_map, List.length_append] <;> omega) | fail)) only [Nat.reduceAdd, Nat.reduceSub, Nat.reduceMul, Nat.reduceLT, Nat.reduceLeDiff, Nat.reduceEqDiff, ↓reduceIte, reduceCtorEq, Int.reduceAdd, Int.reduceSub, Int.reduceMul, Int.reduceLT, Int.reduceLE, Int.reduceEq, Int.reduceNe, Int.reduceToNat, Int.reduceNeg, go_sem, Try.ntmps18, Try.results18, hv.lenU, hu.lenU]
  refine ifB_dec (fun hne => ?_) (fun hne => ?_)
  · simp (maxSteps := 1000000) (disch := (first | omega | (simp only [nx_alloc, nx_upd, len_cons, len_nil, List.length_set, List.length_map, List.length_append] <;> omega) | fail)) only [Nat.reduceAdd, Nat.reduceSub, Nat.reduceMul, Nat.reduceLT, Nat.reduceLeDiff, Nat.reduceEqDiff, ↓reduceIte, reduceCtorEq, Int.reduceAdd, Int.reduceSub, Int.reduceMul, Int.reduceLT, Int.reduceLE, Int.reduceEq, Int.reduceNe, Int.reduceToNat, Int.reduceNeg, go_sem, Try.results18]
    exact gc_fin' hw (Over.refl _) (by rw [decide_eq_false]; rintro rfl; exact hne rfl) (by simp only [bnd_bool])
  have hl : a.length = b.length := by omega
  simp (maxSteps := 1000000) (disch := (first | omega | (simp only [nx_alloc, nx_upd, len_cons, len_nil, List.length_set, List.length_map, List.length_append] <;> omega) | fail)) only [Nat.reduceAdd, Nat.reduceSub, Nat.reduceMul, Nat.reduceLT, Nat.reduceLeDiff, Nat.reduceEqDiff, ↓reduceIte, reduceCtorEq, Int.reduceAdd, Int.reduceSub, Int.reduceMul, Int.reduceLT, Int.reduceLE, Int.reduceEq, Int.reduceNe, Int.reduceToNat, Int.reduceNeg, go_sem]
  refine aw_loop (fun m q A' => ∃ (ρ : Nat → Value) (i : Nat), q = E 26 ρ [] ∧ m = a.length - i ∧ i ≤ a.length ∧ A' = A ∧ ρ 0 = v ∧ ρ 1 = u ∧ ρ 5 = .int .i64 i ∧ a.take i = b.take i) a.length
    ⟨_, 0, rfl, rfl, by omega, rfl, rfl, rfl, rfl, by simp⟩ ?_
  rintro m q A' ⟨ρ, i, rfl, rfl, hi, rfl, p0, p1, p5, hpre⟩
  refine aw_of ?_
  simp (maxSteps := 1000000) (disch := (first | omega | (simp only [nx_alloc, nx_upd, len_cons, len_nil, List.length_set, List.length_map, List.length_append] <;> omega) | fail)) only [Nat.reduceAdd, Nat.reduceSub, Nat.reduceMul, Nat.reduceLT, Nat.reduceLeDiff, Nat.reduceEqDiff, ↓reduceIte, reduceCtorEq, Int.reduceAdd, Int.reduceSub, Int.reduceMul, Int.reduceLT, Int.reduceLE, Int.reduceEq, Int.reduceNe, Int.reduceToNat, Int.reduceNeg, go_sem, p0, p5, hv.lenU]
  refine ifB_dec (fun hlt => ?_) (fun hlt => ?_)
  · obtain ⟨x, hx⟩ : ∃ x, a[i]? = some x := ⟨a[i]'(by omega), List.getElem?_eq_getElem _⟩
    obtain ⟨y, hy⟩ : ∃ y, b[i]? = some y := ⟨b[i]'(by omega), List.getElem?_eq_getElem _⟩
    obtain ⟨b1, o1, _, _, ix1, cells1, e1, m1, g1, c1⟩ := hv.at1 (P := Try.prog) (e := 9) (x := .string (strOfNums x)) Try.sz9 (by unfold strC; rw [List.getElem?_map, hx]; rfl)
    obtain ⟨b2, o2, _, _, ix2, cells2, e2, m2, g2, c2⟩ := hu.at1 (P := Try.prog) (e := 9) (x := .string (strOfNums y)) Try.sz9 (by unfold strC; rw [List.getElem?_map, hy]; rfl)
    have hxy : (strOfNums x == strOfNums y) = decide (x = y) := beq_str (ha x (List.mem_of_getElem? hx)) (hb y (List.mem_of_getElem? hy))
    simp (maxSteps := 1000000) (disch := (first | omega | (simp only [nx_alloc, nx_upd, len_cons, len_nil, List.length_set, List.length_map, List.length_append] <;> omega) | fail)) only [Nat.reduceAdd, Nat.reduceSub, Nat.reduceMul, Nat.reduceLT, Nat.reduceLeDiff, Nat.reduceEqDiff, ↓reduceIte, reduceCtorEq, Int.reduceAdd, Int.reduceSub, Int.reduceMul, Int.reduceLT, Int.reduceLE, Int.reduceEq, Int.reduceNe, Int.reduceToNat, Int.reduceNeg, go_sem]
    refine aw_draw (by kernel_rfl) ?_
    simp (maxSteps := 1000000) (disch := (first | omega | (simp only [nx_alloc, nx_upd, len_cons, len_nil, List.length_set, List.length_map, List.length_append] <;> omega) | fail)) only [Nat.reduceAdd, Nat.reduceSub, Nat.reduceMul, Nat.reduceLT, Nat.reduceLeDiff, Nat.reduceEqDiff, ↓reduceIte, reduceCtorEq, Int.reduceAdd, Int.reduceSub, Int.reduceMul, Int.reduceLT, Int.reduceLE, Int.reduceEq, Int.reduceNe, Int.reduceToNat, Int.reduceNeg, go_sem, p0, p1, p5, ix1, g1, c1, ix2, g2, c2, hxy]
    by_cases h : x = y
    · subst h
      simp (maxSteps := 1000000) (disch := (first | omega | (simp only [nx_alloc, nx_upd, len_cons, len_nil, List.length_set, List.length_map, List.length_append] <;> omega) | fail)) only [Nat.reduceAdd, Nat.reduceSub, Nat.reduceMul, Nat.reduceLT, Nat.reduceLeDiff, Nat.reduceEqDiff, ↓reduceIte, reduceCtorEq, Int.reduceAdd, Int.reduceSub, Int.reduceMul, Int.reduceLT, Int.reduceLE, Int.reduceEq, Int.reduceNe, Int.reduceToNat, Int.reduceNeg, go_sem, p5]
      refine ⟨a.length - (i + 1), by omega, _, i + 1, rfl, rfl, by omega, ?_, ?_, ?_, ?_⟩
      · simp (maxSteps := 1000000) (disch := (first | omega | (simp only [nx_alloc, nx_upd, len_cons, len_nil, List.length_set, List.length_map, List.length_append] <;> omega) | fail)) only [Nat.reduceAdd, Nat.reduceSub, Nat.reduceMul, Nat.reduceLT, Nat.reduceLeDiff, Nat.reduceEqDiff, ↓reduceIte, reduceCtorEq, Int.reduceAdd, Int.reduceSub, Int.reduceMul, Int.reduceLT, Int.reduceLE, Int.reduceEq, Int.reduceNe, Int.reduceToNat, Int.reduceNeg, go_sem, p0]
      · simp (maxSteps := 1000000) (disch := (first | omega | (simp only [nx_alloc, nx_upd, len_cons, len_nil, List.length_set, List.length_map, List.length_append] <;> omega) | fail)) only [Nat.reduceAdd, Nat.reduceSub, Nat.reduceMul, Nat.reduceLT, Nat.reduceLeDiff, Nat.reduceEqDiff, ↓reduceIte, reduceCtorEq, Int.reduceAdd, Int.reduceSub, Int.reduceMul, Int.reduceLT, Int.reduceLE, Int.reduceEq, Int.reduceNe, Int.reduceToNat, Int.reduceNeg, go_sem, p1]
      · simp (maxSteps := 1000000) (disch := (first | omega | (simp only [nx_alloc, nx_upd, len_cons, len_nil, List.length_set, List.length_map, List.length_append] <;> omega) | fail)) only [Nat.reduceAdd, Nat.reduceSub, Nat.reduceMul, Nat.reduceLT, Nat.reduceLeDiff, Nat.reduceEqDiff, ↓reduceIte, reduceCtorEq, Int.reduceAdd, Int.reduceSub, Int.reduceMul, Int.reduceLT, Int.reduceLE, Int.reduceEq, Int.reduceNe, Int.reduceToNat, Int.reduceNeg, go_sem]
        rfl
      · rw [List.take_add_one, List.take_add_one, hx, hy, hpre]
    · simp (maxSteps := 1000000) (disch := (first | omega | (simp only [nx_alloc, nx_upd, len_cons, len_nil, List.length_set, List.length_map, List.length_append] <;> omega) | fail)) only [Nat.reduceAdd, Nat.reduceSub, Nat.reduceMul, Nat.reduceLT, Nat.reduceLeDiff, Nat.reduceEqDiff, ↓reduceIte, reduceCtorEq, Int.reduceAdd, Int.reduceSub, Int.reduceMul, Int.reduceLT, Int.reduceLE, Int.reduceEq, Int.reduceNe, Int.reduceToNat, Int.reduceNeg, go_sem, h, Try.results18]
      exact gc_fin' hw (Over.refl _) (by rw [decide_eq_false]; rintro rfl; rw [hx] at hy; exact h (Option.some.inj hy)) (by simp only [bnd_bool])
  · have hil : i = a.length := by omega
    subst hil
    simp (maxSteps := 1000000) (disch := (first | omega | (simp only [nx_alloc, nx_upd, len_cons, len_nil, List.length_set, List.length_map, List.length_append] <;> omega) | fail)) only [Nat.reduceAdd, Nat.reduceSub, Nat.reduceMul, Nat.reduceLT, Nat.reduceLeDiff, Nat.reduceEqDiff, ↓reduceIte, reduceCtorEq, Int.reduceAdd, Int.reduceSub, Int.reduceMul, Int.reduceLT, Int.reduceLE, Int.reduceEq, Int.reduceNe, Int.reduceToNat, Int.reduceNeg, go_sem, Try.results18]
    refine gc_fin' hw (Over.refl _) ?_ (by simp only [bnd_bool])
    rw [List.take_length, List.take_of_length_le (by omega)] at hpre
    rw [decide_eq_true hpre]
end Go.Fw
