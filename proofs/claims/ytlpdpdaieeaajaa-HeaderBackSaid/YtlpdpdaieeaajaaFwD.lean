import Derived.Test.YtlpdpdaieeaajaaFwB
import Derived.Test.YtlpdpdaieeaajaaFwC
set_option linter.unusedSimpArgs false
set_option linter.unusedVariables false
namespace Go.Fw
open Go.Proofs Go.RowKit
attribute [local go_sem] List.length_cons List.length_nil Nat.zero_add Nat.add_zero Nat.zero_mul Nat.mul_one Int.toNat_zero Int.toNat_natCast List.map_cons List.map_nil List.map_toArray List.toList_toArray List.append_toArray List.append_eq List.nil_append List.cons_append List.append_nil List.all_toArray List.all_cons List.all_nil Bool.and_true Bool.true_and Bool.and_self List.getElem?_toArray List.getElem?_cons_zero List.getElem?_cons_succ List.set_cons_zero List.set_cons_succ List.drop_zero List.drop_succ_cons List.take_zero List.take_succ_cons Option.bind_some Option.map_some id true_and and_true and_self St.next_alloc St.next_upd beq_self_eq_true Bool.not_true Bool.not_false Bool.false_eq_true false_implies true_implies Option.isNone_none Option.isNone_some Option.isSome_none Option.isSome_some ge_iff_le gt_iff_lt Nat.sub_zero Nat.add_assoc IntWalk.i64_in IntWalk.u64_in IntWalk.u8_in IntWalk.u32_in IntWalk.i32_in IntWalk.u16_in dec_not Bool.not_eq_true decide_true decide_false ne_eq not_true_eq_false not_false_eq_true Bool.true_or Bool.or_true Bool.or_false Bool.false_or Bool.and_false Bool.false_and upd_apply rd_eq ar_zero ar_succ ar_nil tm_size tm_getD tm_set E_tmps E_defers put_E put_none eval_tmp eval_const eval_func setArgs_0 setArgs_1 setArgs_2 append_lit stepV_some stepA_some guardO_true ifB_true ifB_false wantV_true wantV_false wantV_dec_t wantV_dec_f ifB_dec_t ifB_dec_f condV_bool dec_and dec_or isB_bool someB_t someB_f okO_tmp okO_func okO_int okO_bool okO_string okO_ptr0 okO_slice0 okO_nilFunc okO_nilIface okO_map0 okO_agg wanted_none wanted_some lookT_some aopsL_nil aopsL_cons wpA_skip wpA_label wpA_exit wpA_goto wpA_ret wpA_seq wpA_block wpA_region wpA_cond wpA_loop wpA_rangeFunc wpA_draw thenQ_normal thenQ_exit thenQ_ret thenQ_panic blockQ_normal blockQ_ret blockQ_panic blockQ_exit funQ_ret funQ_normal funQ_panic op_move op_assign pickV_or pickV_and pickV_t pickV_f pickV_true pickV_false op_pick allocV_some op_alloc op_box op_load op_nilCheck op_bin op_lookup bptr btype op_un op_convert op_makeInterface op_makeSlice op_fieldAddr op_field op_indexAddr op_index op_extract op_typeAssert storeV_some op_store op_makeMap op_mapUpdate op_slice00 op_slice10 op_slice01 op_slice11 op_slice111 op_slice011 op_makeFunc callV_true op_call op_builtin panicV_iface op_panic ACallV_func ACallF_false ACallF_true ACallV_yield afterCall_returned afterCall_panicked bin_add bin_sub bin_mul bin_and bin_or bin_xor bin_andNot bin_eql bin_neq bin_lss bin_leq bin_gtr bin_geq mval_some mval_none lookup_map lookU_map lookK_smap mapSet_map msetU_map msetK_int conv_to conv_from unsT_cells unsF_cells bin_same bin_nil bdata_nil bdata_some builtin_data builtin_str bin_quo bin_rem bin_shl bin_shr bin_sadd bin_seql bin_sneq bin_slss uB_bool bin_beql bin_bneq uP_pointer bin_peql bin_pneq uS_slice bin_leql bin_lneq bin_ieql bin_ineq un_neg un_xor un_not nilCheck_ptr nilCheck_func nilCheck_yield load_ptr loadC_one loadC_agg store_ptr slice_eq sliceU_string sliceU_slice sliceU_array sliceS_eq boundsS_some sliceL_eq boundsL_nil boundsL_exact boundsL_least boundsL_own boundsL_ownN bounds_11 bounds_10 bounds_01 bounds_00 builtin_len len_string len_array len_slice builtin_append builtin_copy pairA_some builtin_min builtin_max min_two max_two index_eq index_string index_array indexAddr_eq indexAddr_array indexAddr_slice fieldAddr_eq posO_some fAddr_some fieldAddr_struct partC_some field_eq field_struct part_eq partU_one partU_agg extract_tuple conv_eq conv_int conv_string u8O_u8 conv_bytes conv_text_nil conv_text_zero conv_text mkIface_eq get_upd_same consO_some finR_0 finR_1 finR_2 aresL_nil aresL_cons ares1_tmp ares1_cell retV_some aleave_nil aleave_coll bnd_int bnd_bool bnd_string bnd_nilIface bnd_slice0 bnd_iface bnd_slice bnd_ptr bnd_ptr0 bndL_nil bndL_cons bndA_lit bnd_tuple bnd_agg calm_same skipC_eq aopsC_nil aopsC_cons stepC_call stepC_move stepC_assign stepC_pick stepC_alloc stepC_box stepC_build stepC_buildSlice stepC_load stepC_store stepC_nilCheck stepC_binOp stepC_unOp stepC_convert stepC_makeInterface stepC_makeFunc stepC_makeSlice stepC_slice stepC_fieldAddr stepC_field stepC_indexAddr stepC_index stepC_extract stepC_typeAssert stepC_lookup stepC_mapUpdate stepC_makeMap stepC_builtin to_same sameA_eq aopsX_nil aopsX_cons stepX_heavy stepX_light lightK_eq allC_nil allC_cons hs_zero hs_succ stepT_call pure_call stepT_move pure_move stepT_assign pure_assign stepT_pick pure_pick stepT_alloc pure_alloc stepT_box pure_box stepT_build pure_build stepT_buildSlice pure_buildSlice stepT_load pure_load stepT_store pure_store stepT_nilCheck pure_nilCheck stepT_binOp pure_binOp stepT_unOp pure_unOp stepT_convert pure_convert stepT_makeInterface pure_makeInterface stepT_makeFunc pure_makeFunc stepT_makeSlice pure_makeSlice stepT_slice pure_slice stepT_fieldAddr pure_fieldAddr stepT_field pure_field stepT_indexAddr pure_indexAddr stepT_index pure_index stepT_extract pure_extract stepT_typeAssert pure_typeAssert stepT_lookup pure_lookup stepT_mapUpdate pure_mapUpdate stepT_makeMap pure_makeMap stepT_builtin pure_b_len pure_b_append pure_b_copy pure_b_min pure_b_max pure_b_unsafeSliceData pure_b_unsafeString leaveK_eq aleave_fn op_defer deferV_func resK_some defQ_ret defQ_normal storeC_int storeC_bool storeC_string storeC_slice storeC_func storeC_pointer len_cons len_nil cells_int cells_bool cells_string cells_slice cells_pointer cells_func cells_map cells_nilFunc cells_agg cell1_bool cell1_string cell1_slice cell1_pointer cell1_func cell1_i cell1_map cell1_nilFunc setList_nil setList_cons storeC_aggS fillP_nil fillP_cons fillAt_1 fillAt_n aggO_some sliceO_some places_0 places_s zerosR_0 zerosR_s thenElse_true evP_nil evP_cons okP_nil okP_cons op_buildL op_buildSliceL isBu_t isBu_f mk_E get_alloc_old get_alloc_new get_upd_old Try.agg1 Try.sz1 Try.byt1 Try.zero1 Try.agg2 Try.sz2 Try.byt2 Try.zero2 Try.agg3 Try.sz3 Try.byt3 Try.zero3 Try.agg4 Try.sz4 Try.byt4 Try.zero4 Try.agg5 Try.sz5 Try.byt5 Try.zero5 Try.agg6 Try.sz6 Try.byt6 Try.zero6 Try.agg7 Try.sz7 Try.byt7 Try.zero7 Try.agg8 Try.sz8 Try.byt8 Try.zero8 Try.agg9 Try.sz9 Try.byt9 Try.zero9 Try.agg10 Try.sz10 Try.byt10 Try.zero10 Try.agg11 Try.sz11 Try.byt11 Try.zero11 Try.agg12 Try.sz12 Try.byt12 Try.zero12 Try.agg13 Try.sz13 Try.byt13 Try.zero13 Try.agg14 Try.sz14 Try.byt14 Try.zero14 Try.agg15 Try.sz15 Try.byt15 Try.zero15 Try.agg16 Try.sz16 Try.byt16 Try.zero16 Try.agg17 Try.sz17 Try.byt17 Try.zero17 Try.agg18 Try.sz18 Try.byt18 Try.zero18 Try.agg19 Try.sz19 Try.byt19 Try.zero19 Try.agg20 Try.sz20 Try.byt20 Try.zero20 Try.agg21 Try.sz21 Try.byt21 Try.zero21 Try.agg22 Try.sz22 Try.byt22 Try.el22 Try.zero22 Try.agg23 Try.sz23 Try.byt23 Try.zero23 Try.agg24 Try.sz24 Try.byt24 Try.zero24 Try.agg25 Try.sz25 Try.byt25 Try.zero25 Try.agg26 Try.sz26 Try.byt26 Try.zero26 Try.agg27 Try.sz27 Try.byt27 Try.el27 Try.zero27 Try.agg28 Try.sz28 Try.byt28 Try.el28 Try.zero28 Try.agg29 Try.sz29 Try.byt29 Try.el29 Try.zero29 Try.agg30 Try.sz30 Try.byt30 Try.zero30 Try.agg31 Try.sz31 Try.byt31 Try.zero31 Try.agg32 Try.sz32 Try.byt32 Try.zero32 Try.agg33 Try.sz33 Try.byt33 Try.el33 Try.zero33 Try.agg34 Try.sz34 Try.byt34 Try.zero34 Try.agg35 Try.sz35 Try.byt35 Try.zero35 Try.agg36 Try.sz36 Try.byt36 Try.zero36 Try.agg37 Try.sz37 Try.byt37 Try.zero37 Try.agg39 Try.sz39 Try.byt39 Try.zero39 Try.agg40 Try.sz40 Try.byt40 Try.zero40 Try.agg42 Try.sz42 Try.byt42 Try.zero42 Try.agg44 Try.sz44 Try.byt44 Try.zero44 Try.agg45 Try.sz45 Try.byt45 Try.zero45 Try.agg46 Try.sz46 Try.byt46 Try.zero46 Try.agg47 Try.sz47 Try.byt47 Try.el47 Try.zero47 Try.agg48 Try.sz48 Try.byt48 Try.zero48 Try.agg49 Try.sz49 Try.byt49 Try.zero49 Try.agg50 Try.sz50 Try.byt50 Try.zero50 Try.agg51 Try.sz51 Try.byt51 Try.zero51 Try.agg52 Try.sz52 Try.byt52 Try.zero52 Try.agg53 Try.sz53 Try.byt53 Try.zero53 Try.agg54 Try.sz54 Try.byt54 Try.zero54 Try.agg55 Try.sz55 Try.byt55 Try.zero55 Try.agg56 Try.sz56 Try.byt56 Try.zero56 Try.agg57 Try.sz57 Try.byt57 Try.zero57 Try.agg58 Try.sz58 Try.byt58 Try.zero58 Try.agg59 Try.sz59 Try.byt59 Try.zero59 Try.agg60 Try.sz60 Try.byt60 Try.zero60 Try.agg61 Try.sz61 Try.byt61 Try.zero61 Try.agg62 Try.sz62 Try.byt62 Try.zero62 Try.agg63 Try.sz63 Try.byt63 Try.zero63 Try.agg64 Try.sz64 Try.byt64 Try.zero64 Try.agg65 Try.sz65 Try.byt65 Try.zero65 Try.agg66 Try.sz66 Try.byt66 Try.zero66 Try.agg67 Try.sz67 Try.byt67 Try.zero67 Try.agg69 Try.sz69 Try.byt69 Try.zero69 Try.agg70 Try.sz70 Try.byt70 Try.zero70 Try.agg72 Try.sz72 Try.byt72 Try.zero72 Try.agg74 Try.sz74 Try.byt74 Try.zero74 Try.agg75 Try.sz75 Try.byt75 Try.zero75 Try.agg76 Try.sz76 Try.byt76 Try.zero76 Try.agg77 Try.sz77 Try.byt77 Try.zero77 Try.agg78 Try.sz78 Try.byt78 Try.zero78 Try.agg79 Try.sz79 Try.byt79 Try.zero79 Try.agg80 Try.sz80 Try.byt80 Try.zero80 Try.agg81 Try.sz81 Try.byt81 Try.zero81 Try.agg82 Try.sz82 Try.byt82 Try.zero82 Try.agg83 Try.sz83 Try.byt83 Try.zero83 Try.agg84 Try.sz84 Try.byt84 Try.zero84 Try.agg85 Try.sz85 Try.byt85 Try.zero85 Try.agg86 Try.sz86 Try.byt86 Try.zero86 Try.agg88 Try.sz88 Try.byt88 Try.zero88 Try.agg89 Try.sz89 Try.byt89 Try.zero89 Try.agg90 Try.sz90 Try.byt90 Try.zero90 Try.agg91 Try.sz91 Try.byt91 Try.zero91 Try.agg92 Try.sz92 Try.byt92 Try.zero92 Try.agg93 Try.sz93 Try.byt93 Try.zero93 Try.agg94 Try.sz94 Try.byt94 Try.zero94 Try.agg95 Try.sz95 Try.byt95 Try.zero95 Try.agg96 Try.sz96 Try.byt96 Try.zero96 Try.agg97 Try.sz97 Try.byt97 Try.zero97 Try.agg98 Try.sz98 Try.byt98 Try.zero98 Try.agg99 Try.sz99 Try.byt99 Try.zero99 Try.agg100 Try.sz100 Try.byt100 Try.zero100 Try.agg101 Try.sz101 Try.byt101 Try.zero101 Try.agg102 Try.sz102 Try.byt102 Try.zero102 Try.body0 Try.body1 Try.body2 Try.body3 Try.body4 Try.body5 Try.body6 Try.body7 Try.body8 Try.body9 Try.body10 Try.body11 Try.body12 Try.body13 Try.body14 Try.body15 Try.body16 Try.body17 Try.body18 Try.body19 Try.body20 Try.body21 Try.body22 Try.body23 Try.body24 Try.body25 Try.body26 Try.body27 Try.body28 Try.body29 Try.body30 Try.body31 Try.body32 Try.body33 Try.body34 Try.body35 Try.body36 Try.body37 Try.body38 Try.body39 Try.body40 Try.body41 Try.body42 Try.body43 Try.body44 Try.body45 Try.body46 Try.body47 Try.body48 Try.body49 Try.body50 Try.body51 Try.body52 Try.body53 Try.body54 Try.body55 Try.body56 Try.body57 Try.body58 Try.body59 Try.body60 Try.body61 Try.body62 Try.body63 Try.body64 Try.body65 Try.body66 Try.body67 Try.body68 Try.body69 Try.body70 Try.body71 Try.body72 Try.build7 Try.build8 Try.build13 Try.build14 Try.build18 Try.build19 Try.bsl22 Try.bsl27 Try.bsl28 Try.bsl29 Try.build30 Try.build31 Try.bsl33 Try.bsl47 Try.build48 Try.build49 Try.build62 Try.build63 Try.build88 Try.build89 Try.build91 Try.build92 Try.build100 Try.build101 Try.underlying1 Try.underlying2 Try.underlying3 Try.underlying4 Try.underlying5 Try.underlying6 Try.underlying7 Try.underlying8 Try.underlying9 Try.underlying10 Try.underlying11 Try.underlying12 Try.underlying13 Try.underlying14 Try.underlying15 Try.underlying16 Try.underlying17 Try.underlying18 Try.underlying19 Try.underlying20 Try.underlying21 Try.underlying22 Try.underlying23 Try.underlying24 Try.underlying25 Try.underlying26 Try.underlying27 Try.underlying28 Try.underlying29 Try.underlying30 Try.underlying31 Try.underlying32 Try.underlying33 Try.underlying34 Try.underlying35 Try.underlying36 Try.underlying37 Try.underlying39 Try.underlying40 Try.underlying42 Try.underlying44 Try.underlying45 Try.underlying46 Try.underlying47 Try.underlying48 Try.underlying49 Try.underlying50 Try.underlying51 Try.underlying52 Try.underlying53 Try.underlying54 Try.underlying55 Try.underlying56 Try.underlying57 Try.underlying58 Try.underlying59 Try.underlying60 Try.underlying61 Try.underlying62 Try.underlying63 Try.underlying64 Try.underlying65 Try.underlying66 Try.underlying67 Try.underlying69 Try.underlying70 Try.underlying72 Try.underlying74 Try.underlying75 Try.underlying76 Try.underlying77 Try.underlying78 Try.underlying79 Try.underlying80 Try.underlying81 Try.underlying82 Try.underlying83 Try.underlying84 Try.underlying85 Try.underlying86 Try.underlying88 Try.underlying89 Try.underlying90 Try.underlying91 Try.underlying92 Try.underlying93 Try.underlying94 Try.underlying95 Try.underlying96 Try.underlying97 Try.underlying98 Try.underlying99 Try.underlying100 Try.underlying101 Try.underlying102
theorem Try.enters7 : Enters Try.prog 7 := enters_of Try.func7 rfl (by kernel_rfl)
theorem namL_le : ∀ (l : List (ByteArray × Int)), (∀ p ∈ l, okPr p) → (namL l).length ≤ l.length * 16400
  | [], _ => by simp [namL]
  | p :: l, h => by
    obtain ⟨h1, h2, h3⟩ := h p (List.mem_cons_self ..)
    have := namL_le l (fun p hp => h p (List.mem_cons_of_mem _ hp))
    have e1 := enc_len 1 p.1.size (by omega)
    have e2 := enc_len 1 p.2.toNat (by omega)
    rw [namL_cons]
    simp only [List.length_append, nums_length, List.length_cons]
    omega
theorem encV_le {V : VerT} (h : mayB V = true) : (encV V).length ≤ 200000 ∧ 4 ≤ (encV V).length := by
  obtain ⟨m1, m2, m3, m4⟩ := mayF h
  have := namL_le _ m4
  have hz : (V.names.zip V.sizes).length = V.names.length := by rw [List.length_zip]; omega
  have e1 := enc_len 1 V.blocks.length (by omega)
  have e2 := enc_len 1 V.names.length (by omega)
  unfold encV
  simp only [List.length_append, bigL_length, blkL_len]
  omega
theorem encV_byte {V : VerT} (h : V.ok) : ∀ x ∈ encV V, Byte x := by
  intro x hx
  unfold encV at hx
  simp only [List.mem_append] at hx
  rcases hx with (((hx | hx) | hx) | hx) | hx
  · exact bigL_byte _ _ x hx
  · exact enc_byte _ x hx
  · obtain ⟨y, hy, hx⟩ := List.mem_flatMap.1 hx
    exact h.2.2 y hy x hx
  · exact enc_byte _ x hx
  · obtain ⟨y, hy, hx⟩ := List.mem_flatMap.1 hx
    simp only [List.mem_append] at hx
    rcases hx with (hx | hx) | hx
    · exact enc_byte _ x hx
    · exact nums_byte _ x hx
    · exact enc_byte _ x hx
theorem decR_cut {V : VerT} (hk : V.ok) (hm : mayB V = true) (k : Nat) (h : k < (encV V).length) : decR ((encV V).take k) = (V0, 40) := by
  have := progR_cut hk hm (q := (encV V).take k) (u := (encV V).drop k) (by intro e; have := congrArg List.length e; simp at this; omega) (List.take_append_drop ..).symm
  unfold decR; rw [this]; rfl
theorem decR_more {V : VerT} (hk : V.ok) (hm : mayB V = true) : decR (encV V ++ [120]) = (V0, 42) := by
  unfold decR; rw [progR_fw hk hm]; rfl
set_option maxHeartbeats 8000000 in
theorem back_all (w0 : World) (A : St) (v : Value) (V : VerT) (rest : ByteArray) (cut : Int) (hv : VerV A V v) (okV : V.ok) (hcut : 0 ≤ cut ∧ cut ≤ 65535) : ACalls Try.prog w0 7 #[v, .string rest, .int .u16 cut] A (fin (.bool true) A) := by
  obtain ⟨c0, c1⟩ := hcut
  obtain ⟨ab, cb, an, cn, az, cs, rfl⟩ := hv.agg
  refine call_E Try.enters7 Try.func7 rfl (Nat.le_of_ble_eq_true rfl) fun hw hbd => ?_
  simp (maxSteps := 1000000) (disch := (first | omega | (simp only [nx_alloc, nx_upd, len_cons, len_nil, List.length_set, List.length_map, List.length_append] <;> omega) | fail)) only [Nat.reduceAdd, Nat.reduceSub, Nat.reduceMul, Nat.reduceLT, Nat.reduceLeDiff, Nat.reduceEqDiff, ↓reduceIte, reduceCtorEq, Int.reduceAdd, Int.reduceSub, Int.reduceMul, Int.reduceLT, Int.reduceLE, Int.reduceEq, Int.reduceNe, Int.reduceToNat, Int.reduceNeg, go_sem, Try.ntmps7, Try.results7]
  obtain ⟨A1, hA1⟩ : ∃ A1, A1 = A.alloc (.cells [.int .u32 V.id, .slice ab V.blocks.length cb, .slice an V.names.length cn, .slice az V.sizes.length cs] 31 (some 0)) := ⟨_, rfl⟩
  have ov1 : Over A A1 := hA1 ▸ (Over.refl A).alloc _
  have hbx : A1.get A.next = some (.cells [.int .u32 V.id, .slice ab V.blocks.length cb, .slice an V.names.length cn, .slice az V.sizes.length cs] 31 (some 0)) := by rw [hA1]; exact get_alloc_same ..
  have nA1 : A1.next = A.next + 1 := by rw [hA1]; rfl
  rw [← hA1]
  have hv1 := hv.over ov1
  refine call1 (heavy_ok w0 A1 V _ hv1) ?_
  cases hh : hvV V
  rotate_left
  · simp (maxSteps := 1000000) (disch := (first | omega | (simp only [nx_alloc, nx_upd, len_cons, len_nil, List.length_set, List.length_map, List.length_append] <;> omega) | fail)) only [Nat.reduceAdd, Nat.reduceSub, Nat.reduceMul, Nat.reduceLT, Nat.reduceLeDiff, Nat.reduceEqDiff, ↓reduceIte, reduceCtorEq, Int.reduceAdd, Int.reduceSub, Int.reduceMul, Int.reduceLT, Int.reduceLE, Int.reduceEq, Int.reduceNe, Int.reduceToNat, Int.reduceNeg, go_sem]
    refine call1 (shown_ok w0 A1) ?_
    simp (maxSteps := 1000000) (disch := (first | omega | (simp only [nx_alloc, nx_upd, len_cons, len_nil, List.length_set, List.length_map, List.length_append] <;> omega) | fail)) only [Nat.reduceAdd, Nat.reduceSub, Nat.reduceMul, Nat.reduceLT, Nat.reduceLeDiff, Nat.reduceEqDiff, ↓reduceIte, reduceCtorEq, Int.reduceAdd, Int.reduceSub, Int.reduceMul, Int.reduceLT, Int.reduceLE, Int.reduceEq, Int.reduceNe, Int.reduceToNat, Int.reduceNeg, go_sem, Try.results7]
    exact gc_fin' hw ov1 rfl (.bool _)
  have sV := hvV_small hh
  by_cases hr : 200 < rest.size
  · have hr' : (rest.size : Int) > 200 := by omega
    simp (maxSteps := 1000000) (disch := (first | omega | (simp only [nx_alloc, nx_upd, len_cons, len_nil, List.length_set, List.length_map, List.length_append] <;> omega) | fail)) only [Nat.reduceAdd, Nat.reduceSub, Nat.reduceMul, Nat.reduceLT, Nat.reduceLeDiff, Nat.reduceEqDiff, ↓reduceIte, reduceCtorEq, Int.reduceAdd, Int.reduceSub, Int.reduceMul, Int.reduceLT, Int.reduceLE, Int.reduceEq, Int.reduceNe, Int.reduceToNat, Int.reduceNeg, go_sem]
    refine call1 (shown_ok w0 A1) ?_
    simp (maxSteps := 1000000) (disch := (first | omega | (simp only [nx_alloc, nx_upd, len_cons, len_nil, List.length_set, List.length_map, List.length_append] <;> omega) | fail)) only [Nat.reduceAdd, Nat.reduceSub, Nat.reduceMul, Nat.reduceLT, Nat.reduceLeDiff, Nat.reduceEqDiff, ↓reduceIte, reduceCtorEq, Int.reduceAdd, Int.reduceSub, Int.reduceMul, Int.reduceLT, Int.reduceLE, Int.reduceEq, Int.reduceNe, Int.reduceToNat, Int.reduceNeg, go_sem, Try.results7]
    exact gc_fin' hw ov1 rfl (.bool _)
  have hr' : ¬ (rest.size : Int) > 200 := by omega
  simp (maxSteps := 1000000) (disch := (first | omega | (simp only [nx_alloc, nx_upd, len_cons, len_nil, List.length_set, List.length_map, List.length_append] <;> omega) | fail)) only [Nat.reduceAdd, Nat.reduceSub, Nat.reduceMul, Nat.reduceLT, Nat.reduceLeDiff, Nat.reduceEqDiff, ↓reduceIte, reduceCtorEq, Int.reduceAdd, Int.reduceSub, Int.reduceMul, Int.reduceLT, Int.reduceLE, Int.reduceEq, Int.reduceNe, Int.reduceToNat, Int.reduceNeg, go_sem]
  refine call1 (shown_ok w0 A1) ?_
  simp (maxSteps := 1000000) (disch := (first | omega | (simp only [nx_alloc, nx_upd, len_cons, len_nil, List.length_set, List.length_map, List.length_append] <;> omega) | fail)) only [Nat.reduceAdd, Nat.reduceSub, Nat.reduceMul, Nat.reduceLT, Nat.reduceLeDiff, Nat.reduceEqDiff, ↓reduceIte, reduceCtorEq, Int.reduceAdd, Int.reduceSub, Int.reduceMul, Int.reduceLT, Int.reduceLE, Int.reduceEq, Int.reduceNe, Int.reduceToNat, Int.reduceNeg, go_sem, hbx]
  refine call1 (encode_ok w0 A1 V _ hv1 sV okV) ?_
  unfold strIntV encR
  cases hm : mayB V
  · have hbe : (ByteArray.empty == { data := #[] }) = true := rfl
    simp (maxSteps := 1000000) (disch := (first | omega | (simp only [nx_alloc, nx_upd, len_cons, len_nil, List.length_set, List.length_map, List.length_append] <;> omega) | fail)) only [Nat.reduceAdd, Nat.reduceSub, Nat.reduceMul, Nat.reduceLT, Nat.reduceLeDiff, Nat.reduceEqDiff, ↓reduceIte, reduceCtorEq, Int.reduceAdd, Int.reduceSub, Int.reduceMul, Int.reduceLT, Int.reduceLE, Int.reduceEq, Int.reduceNe, Int.reduceToNat, Int.reduceNeg, go_sem, hbe, Try.results7]
    exact gc_fin' hw ov1 rfl (.bool _)
  obtain ⟨l1, l2⟩ := encV_le hm
  have hsz := str_size (encV V)
  have hb := encV_byte okV
  have hp := fun A' => read_ver_ok w0 A' (strOfNums (encV V) ++ rest) (by rw [ByteArray.size_append]; omega)
  rw [nums_append, nums_str hb, progR_fw okV hm] at hp
  obtain ⟨k, hk1, hk2⟩ : ∃ k : Nat, k < (encV V).length ∧ cut.tmod ((strOfNums (encV V)).size : Int) = k := by
    have h1 := Int.tmod_nonneg ((strOfNums (encV V)).size : Int) c0
    have h2 := Int.tmod_lt_of_pos cut (b := ((strOfNums (encV V)).size : Int)) (by omega)
    obtain ⟨k, hk⟩ := Int.eq_ofNat_of_zero_le h1
    exact ⟨k, by omega, hk⟩
  have hd := fun A' => decode_ok w0 A' (strOfNums ((encV V).take k)) (by rw [str_size, List.length_take]; omega)
  rw [nums_str (fun x hx => hb x (List.mem_of_mem_take hx)), decR_cut okV hm k hk1] at hd
  have hx := fun A' => decode_ok w0 A' (strOfNums (encV V) ++ ⟨#[120]⟩) (by rw [ByteArray.size_append, str_size]; have : (⟨#[120]⟩ : ByteArray).size = 1 := rfl; omega)
  rw [nums_append, nums_str hb, show nums ⟨#[120]⟩ = [120] from rfl, decR_more okV hm] at hx
  have hex := str_take hb k
  have h120 : (⟨#[120]⟩ : ByteArray).size = 1 := rfl
  simp (maxSteps := 1000000) (disch := (first | omega | (simp only [nx_alloc, nx_upd, len_cons, len_nil, List.length_set, List.length_map, List.length_append] <;> omega) | fail)) only [Nat.reduceAdd, Nat.reduceSub, Nat.reduceMul, Nat.reduceLT, Nat.reduceLeDiff, Nat.reduceEqDiff, ↓reduceIte, reduceCtorEq, Int.reduceAdd, Int.reduceSub, Int.reduceMul, Int.reduceLT, Int.reduceLE, Int.reduceEq, Int.reduceNe, Int.reduceToNat, Int.reduceNeg, go_sem]
  refine (hp A1).mono ?_
  rintro _ A2 ⟨v2, rfl, o2, r2⟩
  have y2 := r2.ver
  clear r2
  obtain ⟨d1, k1, d2, k2, d3, k3, rfl⟩ := y2.agg
  simp (maxSteps := 1000000) (disch := (first | omega | (simp only [nx_alloc, nx_upd, len_cons, len_nil, List.length_set, List.length_map, List.length_append] <;> omega) | fail)) only [Nat.reduceAdd, Nat.reduceSub, Nat.reduceMul, Nat.reduceLT, Nat.reduceLeDiff, Nat.reduceEqDiff, ↓reduceIte, reduceCtorEq, Int.reduceAdd, Int.reduceSub, Int.reduceMul, Int.reduceLT, Int.reduceLE, Int.reduceEq, Int.reduceNe, Int.reduceToNat, Int.reduceNeg, go_sem]
  obtain ⟨p2, n2, g2⟩ := var_ver A2 (.cells [.int .u32 V.id, .slice d1 V.blocks.length k1, .slice d2 V.names.length k2, .slice d3 V.sizes.length k3] 31 (some 0))
  have hke : (cut.tmod ((strOfNums (encV V)).size : Int)).toNat = k := by rw [hk2]; rfl
  rw [hke, hex]
  change ACalls _ _ _ _ ((A2.alloc zeroVer).upd A2.next (some (.cells [.int .u32 V.id, .slice d1 V.blocks.length k1, .slice d2 V.names.length k2, .slice d3 V.sizes.length k3] 31 (some 0)))) _
  generalize (A2.alloc zeroVer).upd A2.next (some (.cells [.int .u32 V.id, .slice d1 V.blocks.length k1, .slice d2 V.names.length k2, .slice d3 V.sizes.length k3] 31 (some 0))) = B2 at *
  refine (hd B2).mono ?_
  rintro _ A3 ⟨v3, rfl, o3, r3⟩
  have y3 := r3.ver
  clear r3
  obtain ⟨l1, m1, l2, m2, l3, m3, rfl⟩ := y3.agg
  simp (maxSteps := 1000000) (disch := (first | omega | (simp only [nx_alloc, nx_upd, len_cons, len_nil, List.length_set, List.length_map, List.length_append] <;> omega) | fail)) only [Nat.reduceAdd, Nat.reduceSub, Nat.reduceMul, Nat.reduceLT, Nat.reduceLeDiff, Nat.reduceEqDiff, ↓reduceIte, reduceCtorEq, Int.reduceAdd, Int.reduceSub, Int.reduceMul, Int.reduceLT, Int.reduceLE, Int.reduceEq, Int.reduceNe, Int.reduceToNat, Int.reduceNeg, go_sem]
  obtain ⟨p3, n3, g3⟩ := var_ver A3 (.cells [.int .u32 V0.id, .slice l1 V0.blocks.length m1, .slice l2 V0.names.length m2, .slice l3 V0.sizes.length m3] 31 (some 0))
  change ACalls _ _ _ _ ((A3.alloc zeroVer).upd A3.next (some (.cells [.int .u32 V0.id, .slice l1 V0.blocks.length m1, .slice l2 V0.names.length m2, .slice l3 V0.sizes.length m3] 31 (some 0)))) _
  generalize (A3.alloc zeroVer).upd A3.next (some (.cells [.int .u32 V0.id, .slice l1 V0.blocks.length m1, .slice l2 V0.names.length m2, .slice l3 V0.sizes.length m3] 31 (some 0))) = B3 at *
  refine (hx B3).mono ?_
  rintro _ A4 ⟨v4, rfl, o4, r4⟩
  have y4 := r4.ver
  clear r4
  obtain ⟨q1, s1, q2, s2, q3, s3, rfl⟩ := y4.agg
  obtain ⟨p4, n4, g4⟩ := var_ver A4 (.cells [.int .u32 V0.id, .slice q1 V0.blocks.length s1, .slice q2 V0.names.length s2, .slice q3 V0.sizes.length s3] 31 (some 0))
  have ld : ∀ (V : VerT) (b1 b2 b3 : Option Addr) (c1 c2 c3 : Nat), loadC (some true) (some 4) (some (.cells [.int .u32 V.id, .slice b1 V.blocks.length c1, .slice b2 V.names.length c2, .slice b3 V.sizes.length c3] 31 (some 0))) 0 = some (.agg #[.int .u32 V.id, .slice b1 V.blocks.length c1, .slice b2 V.names.length c2, .slice b3 V.sizes.length c3]) := by
    intro V b1 b2 b3 c1 c2 c3; rw [loadC_agg _ _ _ _ _ (by simp), List.drop_zero]; rfl
  have h2 := o2.next
  have h3 := o3.next
  have h4 := o4.next
  have w3 : Over B3 ((A4.alloc zeroVer).upd A4.next (some (.cells [.int .u32 V0.id, .slice q1 V0.blocks.length s1, .slice q2 V0.names.length s2, .slice q3 V0.sizes.length s3] 31 (some 0)))) := o4.trans p4
  have w2 := (o3.trans p3).trans w3
  have w1 := (o2.trans p2).trans w2
  have w0' := ov1.trans w1
  rw [← w1.get _ (by omega)] at hbx
  rw [← w2.get _ (by omega)] at g2
  have z1 := hv1.over w1
  have z2 := y2.over (p2.trans w2)
  unfold zeroVer at z1 z2 g2 hbx w0' n4
  have hst : strOfNums (nums rest) = rest := str_nums rest
  simp (maxSteps := 1000000) (disch := (first | omega | (simp only [nx_alloc, nx_upd, len_cons, len_nil, List.length_set, List.length_map, List.length_append] <;> omega) | fail)) only [Nat.reduceAdd, Nat.reduceSub, Nat.reduceMul, Nat.reduceLT, Nat.reduceLeDiff, Nat.reduceEqDiff, ↓reduceIte, reduceCtorEq, Int.reduceAdd, Int.reduceSub, Int.reduceMul, Int.reduceLT, Int.reduceLE, Int.reduceEq, Int.reduceNe, Int.reduceToNat, Int.reduceNeg, go_sem, hbx, g2, ld, hst]
  refine call1 (rvsame_ok w0 _ V V _ _ z2 z1 sV sV) ?_
  rw [eqV_self]
  simp (maxSteps := 1000000) (disch := (first | omega | (simp only [nx_alloc, nx_upd, len_cons, len_nil, List.length_set, List.length_map, List.length_append] <;> omega) | fail)) only [Nat.reduceAdd, Nat.reduceSub, Nat.reduceMul, Nat.reduceLT, Nat.reduceLeDiff, Nat.reduceEqDiff, ↓reduceIte, reduceCtorEq, Int.reduceAdd, Int.reduceSub, Int.reduceMul, Int.reduceLT, Int.reduceLE, Int.reduceEq, Int.reduceNe, Int.reduceToNat, Int.reduceNeg, go_sem, beqS, Try.results7]
  exact gc_fin' hw w0' rfl (.bool _)
end Go.Fw
