import Derived.Test.YtliiiadmokpkfaaFwI
set_option linter.unusedSimpArgs false
set_option linter.unusedVariables false
namespace Go.Fw
open Go.Proofs Go.RowKit
attribute [local go_sem] List.length_cons List.length_nil Nat.zero_add Nat.add_zero Nat.zero_mul Nat.mul_one Int.toNat_zero Int.toNat_natCast List.map_cons List.map_nil List.map_toArray List.toList_toArray List.append_toArray List.append_eq List.nil_append List.cons_append List.append_nil List.all_toArray List.all_cons List.all_nil Bool.and_true Bool.true_and Bool.and_self List.getElem?_toArray List.getElem?_cons_zero List.getElem?_cons_succ List.set_cons_zero List.set_cons_succ List.drop_zero List.drop_succ_cons List.take_zero List.take_succ_cons Option.bind_some Option.map_some id true_and and_true and_self St.next_alloc St.next_upd beq_self_eq_true Bool.not_true Bool.not_false Bool.false_eq_true false_implies true_implies Option.isNone_none Option.isNone_some Option.isSome_none Option.isSome_some ge_iff_le gt_iff_lt Nat.sub_zero Nat.add_assoc IntWalk.i64_in IntWalk.u64_in IntWalk.u8_in IntWalk.u32_in IntWalk.i32_in IntWalk.u16_in dec_not Bool.not_eq_true decide_true decide_false ne_eq not_true_eq_false not_false_eq_true Bool.true_or Bool.or_true Bool.or_false Bool.false_or Bool.and_false Bool.false_and upd_apply rd_eq ar_zero ar_succ ar_nil tm_size tm_getD tm_set E_tmps E_defers put_E put_none eval_tmp eval_const eval_func setArgs_0 setArgs_1 setArgs_2 append_lit stepV_some stepA_some guardO_true ifB_true ifB_false wantV_true wantV_false wantV_dec_t wantV_dec_f ifB_dec_t ifB_dec_f condV_bool dec_and dec_or isB_bool someB_t someB_f okO_tmp okO_func okO_int okO_bool okO_string okO_ptr0 okO_slice0 okO_nilFunc okO_nilIface okO_map0 okO_agg wanted_none wanted_some lookT_some aopsL_nil aopsL_cons wpA_skip wpA_label wpA_exit wpA_goto wpA_ret wpA_seq wpA_block wpA_region wpA_cond wpA_loop wpA_rangeFunc wpA_draw thenQ_normal thenQ_exit thenQ_ret thenQ_panic blockQ_normal blockQ_ret blockQ_panic blockQ_exit funQ_ret funQ_normal funQ_panic op_move op_assign pickV_or pickV_and pickV_t pickV_f pickV_true pickV_false op_pick allocV_some op_alloc op_box op_load op_nilCheck op_bin op_lookup bptr btype op_un op_convert op_makeInterface op_makeSlice op_fieldAddr op_field op_indexAddr op_index op_extract op_typeAssert storeV_some op_store op_makeMap op_mapUpdate op_slice00 op_slice10 op_slice01 op_slice11 op_slice111 op_slice011 op_makeFunc callV_true op_call op_builtin panicV_iface op_panic ACallV_func ACallF_false ACallF_true ACallV_yield afterCall_returned afterCall_panicked bin_add bin_sub bin_mul bin_and bin_or bin_xor bin_andNot bin_eql bin_neq bin_lss bin_leq bin_gtr bin_geq mval_some mval_none lookup_map lookU_map lookK_smap mapSet_map msetU_map msetK_int conv_to conv_from unsT_cells unsF_cells bin_same bin_nil bdata_nil bdata_some builtin_data builtin_str bin_quo bin_rem bin_shl bin_shr bin_sadd bin_seql bin_sneq bin_slss uB_bool bin_beql bin_bneq uP_pointer bin_peql bin_pneq uS_slice bin_leql bin_lneq bin_ieql bin_ineq un_neg un_xor un_not nilCheck_ptr nilCheck_func nilCheck_yield load_ptr loadC_one loadC_agg store_ptr slice_eq sliceU_string sliceU_slice sliceU_array sliceS_eq boundsS_some sliceL_eq boundsL_nil boundsL_exact boundsL_least boundsL_own boundsL_ownN bounds_11 bounds_10 bounds_01 bounds_00 builtin_len len_string len_array len_slice builtin_append builtin_copy pairA_some builtin_min builtin_max min_two max_two index_eq index_string index_array indexAddr_eq indexAddr_array indexAddr_slice fieldAddr_eq posO_some fAddr_some fieldAddr_struct partC_some field_eq field_struct part_eq partU_one partU_agg extract_tuple conv_eq conv_int conv_string u8O_u8 conv_bytes conv_text_nil conv_text_zero conv_text mkIface_eq get_upd_same consO_some finR_0 finR_1 finR_2 aresL_nil aresL_cons ares1_tmp ares1_cell retV_some aleave_nil aleave_coll bnd_int bnd_bool bnd_string bnd_nilIface bnd_slice0 bnd_iface bnd_slice bnd_ptr bnd_ptr0 bndL_nil bndL_cons bndA_lit bnd_tuple bnd_agg calm_same skipC_eq aopsC_nil aopsC_cons stepC_call stepC_move stepC_assign stepC_pick stepC_alloc stepC_box stepC_build stepC_buildSlice stepC_load stepC_store stepC_nilCheck stepC_binOp stepC_unOp stepC_convert stepC_makeInterface stepC_makeFunc stepC_makeSlice stepC_slice stepC_fieldAddr stepC_field stepC_indexAddr stepC_index stepC_extract stepC_typeAssert stepC_lookup stepC_mapUpdate stepC_makeMap stepC_builtin to_same sameA_eq aopsX_nil aopsX_cons stepX_heavy stepX_light lightK_eq allC_nil allC_cons hs_zero hs_succ stepT_call pure_call stepT_move pure_move stepT_assign pure_assign stepT_pick pure_pick stepT_alloc pure_alloc stepT_box pure_box stepT_build pure_build stepT_buildSlice pure_buildSlice stepT_load pure_load stepT_store pure_store stepT_nilCheck pure_nilCheck stepT_binOp pure_binOp stepT_unOp pure_unOp stepT_convert pure_convert stepT_makeInterface pure_makeInterface stepT_makeFunc pure_makeFunc stepT_makeSlice pure_makeSlice stepT_slice pure_slice stepT_fieldAddr pure_fieldAddr stepT_field pure_field stepT_indexAddr pure_indexAddr stepT_index pure_index stepT_extract pure_extract stepT_typeAssert pure_typeAssert stepT_lookup pure_lookup stepT_mapUpdate pure_mapUpdate stepT_makeMap pure_makeMap stepT_builtin pure_b_len pure_b_append pure_b_copy pure_b_min pure_b_max pure_b_unsafeSliceData pure_b_unsafeString leaveK_eq aleave_fn op_defer deferV_func resK_some defQ_ret defQ_normal storeC_int storeC_bool storeC_string storeC_slice storeC_func storeC_pointer len_cons len_nil cells_int cells_bool cells_string cells_slice cells_pointer cells_func cells_map cells_nilFunc cells_agg cell1_bool cell1_string cell1_slice cell1_pointer cell1_func cell1_i cell1_map cell1_nilFunc setList_nil setList_cons storeC_aggS fillP_nil fillP_cons fillAt_1 fillAt_n aggO_some sliceO_some places_0 places_s zerosR_0 zerosR_s thenElse_true evP_nil evP_cons okP_nil okP_cons op_buildL op_buildSliceL isBu_t isBu_f mk_E get_alloc_old get_alloc_new get_upd_old Try.agg1 Try.sz1 Try.byt1 Try.zero1 Try.agg2 Try.sz2 Try.byt2 Try.zero2 Try.agg3 Try.sz3 Try.byt3 Try.zero3 Try.agg4 Try.sz4 Try.byt4 Try.zero4 Try.agg5 Try.sz5 Try.byt5 Try.zero5 Try.agg6 Try.sz6 Try.byt6 Try.zero6 Try.agg7 Try.sz7 Try.byt7 Try.zero7 Try.agg8 Try.sz8 Try.byt8 Try.zero8 Try.agg9 Try.sz9 Try.byt9 Try.zero9 Try.agg10 Try.sz10 Try.byt10 Try.zero10 Try.agg11 Try.sz11 Try.byt11 Try.zero11 Try.agg12 Try.sz12 Try.byt12 Try.zero12 Try.agg13 Try.sz13 Try.byt13 Try.zero13 Try.agg14 Try.sz14 Try.byt14 Try.zero14 Try.agg15 Try.sz15 Try.byt15 Try.zero15 Try.agg16 Try.sz16 Try.byt16 Try.zero16 Try.agg17 Try.sz17 Try.byt17 Try.zero17 Try.agg18 Try.sz18 Try.byt18 Try.zero18 Try.agg19 Try.sz19 Try.byt19 Try.zero19 Try.agg20 Try.sz20 Try.byt20 Try.zero20 Try.agg21 Try.sz21 Try.byt21 Try.zero21 Try.agg22 Try.sz22 Try.byt22 Try.el22 Try.zero22 Try.agg23 Try.sz23 Try.byt23 Try.zero23 Try.agg24 Try.sz24 Try.byt24 Try.zero24 Try.agg25 Try.sz25 Try.byt25 Try.zero25 Try.agg26 Try.sz26 Try.byt26 Try.zero26 Try.agg27 Try.sz27 Try.byt27 Try.zero27 Try.agg28 Try.sz28 Try.byt28 Try.zero28 Try.agg29 Try.sz29 Try.byt29 Try.zero29 Try.agg30 Try.sz30 Try.byt30 Try.el30 Try.zero30 Try.agg31 Try.sz31 Try.byt31 Try.zero31 Try.agg32 Try.sz32 Try.byt32 Try.zero32 Try.agg33 Try.sz33 Try.byt33 Try.el33 Try.zero33 Try.agg35 Try.sz35 Try.byt35 Try.zero35 Try.agg36 Try.sz36 Try.byt36 Try.zero36 Try.agg37 Try.sz37 Try.byt37 Try.zero37 Try.agg38 Try.sz38 Try.byt38 Try.zero38 Try.agg40 Try.sz40 Try.byt40 Try.zero40 Try.agg41 Try.sz41 Try.byt41 Try.zero41 Try.agg42 Try.sz42 Try.byt42 Try.zero42 Try.agg43 Try.sz43 Try.byt43 Try.zero43 Try.agg44 Try.sz44 Try.byt44 Try.zero44 Try.agg45 Try.sz45 Try.byt45 Try.zero45 Try.agg46 Try.sz46 Try.byt46 Try.zero46 Try.agg47 Try.sz47 Try.byt47 Try.zero47 Try.agg48 Try.sz48 Try.byt48 Try.zero48 Try.agg49 Try.sz49 Try.byt49 Try.zero49 Try.agg50 Try.sz50 Try.byt50 Try.el50 Try.zero50 Try.agg51 Try.sz51 Try.byt51 Try.zero51 Try.agg52 Try.sz52 Try.byt52 Try.zero52 Try.agg53 Try.sz53 Try.byt53 Try.zero53 Try.agg54 Try.sz54 Try.byt54 Try.zero54 Try.agg56 Try.sz56 Try.byt56 Try.zero56 Try.agg57 Try.sz57 Try.byt57 Try.zero57 Try.agg58 Try.sz58 Try.byt58 Try.zero58 Try.agg60 Try.sz60 Try.byt60 Try.zero60 Try.agg61 Try.sz61 Try.byt61 Try.zero61 Try.agg62 Try.sz62 Try.byt62 Try.zero62 Try.agg63 Try.sz63 Try.byt63 Try.zero63 Try.agg64 Try.sz64 Try.byt64 Try.zero64 Try.agg65 Try.sz65 Try.byt65 Try.zero65 Try.agg66 Try.sz66 Try.byt66 Try.zero66 Try.agg67 Try.sz67 Try.byt67 Try.zero67 Try.agg68 Try.sz68 Try.byt68 Try.zero68 Try.agg69 Try.sz69 Try.byt69 Try.zero69 Try.agg70 Try.sz70 Try.byt70 Try.zero70 Try.agg71 Try.sz71 Try.byt71 Try.zero71 Try.agg72 Try.sz72 Try.byt72 Try.zero72 Try.agg73 Try.sz73 Try.byt73 Try.zero73 Try.agg74 Try.sz74 Try.byt74 Try.zero74 Try.agg75 Try.sz75 Try.byt75 Try.zero75 Try.agg76 Try.sz76 Try.byt76 Try.zero76 Try.agg77 Try.sz77 Try.byt77 Try.zero77 Try.body0 Try.body1 Try.body2 Try.body3 Try.body4 Try.body5 Try.body6 Try.body7 Try.body8 Try.body9 Try.body10 Try.body11 Try.body12 Try.body13 Try.body14 Try.body15 Try.body16 Try.body17 Try.body18 Try.body19 Try.body20 Try.body21 Try.body22 Try.body23 Try.body24 Try.body25 Try.body26 Try.body27 Try.body28 Try.body29 Try.body30 Try.body31 Try.body32 Try.body33 Try.body34 Try.body35 Try.body36 Try.body37 Try.body38 Try.body39 Try.body40 Try.body41 Try.body42 Try.body43 Try.body44 Try.body45 Try.body46 Try.body47 Try.body48 Try.body49 Try.body50 Try.body51 Try.build7 Try.build8 Try.build13 Try.build14 Try.build18 Try.build19 Try.bsl22 Try.build27 Try.build28 Try.bsl30 Try.bsl33 Try.bsl50 Try.build51 Try.build52 Try.build64 Try.build65 Try.build67 Try.build68 Try.build76 Try.build77 Try.underlying1 Try.underlying2 Try.underlying3 Try.underlying4 Try.underlying5 Try.underlying6 Try.underlying7 Try.underlying8 Try.underlying9 Try.underlying10 Try.underlying11 Try.underlying12 Try.underlying13 Try.underlying14 Try.underlying15 Try.underlying16 Try.underlying17 Try.underlying18 Try.underlying19 Try.underlying20 Try.underlying21 Try.underlying22 Try.underlying23 Try.underlying24 Try.underlying25 Try.underlying26 Try.underlying27 Try.underlying28 Try.underlying29 Try.underlying30 Try.underlying31 Try.underlying32 Try.underlying33 Try.underlying35 Try.underlying36 Try.underlying37 Try.underlying38 Try.underlying40 Try.underlying41 Try.underlying42 Try.underlying43 Try.underlying44 Try.underlying45 Try.underlying46 Try.underlying47 Try.underlying48 Try.underlying49 Try.underlying50 Try.underlying51 Try.underlying52 Try.underlying53 Try.underlying54 Try.underlying56 Try.underlying57 Try.underlying58 Try.underlying60 Try.underlying61 Try.underlying62 Try.underlying63 Try.underlying64 Try.underlying65 Try.underlying66 Try.underlying67 Try.underlying68 Try.underlying69 Try.underlying70 Try.underlying71 Try.underlying72 Try.underlying73 Try.underlying74 Try.underlying75 Try.underlying76 Try.underlying77
set_option maxHeartbeats 8000000 in
theorem rPart_ok (w0 : World) (A : St) (names : List ByteArray) (sizes : List Int) (s : ByteArray) (v u : Value) (hv : StView A names v) (hu : InView A sizes u) (hn : names.length ≤ 1048576) (hz : sizes.length ≤ 1048576) (hs : s.size ≤ 1048576) :
    ACalls Try.prog w0 20 #[v, u, .string s] A (PartPost A (partV names sizes (nums s))) := by
  refine call_E Try.enters20 Try.func20 rfl (Nat.le_of_ble_eq_true rfl) fun hw hbd => ?_
  have hlen := View.lenU (e := 9) hv
  have hlen2 := View.lenU (e := 3) hu
  by_cases hne : names.length = sizes.length
  rotate_left
  · have hne' : ¬ ((names.length : Int) = sizes.length) := by omega
    have hpv : partV names sizes (nums s) = ([], 1) := if_neg hne
    simp (maxSteps := 1000000) (disch := (first | omega | (simp only [nx_alloc, nx_upd, len_cons, len_nil, List.length_set, List.length_map, List.length_append] <;> omega) | fail)) only [Nat.reduceAdd, Nat.reduceSub, Nat.reduceMul, Nat.reduceLT, Nat.reduceLeDiff, Nat.reduceEqDiff, ↓reduceIte, reduceCtorEq, Int.reduceAdd, Int.reduceSub, Int.reduceMul, Int.reduceLT, Int.reduceLE, Int.reduceEq, Int.reduceNe, Int.reduceToNat, Int.reduceNeg, go_sem, Try.ntmps20, Try.results20, hlen, hlen2]
    rw [hpv]
    exact gc_here ⟨_, rfl, Over.refl _, FlView.nil _⟩
  have hne' : ((names.length : Int) = sizes.length) := by omega
  have hpv : partV names sizes (nums s) = partO (partR (names.zip sizes) (nums s) []) := if_pos hne
  rw [hpv]
  simp (maxSteps := 1000000) (disch := (first | omega | (simp only [nx_alloc, nx_upd, len_cons, len_nil, List.length_set, List.length_map, List.length_append] <;> omega) | fail)) only [Nat.reduceAdd, Nat.reduceSub, Nat.reduceMul, Nat.reduceLT, Nat.reduceLeDiff, Nat.reduceEqDiff, ↓reduceIte, reduceCtorEq, Int.reduceAdd, Int.reduceSub, Int.reduceMul, Int.reduceLT, Int.reduceLE, Int.reduceEq, Int.reduceNe, Int.reduceToNat, Int.reduceNeg, go_sem, Try.ntmps20, Try.results20, hlen, hlen2]
  have hzl : (names.zip sizes).length = sizes.length := by rw [List.length_zip]; omega
  refine aw_loop (fun k x A' => ∃ (ρ : Nat → Value) (i : Nat) (rest : List Int) (acc : List FileT) (p : Value), x = E 65 ρ [] ∧ k = sizes.length - i ∧ i ≤ sizes.length ∧ partR ((names.zip sizes).drop i) rest acc = partR (names.zip sizes) (nums s) [] ∧ acc.length = i ∧ (∀ x ∈ rest, Byte x) ∧ rest.length ≤ 1048576 ∧
      Row A' 28 2 A.next (acc.flatMap flC) acc.length p ∧ Over A A' ∧
      ρ 0 = v ∧ ρ 1 = u ∧ ρ 2 = .string (strOfNums rest) ∧ ρ 8 = p ∧ ρ 9 = .int .i64 i) sizes.length
    ⟨_, 0, nums s, [], _, rfl, rfl, Nat.zero_le _, rfl, rfl, nums_byte s, by rw [nums_length]; exact hs, ⟨rfl, .inr ⟨A.next, none, rfl, .inl rfl, Nat.le_refl _, by (try simp (disch := (first | omega | (simp only [nx_alloc, nx_upd, len_cons, len_nil, List.length_set, List.length_map, List.length_append] <;> omega) | fail)) only [St.get_upd, St.get_alloc, St.next_alloc, St.next_upd, ↓reduceIte, natF_lt, natF_gt, natF_ne, Nat.add_assoc, Nat.reduceAdd, Nat.reduceEqDiff, Nat.add_left_cancel_iff]); omega, by simp (disch := (first | omega | (simp only [nx_alloc, nx_upd, len_cons, len_nil, List.length_set, List.length_map, List.length_append] <;> omega) | fail)) only [St.get_upd, St.get_alloc, St.next_alloc, St.next_upd, ↓reduceIte, natF_lt, natF_gt, natF_ne, Nat.add_assoc, Nat.reduceAdd, Nat.reduceEqDiff, Nat.add_left_cancel_iff]; rfl⟩⟩, (Over.refl A).alloc _, rfl, rfl, by rw [str_nums]; rfl, rfl, rfl⟩ ?_
  clear hlen hlen2
  rintro k x A' ⟨ρ, i, rest, acc, p, rfl, hk, hi, hpr, hal, hby, hrl, hrow, hov, g0, g1, g2, g8, g9⟩
  refine aw_of ?_
  have hlen2 := View.lenU (e := 3) (View.over hu hov)
  have hsz := str_size rest
  by_cases hend : i = sizes.length
  · have e1 : ¬ ((i : Int) < sizes.length) := by omega
    rw [List.drop_of_length_le (by omega)] at hpr
    rw [← hpr]
    by_cases hr : rest = []
    · subst hr
      simp (maxSteps := 1000000) (disch := (first | omega | (simp only [nx_alloc, nx_upd, len_cons, len_nil, List.length_set, List.length_map, List.length_append] <;> omega) | fail)) only [Nat.reduceAdd, Nat.reduceSub, Nat.reduceMul, Nat.reduceLT, Nat.reduceLeDiff, Nat.reduceEqDiff, ↓reduceIte, reduceCtorEq, Int.reduceAdd, Int.reduceSub, Int.reduceMul, Int.reduceLT, Int.reduceLE, Int.reduceEq, Int.reduceNe, Int.reduceToNat, Int.reduceNeg, go_sem, g0, g1, g2, g8, g9, hlen2, beq_str0]
      have hvw : FlView A' acc p := Row.view hrow
      refine call1 (rCheck_ok w0 A' acc p hvw (by omega)) ?_
      by_cases hce : chkE acc = 0
      · have hres : partO (partR [] [] acc) = (acc, 0) := by simp [partR, partO, hce]
        rw [hres]
        simp (maxSteps := 1000000) (disch := (first | omega | (simp only [nx_alloc, nx_upd, len_cons, len_nil, List.length_set, List.length_map, List.length_append] <;> omega) | fail)) only [Nat.reduceAdd, Nat.reduceSub, Nat.reduceMul, Nat.reduceLT, Nat.reduceLeDiff, Nat.reduceEqDiff, ↓reduceIte, reduceCtorEq, Int.reduceAdd, Int.reduceSub, Int.reduceMul, Int.reduceLT, Int.reduceLE, Int.reduceEq, Int.reduceNe, Int.reduceToNat, Int.reduceNeg, go_sem, g8, hce, Try.results20]
        exact gc_here ⟨p, rfl, hov, hvw⟩
      · have hres : partO (partR [] [] acc) = ([], chkE acc) := by simp [partR, partO, hce]
        rw [hres]
        simp (maxSteps := 1000000) (disch := (first | omega | (simp only [nx_alloc, nx_upd, len_cons, len_nil, List.length_set, List.length_map, List.length_append] <;> omega) | fail)) only [Nat.reduceAdd, Nat.reduceSub, Nat.reduceMul, Nat.reduceLT, Nat.reduceLeDiff, Nat.reduceEqDiff, ↓reduceIte, reduceCtorEq, Int.reduceAdd, Int.reduceSub, Int.reduceMul, Int.reduceLT, Int.reduceLE, Int.reduceEq, Int.reduceNe, Int.reduceToNat, Int.reduceNeg, go_sem, g8, hce, Try.results20]
        exact gc_here ⟨_, rfl, hov, FlView.nil _⟩
    · have hres : partO (partR [] rest acc) = ([], 1) := by simp [partR, partO, hr]
      rw [hres]
      simp (maxSteps := 1000000) (disch := (first | omega | (simp only [nx_alloc, nx_upd, len_cons, len_nil, List.length_set, List.length_map, List.length_append] <;> omega) | fail)) only [Nat.reduceAdd, Nat.reduceSub, Nat.reduceMul, Nat.reduceLT, Nat.reduceLeDiff, Nat.reduceEqDiff, ↓reduceIte, reduceCtorEq, Int.reduceAdd, Int.reduceSub, Int.reduceMul, Int.reduceLT, Int.reduceLE, Int.reduceEq, Int.reduceNe, Int.reduceToNat, Int.reduceNeg, go_sem, g0, g1, g2, g8, g9, hlen2, beq_str0, hr, Try.results20]
      exact gc_here ⟨_, rfl, hov, FlView.nil _⟩
  have e1 : ((i : Int) < sizes.length) := by omega
  obtain ⟨n, hx⟩ : ∃ x, sizes[i]? = some x := ⟨_, List.getElem?_eq_getElem (by omega)⟩
  obtain ⟨nm, hy⟩ : ∃ x, names[i]? = some x := ⟨_, List.getElem?_eq_getElem (by omega)⟩
  obtain ⟨pb, po, hb1, hb2, hb3, cells, e', md, hb40, hb5⟩ := View.at1 (P := Try.prog) (e := 3) hu Try.sz3 (i64E_at _ i n hx)
  obtain ⟨qb, qo, hc1, hc2, hc3, cells2, e2', md2, hc40, hc5⟩ := View.at1 (P := Try.prog) (e := 9) hv Try.sz9 (strE_at _ i nm hy)
  have hb4 := (hov.get pb hb1).trans hb40
  have hc4 := (hov.get qb hc1).trans hc40
  have hzi : (names.zip sizes)[i]? = some (nm, n) := by rw [List.getElem?_zip_eq_some]; exact ⟨hy, hx⟩
  rw [List.drop_eq_getElem_cons (by omega), show (names.zip sizes)[i]'(by omega) = (nm, n) by rw [List.getElem?_eq_getElem (by omega)] at hzi; exact Option.some.inj hzi, partR_cons] at hpr
  by_cases hb0 : n < 0
  · rw [if_pos (.inl hb0)] at hpr
    rw [← hpr]
    simp (maxSteps := 1000000) (disch := (first | omega | (simp only [nx_alloc, nx_upd, len_cons, len_nil, List.length_set, List.length_map, List.length_append] <;> omega) | fail)) only [Nat.reduceAdd, Nat.reduceSub, Nat.reduceMul, Nat.reduceLT, Nat.reduceLeDiff, Nat.reduceEqDiff, ↓reduceIte, reduceCtorEq, Int.reduceAdd, Int.reduceSub, Int.reduceMul, Int.reduceLT, Int.reduceLE, Int.reduceEq, Int.reduceNe, Int.reduceToNat, Int.reduceNeg, go_sem, g0, g1, g2, g8, g9, hlen2, hb3, hb4, hb5, Try.results20]
    exact gc_here ⟨_, rfl, hov, FlView.nil _⟩
  by_cases hb1 : (rest.length : Int) < n
  · rw [if_pos (.inr hb1)] at hpr
    rw [← hpr]
    have hb1' : n > ((strOfNums rest).size : Int) := by omega
    simp (maxSteps := 1000000) (disch := (first | omega | (simp only [nx_alloc, nx_upd, len_cons, len_nil, List.length_set, List.length_map, List.length_append] <;> omega) | fail)) only [Nat.reduceAdd, Nat.reduceSub, Nat.reduceMul, Nat.reduceLT, Nat.reduceLeDiff, Nat.reduceEqDiff, ↓reduceIte, reduceCtorEq, Int.reduceAdd, Int.reduceSub, Int.reduceMul, Int.reduceLT, Int.reduceLE, Int.reduceEq, Int.reduceNe, Int.reduceToNat, Int.reduceNeg, go_sem, g0, g1, g2, g8, g9, hlen2, hb3, hb4, hb5, Try.results20]
    exact gc_here ⟨_, rfl, hov, FlView.nil _⟩
  rw [if_neg (by omega)] at hpr
  obtain ⟨n, rfl⟩ := Int.eq_ofNat_of_zero_le (show 0 ≤ n by omega)
  rw [Int.toNat_natCast] at hpr
  have hb1' : ¬ (n : Int) > ((strOfNums rest).size : Int) := by omega
  have x1 := str_take hby n
  have x2 := str_drop hby n
  rw [← hsz] at x2
  have hnx := hov.next
  obtain ⟨p2, A2, hap, hr2, hn2, hrb, hf2⟩ := fl_push (A := A') hrow nm (strOfNums (rest.take n)) (by omega) (by omega)
  have hb42 : A2.get pb = some (.cells cells e' md) := by rw [hf2 pb (by omega) (fun e => by have := (Row.rb hrow _ e).1; omega)]; exact hb4
  simp (maxSteps := 1000000) (disch := (first | omega | (simp only [nx_alloc, nx_upd, len_cons, len_nil, List.length_set, List.length_map, List.length_append] <;> omega) | fail)) only [Nat.reduceAdd, Nat.reduceSub, Nat.reduceMul, Nat.reduceLT, Nat.reduceLeDiff, Nat.reduceEqDiff, ↓reduceIte, reduceCtorEq, Int.reduceAdd, Int.reduceSub, Int.reduceMul, Int.reduceLT, Int.reduceLE, Int.reduceEq, Int.reduceNe, Int.reduceToNat, Int.reduceNeg, go_sem, g0, g1, g2, g8, g9, hlen2, hb3, hb4, hb5]
  refine aw_draw2 [⟨false, [], [0, 1]⟩, ⟨false, [], [0]⟩, ⟨false, [], [0]⟩, ⟨false, [1, 2], [0]⟩, ⟨false, [1, 2, 3], [0]⟩, ⟨false, [], [0]⟩, ⟨false, [], [0]⟩, ⟨false, [], [0]⟩, ⟨false, [6, 7], [0]⟩, ⟨false, [6, 7, 8], [0]⟩, ⟨false, [5, 6, 7, 8, 9], [0]⟩, ⟨false, [1, 2, 3, 4, 5, 6, 7, 8, 9, 10], [0]⟩, ⟨true, [1, 2, 3, 4, 5, 6, 7, 8, 9, 10, 11], [0]⟩, ⟨true, [0, 1, 2, 3, 4, 5, 6, 7, 8, 9, 10, 11, 12], [1]⟩, ⟨false, [0, 1, 2, 3, 4, 5, 6, 7, 8, 9, 10, 11, 12, 13], [2]⟩] [A', A'.alloc (.cells [.string nm, .string (strOfNums (rest.take n))] 28 (some 0)), A2] 2 (by kernel_rfl) (by kernel_rfl) rfl ?_
  simp (maxSteps := 1000000) (disch := (first | omega | (simp only [nx_alloc, nx_upd, len_cons, len_nil, List.length_set, List.length_map, List.length_append] <;> omega) | fail)) only [Nat.reduceAdd, Nat.reduceSub, Nat.reduceMul, Nat.reduceLT, Nat.reduceLeDiff, Nat.reduceEqDiff, ↓reduceIte, reduceCtorEq, Int.reduceAdd, Int.reduceSub, Int.reduceMul, Int.reduceLT, Int.reduceLE, Int.reduceEq, Int.reduceNe, Int.reduceToNat, Int.reduceNeg, go_sem, g0, g1, g2, g8, g9, hb3, hb4, hb5, hc3, hc4, hc5, x1]
  rw [hap]
  simp (maxSteps := 1000000) (disch := (first | omega | (simp only [nx_alloc, nx_upd, len_cons, len_nil, List.length_set, List.length_map, List.length_append] <;> omega) | fail)) only [Nat.reduceAdd, Nat.reduceSub, Nat.reduceMul, Nat.reduceLT, Nat.reduceLeDiff, Nat.reduceEqDiff, ↓reduceIte, reduceCtorEq, Int.reduceAdd, Int.reduceSub, Int.reduceMul, Int.reduceLT, Int.reduceLE, Int.reduceEq, Int.reduceNe, Int.reduceToNat, Int.reduceNeg, go_sem, g1, g2, g9, hb3, hb42, hb5, x2]
  refine ⟨k - 1, by omega, _, i + 1, rest.drop n, acc ++ [(nm, strOfNums (rest.take n))], p2, rfl, by omega, by omega, hpr, by simp [hal], fun x hx => hby x (List.mem_of_mem_drop hx), by rw [List.length_drop]; omega, hr2, Row.push_over (by omega) (fun b hb => (Row.rb hrow b hb).1) (by omega) hf2 hov (Nat.le_refl _), ?_, ?_, ?_, ?_, ?_⟩
  · simp (maxSteps := 1000000) (disch := (first | omega | (simp only [nx_alloc, nx_upd, len_cons, len_nil, List.length_set, List.length_map, List.length_append] <;> omega) | fail)) only [Nat.reduceAdd, Nat.reduceSub, Nat.reduceMul, Nat.reduceLT, Nat.reduceLeDiff, Nat.reduceEqDiff, ↓reduceIte, reduceCtorEq, Int.reduceAdd, Int.reduceSub, Int.reduceMul, Int.reduceLT, Int.reduceLE, Int.reduceEq, Int.reduceNe, Int.reduceToNat, Int.reduceNeg, go_sem, g0]
  · simp (maxSteps := 1000000) (disch := (first | omega | (simp only [nx_alloc, nx_upd, len_cons, len_nil, List.length_set, List.length_map, List.length_append] <;> omega) | fail)) only [Nat.reduceAdd, Nat.reduceSub, Nat.reduceMul, Nat.reduceLT, Nat.reduceLeDiff, Nat.reduceEqDiff, ↓reduceIte, reduceCtorEq, Int.reduceAdd, Int.reduceSub, Int.reduceMul, Int.reduceLT, Int.reduceLE, Int.reduceEq, Int.reduceNe, Int.reduceToNat, Int.reduceNeg, go_sem, g1]
  · simp (maxSteps := 1000000) (disch := (first | omega | (simp only [nx_alloc, nx_upd, len_cons, len_nil, List.length_set, List.length_map, List.length_append] <;> omega) | fail)) only [Nat.reduceAdd, Nat.reduceSub, Nat.reduceMul, Nat.reduceLT, Nat.reduceLeDiff, Nat.reduceEqDiff, ↓reduceIte, reduceCtorEq, Int.reduceAdd, Int.reduceSub, Int.reduceMul, Int.reduceLT, Int.reduceLE, Int.reduceEq, Int.reduceNe, Int.reduceToNat, Int.reduceNeg, go_sem]
  · simp (maxSteps := 1000000) (disch := (first | omega | (simp only [nx_alloc, nx_upd, len_cons, len_nil, List.length_set, List.length_map, List.length_append] <;> omega) | fail)) only [Nat.reduceAdd, Nat.reduceSub, Nat.reduceMul, Nat.reduceLT, Nat.reduceLeDiff, Nat.reduceEqDiff, ↓reduceIte, reduceCtorEq, Int.reduceAdd, Int.reduceSub, Int.reduceMul, Int.reduceLT, Int.reduceLE, Int.reduceEq, Int.reduceNe, Int.reduceToNat, Int.reduceNeg, go_sem]
  · simp (maxSteps := 1000000) (disch := (first | omega | (simp only [nx_alloc, nx_upd, len_cons, len_nil, List.length_set, List.length_map, List.length_append] <;> omega) | fail)) only [Nat.reduceAdd, Nat.reduceSub, Nat.reduceMul, Nat.reduceLT, Nat.reduceLeDiff, Nat.reduceEqDiff, ↓reduceIte, reduceCtorEq, Int.reduceAdd, Int.reduceSub, Int.reduceMul, Int.reduceLT, Int.reduceLE, Int.reduceEq, Int.reduceNe, Int.reduceToNat, Int.reduceNeg, go_sem]
    rfl
theorem Try.guard28 : Try.prog.eqGuardType Try.prog.depth 28 = false := by kernel_rfl
theorem Try.stood28 : Try.prog.stoodInHeld 28 = false := by kernel_rfl
theorem fl_eq (a b : FileT) : aeqIn Try.prog 5 28 (.agg (flC a).toArray) (.agg (flC b).toArray) = some (decide (a = b)) := by
  obtain ⟨a1, a2⟩ := a
  obtain ⟨b1, b2⟩ := b
  simp only [aeqIn, Try.underlying28, Try.stood28, Bool.false_eq_true, if_false, aeqFields, flC, apart, Try.agg9, List.getElem?_toArray, List.getElem?_cons_zero, List.getElem?_cons_succ]
  simp only [Prod.mk.injEq]
  by_cases h1 : a1 = b1 <;> by_cases h2 : a2 = b2 <;> simp [beqBytes, h1, h2, aeqFields, aeqIn, Try.underlying9, apart, Try.agg9]
theorem fl_neq (x y : Operand) (a b : FileT) : abin Try.prog .neq 28 x y (.agg (flC a).toArray) (.agg (flC b).toArray) = some (.bool (!decide (a = b))) := by
  unfold abin
  simp only [Try.guard28, Bool.false_eq_true, if_false, fl_eq, Option.map_some]
set_option maxHeartbeats 2000000 in
theorem same_ok (w0 : World) (A : St) (l m : List FileT) (v u : Value) (hv : FlView A l v) (hu : FlView A m u) (hl : l.length ≤ 1073741824) (hm : m.length ≤ 1073741824) : ACalls Try.prog w0 21 #[v, u] A (fin (.bool (decide (l = m))) A) := by
  refine call_E Try.enters21 Try.func21 rfl (Nat.le_of_ble_eq_true rfl) fun hw hbd => ?_
  have hlen := View.lenU (e := 28) hv
  have hlen2 := View.lenU (e := 28) hu
  by_cases hne : l.length = m.length
  rotate_left
  · have hne' : ¬ ((l.length : Int) = m.length) := by omega
    simp (maxSteps := 1000000) (disch := (first | omega | (simp only [nx_alloc, nx_upd, len_cons, len_nil, List.length_set, List.length_map, List.length_append] <;> omega) | fail)) only [Nat.reduceAdd, Nat.reduceSub, Nat.reduceMul, Nat.reduceLT, Nat.reduceLeDiff, Nat.reduceEqDiff, ↓reduceIte, reduceCtorEq, Int.reduceAdd, Int.reduceSub, Int.reduceMul, Int.reduceLT, Int.reduceLE, Int.reduceEq, Int.reduceNe, Int.reduceToNat, Int.reduceNeg, go_sem, Try.ntmps21, Try.results21, hlen, hlen2]
    exact gc_fin' hw (Over.refl _) (congrArg Value.bool (decide_eq_false (fun h => hne (by rw [h]))).symm) (.bool _)
  have hne' : ((l.length : Int) = m.length) := by omega
  simp (maxSteps := 1000000) (disch := (first | omega | (simp only [nx_alloc, nx_upd, len_cons, len_nil, List.length_set, List.length_map, List.length_append] <;> omega) | fail)) only [Nat.reduceAdd, Nat.reduceSub, Nat.reduceMul, Nat.reduceLT, Nat.reduceLeDiff, Nat.reduceEqDiff, ↓reduceIte, reduceCtorEq, Int.reduceAdd, Int.reduceSub, Int.reduceMul, Int.reduceLT, Int.reduceLE, Int.reduceEq, Int.reduceNe, Int.reduceToNat, Int.reduceNeg, go_sem, Try.ntmps21, Try.results21, hlen, hlen2]
  refine aw_loop (fun k x A' => ∃ (ρ : Nat → Value) (i : Nat), x = E 26 ρ [] ∧ A' = A ∧ k = l.length - i ∧ i ≤ l.length ∧ l.take i = m.take i ∧ ρ 0 = v ∧ ρ 1 = u ∧ ρ 5 = .int .i64 i) l.length
    ⟨_, 0, rfl, rfl, rfl, Nat.zero_le _, by simp, rfl, rfl, rfl⟩ ?_
  rintro k x A' ⟨ρ, i, rfl, rfl, hk, hi, he, g0, g1, g5⟩
  refine aw_of ?_
  by_cases hend : i = l.length
  · have e1 : ¬ ((i : Int) < l.length) := by omega
    simp (maxSteps := 1000000) (disch := (first | omega | (simp only [nx_alloc, nx_upd, len_cons, len_nil, List.length_set, List.length_map, List.length_append] <;> omega) | fail)) only [Nat.reduceAdd, Nat.reduceSub, Nat.reduceMul, Nat.reduceLT, Nat.reduceLeDiff, Nat.reduceEqDiff, ↓reduceIte, reduceCtorEq, Int.reduceAdd, Int.reduceSub, Int.reduceMul, Int.reduceLT, Int.reduceLE, Int.reduceEq, Int.reduceNe, Int.reduceToNat, Int.reduceNeg, go_sem, g0, g1, g5, hlen, Try.results21]
    refine gc_fin' hw (Over.refl _) (congrArg Value.bool (decide_eq_true ?_).symm) (.bool _)
    rw [hend, List.take_length, hne, List.take_length] at he; exact he
  have e1 : ((i : Int) < l.length) := by omega
  obtain ⟨t, ht⟩ : ∃ t, l[i]? = some t := ⟨l[i]'(by omega), List.getElem?_eq_getElem (by omega)⟩
  obtain ⟨t', ht'⟩ : ∃ t, m[i]? = some t := ⟨m[i]'(by omega), List.getElem?_eq_getElem (by omega)⟩
  obtain ⟨pb, po, cells, e', md, hb1, hb2, hb3, hb4, hb5, hb6⟩ := View.en (P := Try.prog) (e := 28) hv flC_len Try.sz28 ht
  obtain ⟨qb, qo, cells2, e2', md2, hc1, hc2, hc3, hc4, hc5, hc6⟩ := View.en (P := Try.prog) (e := 28) hu flC_len Try.sz28 ht'
  simp (maxSteps := 1000000) (disch := (first | omega | (simp only [nx_alloc, nx_upd, len_cons, len_nil, List.length_set, List.length_map, List.length_append] <;> omega) | fail)) only [Nat.reduceAdd, Nat.reduceSub, Nat.reduceMul, Nat.reduceLT, Nat.reduceLeDiff, Nat.reduceEqDiff, ↓reduceIte, reduceCtorEq, Int.reduceAdd, Int.reduceSub, Int.reduceMul, Int.reduceLT, Int.reduceLE, Int.reduceEq, Int.reduceNe, Int.reduceToNat, Int.reduceNeg, go_sem, g0, g1, g5, hlen]
  refine aw_draw (by kernel_rfl) ?_
  by_cases htt : t = t'
  · simp (maxSteps := 1000000) (disch := (first | omega | (simp only [nx_alloc, nx_upd, len_cons, len_nil, List.length_set, List.length_map, List.length_append] <;> omega) | fail)) only [Nat.reduceAdd, Nat.reduceSub, Nat.reduceMul, Nat.reduceLT, Nat.reduceLeDiff, Nat.reduceEqDiff, ↓reduceIte, reduceCtorEq, Int.reduceAdd, Int.reduceSub, Int.reduceMul, Int.reduceLT, Int.reduceLE, Int.reduceEq, Int.reduceNe, Int.reduceToNat, Int.reduceNeg, go_sem, g0, g1, g5, hb3, hb4, hb5, hc3, hc4, hc5, fl_neq, htt]
    refine ⟨k - 1, by omega, _, i + 1, rfl, by omega, by omega, ?_, ?_, ?_, ?_⟩
    · rw [List.take_add_one, List.take_add_one, he, ht, ht', htt]
    · simp (maxSteps := 1000000) (disch := (first | omega | (simp only [nx_alloc, nx_upd, len_cons, len_nil, List.length_set, List.length_map, List.length_append] <;> omega) | fail)) only [Nat.reduceAdd, Nat.reduceSub, Nat.reduceMul, Nat.reduceLT, Nat.reduceLeDiff, Nat.reduceEqDiff, ↓reduceIte, reduceCtorEq, Int.reduceAdd, Int.reduceSub, Int.reduceMul, Int.reduceLT, Int.reduceLE, Int.reduceEq, Int.reduceNe, Int.reduceToNat, Int.reduceNeg, go_sem, g0]
    · simp (maxSteps := 1000000) (disch := (first | omega | (simp only [nx_alloc, nx_upd, len_cons, len_nil, List.length_set, List.length_map, List.length_append] <;> omega) | fail)) only [Nat.reduceAdd, Nat.reduceSub, Nat.reduceMul, Nat.reduceLT, Nat.reduceLeDiff, Nat.reduceEqDiff, ↓reduceIte, reduceCtorEq, Int.reduceAdd, Int.reduceSub, Int.reduceMul, Int.reduceLT, Int.reduceLE, Int.reduceEq, Int.reduceNe, Int.reduceToNat, Int.reduceNeg, go_sem, g1]
    · simp (maxSteps := 1000000) (disch := (first | omega | (simp only [nx_alloc, nx_upd, len_cons, len_nil, List.length_set, List.length_map, List.length_append] <;> omega) | fail)) only [Nat.reduceAdd, Nat.reduceSub, Nat.reduceMul, Nat.reduceLT, Nat.reduceLeDiff, Nat.reduceEqDiff, ↓reduceIte, reduceCtorEq, Int.reduceAdd, Int.reduceSub, Int.reduceMul, Int.reduceLT, Int.reduceLE, Int.reduceEq, Int.reduceNe, Int.reduceToNat, Int.reduceNeg, go_sem, g5]
      rfl
  · simp (maxSteps := 1000000) (disch := (first | omega | (simp only [nx_alloc, nx_upd, len_cons, len_nil, List.length_set, List.length_map, List.length_append] <;> omega) | fail)) only [Nat.reduceAdd, Nat.reduceSub, Nat.reduceMul, Nat.reduceLT, Nat.reduceLeDiff, Nat.reduceEqDiff, ↓reduceIte, reduceCtorEq, Int.reduceAdd, Int.reduceSub, Int.reduceMul, Int.reduceLT, Int.reduceLE, Int.reduceEq, Int.reduceNe, Int.reduceToNat, Int.reduceNeg, go_sem, g0, g1, g5, hb3, hb4, hb5, hc3, hc4, hc5, fl_neq, htt, Try.results21]
    refine gc_fin' hw (Over.refl _) (congrArg Value.bool (decide_eq_false ?_).symm) (.bool _)
    intro h
    rw [h, ht'] at ht
    cases ht; exact htt rfl
theorem i64E_dec {H : Type} {enc : TypeId × Value → H} {w : World} {held : Bool} (n : Nat) (cs : List Value) (y : DataW H × List MemPlace) (h : DataW.trod enc Try.prog w 0 (fun _ => true) held n 3 cs = some y) : ∃ a, cs = i64E a ∧ i64Ok a := i64_dec Try.underlying3 n cs y h
theorem strE_dec {H : Type} {enc : TypeId × Value → H} {w : World} {held : Bool} (n : Nat) (cs : List Value) (y : DataW H × List MemPlace) (h : DataW.trod enc Try.prog w 0 (fun _ => true) held n 9 cs = some y) : ∃ a, cs = strE a ∧ strOk a := str_dec Try.underlying9 n cs y h
theorem partR_len : ∀ (l : List (ByteArray × Int)) (s : List Int) (acc : List FileT) (r : List FileT × List Int), partR l s acc = some r → r.1.length = acc.length + l.length
  | [], s, acc, r, h => by cases h; simp
  | (nm, n) :: t, s, acc, r, h => by
    rw [partR_cons] at h
    split at h
    · cases h
    · have := partR_len t _ _ r h
      simp at this ⊢; omega
theorem partV_len (names : List ByteArray) (sizes : List Int) (s : List Int) : (partV names sizes s).1.length ≤ names.length := by
  unfold partV
  split
  · unfold partO
    cases h : partR (names.zip sizes) s [] with
    | none => simp
    | some r =>
      have := partR_len _ _ _ r h
      rw [List.length_zip, List.length_nil] at this
      obtain ⟨l, q⟩ := r
      simp only at this ⊢
      split
      · split
        · simp only; omega
        · simp
      · simp
  · simp
set_option maxHeartbeats 4000000 in
theorem parts_all (w0 : World) (A : St) (v : Value) (names : List ByteArray) (u : Value) (sizes : List Int) (s : ByteArray) (hv : View A 1 (names.flatMap strE) names.length v) (ok1 : ∀ y ∈ names, strOk y) (hu : View A 1 (sizes.flatMap i64E) sizes.length u) (ok2 : ∀ y ∈ sizes, i64Ok y) : ACalls Try.prog w0 6 #[v, u, .string s] A (fin (.bool true) A) := by
  refine call_E Try.enters6 Try.func6 rfl (Nat.le_of_ble_eq_true rfl) fun hw hbd => ?_
  have hlen := View.lenU (e := 9) hv
  have hlen2 := View.lenU (e := 3) hu
  by_cases h1 : names.length > 30
  · have h1' : (names.length : Int) > 30 := by omega
    simp (maxSteps := 1000000) (disch := (first | omega | (simp only [nx_alloc, nx_upd, len_cons, len_nil, List.length_set, List.length_map, List.length_append] <;> omega) | fail)) only [Nat.reduceAdd, Nat.reduceSub, Nat.reduceMul, Nat.reduceLT, Nat.reduceLeDiff, Nat.reduceEqDiff, ↓reduceIte, reduceCtorEq, Int.reduceAdd, Int.reduceSub, Int.reduceMul, Int.reduceLT, Int.reduceLE, Int.reduceEq, Int.reduceNe, Int.reduceToNat, Int.reduceNeg, go_sem, Try.ntmps6, Try.results6, hlen, hlen2]
    refine call1 (shown_ok w0 A) ?_
    simp (maxSteps := 1000000) (disch := (first | omega | (simp only [nx_alloc, nx_upd, len_cons, len_nil, List.length_set, List.length_map, List.length_append] <;> omega) | fail)) only [Nat.reduceAdd, Nat.reduceSub, Nat.reduceMul, Nat.reduceLT, Nat.reduceLeDiff, Nat.reduceEqDiff, ↓reduceIte, reduceCtorEq, Int.reduceAdd, Int.reduceSub, Int.reduceMul, Int.reduceLT, Int.reduceLE, Int.reduceEq, Int.reduceNe, Int.reduceToNat, Int.reduceNeg, go_sem, Try.results6]
    exact gc_fin' hw (Over.refl _) rfl (.bool _)
  have h1' : ¬ (names.length : Int) > 30 := by omega
  by_cases h2 : sizes.length > 30
  · have h2' : (sizes.length : Int) > 30 := by omega
    simp (maxSteps := 1000000) (disch := (first | omega | (simp only [nx_alloc, nx_upd, len_cons, len_nil, List.length_set, List.length_map, List.length_append] <;> omega) | fail)) only [Nat.reduceAdd, Nat.reduceSub, Nat.reduceMul, Nat.reduceLT, Nat.reduceLeDiff, Nat.reduceEqDiff, ↓reduceIte, reduceCtorEq, Int.reduceAdd, Int.reduceSub, Int.reduceMul, Int.reduceLT, Int.reduceLE, Int.reduceEq, Int.reduceNe, Int.reduceToNat, Int.reduceNeg, go_sem, Try.ntmps6, Try.results6, hlen, hlen2]
    refine call1 (shown_ok w0 A) ?_
    simp (maxSteps := 1000000) (disch := (first | omega | (simp only [nx_alloc, nx_upd, len_cons, len_nil, List.length_set, List.length_map, List.length_append] <;> omega) | fail)) only [Nat.reduceAdd, Nat.reduceSub, Nat.reduceMul, Nat.reduceLT, Nat.reduceLeDiff, Nat.reduceEqDiff, ↓reduceIte, reduceCtorEq, Int.reduceAdd, Int.reduceSub, Int.reduceMul, Int.reduceLT, Int.reduceLE, Int.reduceEq, Int.reduceNe, Int.reduceToNat, Int.reduceNeg, go_sem, Try.results6]
    exact gc_fin' hw (Over.refl _) rfl (.bool _)
  have h2' : ¬ (sizes.length : Int) > 30 := by omega
  by_cases h3 : s.size > 2000
  · have h3' : (s.size : Int) > 2000 := by omega
    simp (maxSteps := 1000000) (disch := (first | omega | (simp only [nx_alloc, nx_upd, len_cons, len_nil, List.length_set, List.length_map, List.length_append] <;> omega) | fail)) only [Nat.reduceAdd, Nat.reduceSub, Nat.reduceMul, Nat.reduceLT, Nat.reduceLeDiff, Nat.reduceEqDiff, ↓reduceIte, reduceCtorEq, Int.reduceAdd, Int.reduceSub, Int.reduceMul, Int.reduceLT, Int.reduceLE, Int.reduceEq, Int.reduceNe, Int.reduceToNat, Int.reduceNeg, go_sem, Try.ntmps6, Try.results6, hlen, hlen2]
    refine call1 (shown_ok w0 A) ?_
    simp (maxSteps := 1000000) (disch := (first | omega | (simp only [nx_alloc, nx_upd, len_cons, len_nil, List.length_set, List.length_map, List.length_append] <;> omega) | fail)) only [Nat.reduceAdd, Nat.reduceSub, Nat.reduceMul, Nat.reduceLT, Nat.reduceLeDiff, Nat.reduceEqDiff, ↓reduceIte, reduceCtorEq, Int.reduceAdd, Int.reduceSub, Int.reduceMul, Int.reduceLT, Int.reduceLE, Int.reduceEq, Int.reduceNe, Int.reduceToNat, Int.reduceNeg, go_sem, Try.results6]
    exact gc_fin' hw (Over.refl _) rfl (.bool _)
  have h3' : ¬ (s.size : Int) > 2000 := by omega
  simp (maxSteps := 1000000) (disch := (first | omega | (simp only [nx_alloc, nx_upd, len_cons, len_nil, List.length_set, List.length_map, List.length_append] <;> omega) | fail)) only [Nat.reduceAdd, Nat.reduceSub, Nat.reduceMul, Nat.reduceLT, Nat.reduceLeDiff, Nat.reduceEqDiff, ↓reduceIte, reduceCtorEq, Int.reduceAdd, Int.reduceSub, Int.reduceMul, Int.reduceLT, Int.reduceLE, Int.reduceEq, Int.reduceNe, Int.reduceToNat, Int.reduceNeg, go_sem, Try.ntmps6, Try.results6, hlen, hlen2]
  refine call1 (shown_ok w0 A) ?_
  simp (maxSteps := 1000000) (disch := (first | omega | (simp only [nx_alloc, nx_upd, len_cons, len_nil, List.length_set, List.length_map, List.length_append] <;> omega) | fail)) only [Nat.reduceAdd, Nat.reduceSub, Nat.reduceMul, Nat.reduceLT, Nat.reduceLeDiff, Nat.reduceEqDiff, ↓reduceIte, reduceCtorEq, Int.reduceAdd, Int.reduceSub, Int.reduceMul, Int.reduceLT, Int.reduceLE, Int.reduceEq, Int.reduceNe, Int.reduceToNat, Int.reduceNeg, go_sem]
  refine (Part_ok w0 A names sizes s v u hv hu (by omega) (by omega) (by omega)).mono ?_
  rintro e A1 ⟨x1, rfl, o1, y1⟩
  simp (maxSteps := 1000000) (disch := (first | omega | (simp only [nx_alloc, nx_upd, len_cons, len_nil, List.length_set, List.length_map, List.length_append] <;> omega) | fail)) only [Nat.reduceAdd, Nat.reduceSub, Nat.reduceMul, Nat.reduceLT, Nat.reduceLeDiff, Nat.reduceEqDiff, ↓reduceIte, reduceCtorEq, Int.reduceAdd, Int.reduceSub, Int.reduceMul, Int.reduceLT, Int.reduceLE, Int.reduceEq, Int.reduceNe, Int.reduceToNat, Int.reduceNeg, go_sem]
  refine (rPart_ok w0 A1 names sizes s v u (View.over hv o1) (View.over hu o1) (by omega) (by omega) (by omega)).mono ?_
  rintro e A2 ⟨x2, rfl, o2, y2⟩
  have hpl := partV_len names sizes (nums s)
  simp (maxSteps := 1000000) (disch := (first | omega | (simp only [nx_alloc, nx_upd, len_cons, len_nil, List.length_set, List.length_map, List.length_append] <;> omega) | fail)) only [Nat.reduceAdd, Nat.reduceSub, Nat.reduceMul, Nat.reduceLT, Nat.reduceLeDiff, Nat.reduceEqDiff, ↓reduceIte, reduceCtorEq, Int.reduceAdd, Int.reduceSub, Int.reduceMul, Int.reduceLT, Int.reduceLE, Int.reduceEq, Int.reduceNe, Int.reduceToNat, Int.reduceNeg, go_sem]
  refine call1 (same_ok w0 A2 _ _ x1 x2 (View.over y1 o2) y2 (by omega) (by omega)) ?_
  simp (maxSteps := 1000000) (disch := (first | omega | (simp only [nx_alloc, nx_upd, len_cons, len_nil, List.length_set, List.length_map, List.length_append] <;> omega) | fail)) only [Nat.reduceAdd, Nat.reduceSub, Nat.reduceMul, Nat.reduceLT, Nat.reduceLeDiff, Nat.reduceEqDiff, ↓reduceIte, reduceCtorEq, Int.reduceAdd, Int.reduceSub, Int.reduceMul, Int.reduceLT, Int.reduceLE, Int.reduceEq, Int.reduceNe, Int.reduceToNat, Int.reduceNeg, go_sem, Try.results6]
  exact gc_fin' hw (o1.trans o2) rfl (.bool _)
end Go.Fw
