import Derived.Test.YtphfkbagjpcmpaaFwVault10
set_option linter.unusedSimpArgs false
set_option linter.unusedVariables false
namespace Go.Fw
open Go.Proofs Go.RowKit
attribute [local go_sem] List.length_cons List.length_nil Nat.zero_add Nat.add_zero Nat.zero_mul Nat.mul_one Int.toNat_zero Int.toNat_natCast List.map_cons List.map_nil List.map_toArray List.toList_toArray List.append_toArray List.append_eq List.nil_append List.cons_append List.append_nil List.all_toArray List.all_cons List.all_nil Bool.and_true Bool.true_and Bool.and_self List.getElem?_toArray List.getElem?_cons_zero List.getElem?_cons_succ List.set_cons_zero List.set_cons_succ List.drop_zero List.drop_succ_cons List.take_zero List.take_succ_cons Option.bind_some Option.map_some id true_and and_true and_self St.next_alloc St.next_upd beq_self_eq_true Bool.not_true Bool.not_false Bool.false_eq_true false_implies true_implies Option.isNone_none Option.isNone_some Option.isSome_none Option.isSome_some ge_iff_le gt_iff_lt Nat.sub_zero Nat.add_assoc IntWalk.i64_in IntWalk.u64_in IntWalk.u8_in IntWalk.u32_in IntWalk.i32_in IntWalk.u16_in dec_not Bool.not_eq_true decide_true decide_false ne_eq not_true_eq_false not_false_eq_true Bool.true_or Bool.or_true Bool.or_false Bool.false_or Bool.and_false Bool.false_and upd_apply rd_eq ar_zero ar_succ ar_nil tm_size tm_getD tm_set E_tmps E_defers put_E put_none eval_tmp eval_const eval_func setArgs_0 setArgs_1 setArgs_2 append_lit stepV_some stepA_some guardO_true ifB_true ifB_false wantV_true wantV_false wantV_dec_t wantV_dec_f ifB_dec_t ifB_dec_f condV_bool dec_and dec_or isB_bool someB_t someB_f okO_tmp okO_func okO_int okO_bool okO_string okO_ptr0 okO_slice0 okO_nilFunc okO_nilIface okO_map0 okO_agg wanted_none wanted_some lookT_some aopsL_nil aopsL_cons wpA_skip wpA_label wpA_exit wpA_goto wpA_ret wpA_seq wpA_block wpA_region wpA_cond wpA_loop wpA_rangeFunc wpA_draw thenQ_normal thenQ_exit thenQ_ret thenQ_panic blockQ_normal blockQ_ret blockQ_panic blockQ_exit funQ_ret funQ_normal funQ_panic op_move op_assign pickV_or pickV_and pickV_t pickV_f pickV_true pickV_false op_pick allocV_some op_alloc op_box op_load op_nilCheck op_bin op_lookup bptr btype op_un op_convert op_makeInterface op_makeSlice op_fieldAddr op_field op_indexAddr op_index op_extract op_typeAssert storeV_some op_store op_makeMap op_mapUpdate op_slice00 op_slice10 op_slice01 op_slice11 op_slice111 op_slice011 op_makeFunc callV_true op_call op_builtin panicV_iface op_panic ACallV_func ACallF_false ACallF_true ACallV_yield afterCall_returned afterCall_panicked bin_add bin_sub bin_mul bin_and bin_or bin_xor bin_andNot bin_eql bin_neq bin_lss bin_leq bin_gtr bin_geq mval_some mval_none lookup_map lookU_map lookK_smap mapSet_map msetU_map msetK_int conv_to conv_from unsT_cells unsF_cells bin_same bin_nil bdata_nil bdata_some builtin_data builtin_str bin_quo bin_rem bin_shl bin_shr bin_sadd bin_seql bin_sneq bin_slss uB_bool bin_beql bin_bneq uP_pointer bin_peql bin_pneq uS_slice bin_leql bin_lneq bin_ieql bin_ineq un_neg un_xor un_not nilCheck_ptr nilCheck_func nilCheck_yield load_ptr loadC_one loadC_agg store_ptr slice_eq sliceU_string sliceU_slice sliceU_array sliceS_eq boundsS_some sliceL_eq boundsL_nil boundsL_exact boundsL_least boundsL_own boundsL_ownN bounds_11 bounds_10 bounds_01 bounds_00 builtin_len len_string len_array len_slice builtin_append builtin_copy pairA_some builtin_min builtin_max min_two max_two index_eq index_string index_array indexAddr_eq indexAddr_array indexAddr_slice fieldAddr_eq posO_some fAddr_some fieldAddr_struct partC_some field_eq field_struct part_eq partU_one partU_agg extract_tuple conv_eq conv_int conv_string u8O_u8 conv_bytes conv_text_nil conv_text_zero conv_text mkIface_eq get_upd_same consO_some finR_0 finR_1 finR_2 aresL_nil aresL_cons ares1_tmp ares1_cell retV_some aleave_nil aleave_coll bnd_int bnd_bool bnd_string bnd_nilIface bnd_slice0 bnd_iface bnd_slice bnd_ptr bnd_ptr0 bndL_nil bndL_cons bndA_lit bnd_tuple bnd_agg calm_same skipC_eq aopsC_nil aopsC_cons stepC_call stepC_move stepC_assign stepC_pick stepC_alloc stepC_box stepC_build stepC_buildSlice stepC_load stepC_store stepC_nilCheck stepC_binOp stepC_unOp stepC_convert stepC_makeInterface stepC_makeFunc stepC_makeSlice stepC_slice stepC_fieldAddr stepC_field stepC_indexAddr stepC_index stepC_extract stepC_typeAssert stepC_lookup stepC_mapUpdate stepC_makeMap stepC_builtin to_same sameA_eq aopsX_nil aopsX_cons stepX_heavy stepX_light lightK_eq allC_nil allC_cons hs_zero hs_succ stepT_call pure_call stepT_move pure_move stepT_assign pure_assign stepT_pick pure_pick stepT_alloc pure_alloc stepT_box pure_box stepT_build pure_build stepT_buildSlice pure_buildSlice stepT_load pure_load stepT_store pure_store stepT_nilCheck pure_nilCheck stepT_binOp pure_binOp stepT_unOp pure_unOp stepT_convert pure_convert stepT_makeInterface pure_makeInterface stepT_makeFunc pure_makeFunc stepT_makeSlice pure_makeSlice stepT_slice pure_slice stepT_fieldAddr pure_fieldAddr stepT_field pure_field stepT_indexAddr pure_indexAddr stepT_index pure_index stepT_extract pure_extract stepT_typeAssert pure_typeAssert stepT_lookup pure_lookup stepT_mapUpdate pure_mapUpdate stepT_makeMap pure_makeMap stepT_builtin pure_b_len pure_b_append pure_b_copy pure_b_min pure_b_max pure_b_unsafeSliceData pure_b_unsafeString leaveK_eq aleave_fn op_defer deferV_func resK_some defQ_ret defQ_normal storeC_int storeC_bool storeC_string storeC_slice storeC_func storeC_pointer len_cons len_nil cells_int cells_bool cells_string cells_slice cells_pointer cells_func cells_map cells_nilFunc cells_agg cell1_bool cell1_string cell1_slice cell1_pointer cell1_func cell1_i cell1_map cell1_nilFunc setList_nil setList_cons storeC_aggS fillP_nil fillP_cons fillAt_1 fillAt_n aggO_some sliceO_some places_0 places_s zerosR_0 zerosR_s thenElse_true evP_nil evP_cons okP_nil okP_cons op_buildL op_buildSliceL isBu_t isBu_f mk_E get_alloc_old get_alloc_new get_upd_old Try.agg1 Try.sz1 Try.byt1 Try.zero1 Try.agg2 Try.sz2 Try.byt2 Try.zero2 Try.agg3 Try.sz3 Try.byt3 Try.zero3 Try.agg4 Try.sz4 Try.byt4 Try.zero4 Try.agg5 Try.sz5 Try.byt5 Try.zero5 Try.agg6 Try.sz6 Try.byt6 Try.zero6 Try.agg7 Try.sz7 Try.byt7 Try.zero7 Try.agg8 Try.sz8 Try.byt8 Try.zero8 Try.agg9 Try.sz9 Try.byt9 Try.zero9 Try.agg10 Try.sz10 Try.byt10 Try.zero10 Try.agg11 Try.sz11 Try.byt11 Try.zero11 Try.agg12 Try.sz12 Try.byt12 Try.zero12 Try.agg13 Try.sz13 Try.byt13 Try.zero13 Try.agg14 Try.sz14 Try.byt14 Try.zero14 Try.agg15 Try.sz15 Try.byt15 Try.zero15 Try.agg16 Try.sz16 Try.byt16 Try.zero16 Try.agg17 Try.sz17 Try.byt17 Try.zero17 Try.agg18 Try.sz18 Try.byt18 Try.zero18 Try.agg19 Try.sz19 Try.byt19 Try.zero19 Try.agg20 Try.sz20 Try.byt20 Try.zero20 Try.agg21 Try.sz21 Try.byt21 Try.zero21 Try.agg22 Try.sz22 Try.byt22 Try.el22 Try.zero22 Try.agg23 Try.sz23 Try.byt23 Try.zero23 Try.agg24 Try.sz24 Try.byt24 Try.el24 Try.zero24 Try.agg25 Try.sz25 Try.byt25 Try.el25 Try.zero25 Try.agg26 Try.sz26 Try.byt26 Try.el26 Try.zero26 Try.agg27 Try.sz27 Try.byt27 Try.zero27 Try.agg28 Try.sz28 Try.byt28 Try.zero28 Try.agg29 Try.sz29 Try.byt29 Try.zero29 Try.agg30 Try.sz30 Try.byt30 Try.zero30 Try.agg31 Try.sz31 Try.byt31 Try.zero31 Try.agg32 Try.sz32 Try.byt32 Try.zero32 Try.agg33 Try.sz33 Try.byt33 Try.zero33 Try.agg34 Try.sz34 Try.byt34 Try.zero34 Try.agg35 Try.sz35 Try.byt35 Try.el35 Try.zero35 Try.agg36 Try.sz36 Try.byt36 Try.zero36 Try.agg37 Try.sz37 Try.byt37 Try.zero37 Try.agg38 Try.sz38 Try.byt38 Try.el38 Try.zero38 Try.agg39 Try.sz39 Try.byt39 Try.zero39 Try.agg40 Try.sz40 Try.byt40 Try.zero40 Try.agg41 Try.sz41 Try.byt41 Try.zero41 Try.agg42 Try.sz42 Try.byt42 Try.zero42 Try.agg43 Try.sz43 Try.byt43 Try.zero43 Try.agg44 Try.sz44 Try.byt44 Try.el44 Try.zero44 Try.agg46 Try.sz46 Try.byt46 Try.zero46 Try.agg48 Try.sz48 Try.byt48 Try.zero48 Try.agg49 Try.sz49 Try.byt49 Try.zero49 Try.agg50 Try.sz50 Try.byt50 Try.zero50 Try.agg51 Try.sz51 Try.byt51 Try.zero51 Try.agg52 Try.sz52 Try.byt52 Try.zero52 Try.agg53 Try.sz53 Try.byt53 Try.zero53 Try.agg54 Try.sz54 Try.byt54 Try.zero54 Try.agg55 Try.sz55 Try.byt55 Try.el55 Try.zero55 Try.agg56 Try.sz56 Try.byt56 Try.zero56 Try.agg57 Try.sz57 Try.byt57 Try.zero57 Try.agg58 Try.sz58 Try.byt58 Try.zero58 Try.agg59 Try.sz59 Try.byt59 Try.zero59 Try.agg60 Try.sz60 Try.byt60 Try.zero60 Try.agg61 Try.sz61 Try.byt61 Try.zero61 Try.agg62 Try.sz62 Try.byt62 Try.zero62 Try.agg64 Try.sz64 Try.byt64 Try.zero64 Try.agg65 Try.sz65 Try.byt65 Try.zero65 Try.agg66 Try.sz66 Try.byt66 Try.zero66 Try.agg68 Try.sz68 Try.byt68 Try.zero68 Try.agg69 Try.sz69 Try.byt69 Try.zero69 Try.agg71 Try.sz71 Try.byt71 Try.zero71 Try.agg72 Try.sz72 Try.byt72 Try.zero72 Try.agg73 Try.sz73 Try.byt73 Try.zero73 Try.agg74 Try.sz74 Try.byt74 Try.zero74 Try.agg75 Try.sz75 Try.byt75 Try.zero75 Try.agg76 Try.sz76 Try.byt76 Try.zero76 Try.agg77 Try.sz77 Try.byt77 Try.zero77 Try.agg78 Try.sz78 Try.byt78 Try.zero78 Try.agg79 Try.sz79 Try.byt79 Try.zero79 Try.agg80 Try.sz80 Try.byt80 Try.zero80 Try.agg81 Try.sz81 Try.byt81 Try.zero81 Try.agg82 Try.sz82 Try.byt82 Try.zero82 Try.agg83 Try.sz83 Try.byt83 Try.zero83 Try.agg84 Try.sz84 Try.byt84 Try.zero84 Try.agg85 Try.sz85 Try.byt85 Try.zero85 Try.agg86 Try.sz86 Try.byt86 Try.zero86 Try.agg87 Try.sz87 Try.byt87 Try.zero87 Try.agg88 Try.sz88 Try.byt88 Try.zero88 Try.agg89 Try.sz89 Try.byt89 Try.el89 Try.zero89 Try.agg90 Try.sz90 Try.byt90 Try.zero90 Try.agg91 Try.sz91 Try.byt91 Try.zero91 Try.agg92 Try.sz92 Try.byt92 Try.zero92 Try.agg93 Try.sz93 Try.byt93 Try.zero93 Try.agg94 Try.sz94 Try.byt94 Try.zero94 Try.agg95 Try.sz95 Try.byt95 Try.zero95 Try.agg96 Try.sz96 Try.byt96 Try.zero96 Try.agg97 Try.sz97 Try.byt97 Try.zero97 Try.agg98 Try.sz98 Try.byt98 Try.zero98 Try.agg99 Try.sz99 Try.byt99 Try.zero99 Try.agg100 Try.sz100 Try.byt100 Try.zero100 Try.agg101 Try.sz101 Try.byt101 Try.zero101 Try.agg102 Try.sz102 Try.byt102 Try.zero102 Try.agg103 Try.sz103 Try.byt103 Try.zero103 Try.agg104 Try.sz104 Try.byt104 Try.zero104 Try.agg105 Try.sz105 Try.byt105 Try.zero105 Try.agg106 Try.sz106 Try.byt106 Try.zero106 Try.agg107 Try.sz107 Try.byt107 Try.zero107 Try.agg108 Try.sz108 Try.byt108 Try.zero108 Try.agg109 Try.sz109 Try.byt109 Try.zero109 Try.agg110 Try.sz110 Try.byt110 Try.zero110 Try.agg111 Try.sz111 Try.byt111 Try.zero111 Try.agg112 Try.sz112 Try.byt112 Try.zero112 Try.agg113 Try.sz113 Try.byt113 Try.zero113 Try.agg114 Try.sz114 Try.byt114 Try.zero114 Try.agg115 Try.sz115 Try.byt115 Try.zero115 Try.agg116 Try.sz116 Try.byt116 Try.zero116 Try.body0 Try.body1 Try.body2 Try.body3 Try.body4 Try.body5 Try.body6 Try.body7 Try.body8 Try.body9 Try.body10 Try.body11 Try.body12 Try.body13 Try.body14 Try.body15 Try.body16 Try.body17 Try.body18 Try.body19 Try.body20 Try.body21 Try.body22 Try.body23 Try.body24 Try.body25 Try.body26 Try.body27 Try.body28 Try.body29 Try.body30 Try.body31 Try.body32 Try.body33 Try.body34 Try.body35 Try.body36 Try.body37 Try.body38 Try.body39 Try.body40 Try.body41 Try.body42 Try.body43 Try.body44 Try.body45 Try.body46 Try.body47 Try.body48 Try.body49 Try.body50 Try.body51 Try.body52 Try.body53 Try.body54 Try.body55 Try.body56 Try.body57 Try.body58 Try.body59 Try.body60 Try.body61 Try.body62 Try.body63 Try.body64 Try.body65 Try.body66 Try.body67 Try.body68 Try.body69 Try.body70 Try.body71 Try.body72 Try.body73 Try.body74 Try.body75 Try.body76 Try.body77 Try.body78 Try.body79 Try.build7 Try.build8 Try.build13 Try.build14 Try.build18 Try.build19 Try.bsl22 Try.bsl24 Try.bsl25 Try.bsl26 Try.build27 Try.build28 Try.build29 Try.build30 Try.build31 Try.build32 Try.bsl35 Try.bsl38 Try.build39 Try.build40 Try.build42 Try.build43 Try.bsl44 Try.build50 Try.bsl55 Try.bsl89 Try.build90 Try.build91 Try.build102 Try.build103 Try.build105 Try.build106 Try.build114 Try.build115 Try.underlying1 Try.underlying2 Try.underlying3 Try.underlying4 Try.underlying5 Try.underlying6 Try.underlying7 Try.underlying8 Try.underlying9 Try.underlying10 Try.underlying11 Try.underlying12 Try.underlying13 Try.underlying14 Try.underlying15 Try.underlying16 Try.underlying17 Try.underlying18 Try.underlying19 Try.underlying20 Try.underlying21 Try.underlying22 Try.underlying23 Try.underlying24 Try.underlying25 Try.underlying26 Try.underlying27 Try.underlying28 Try.underlying29 Try.underlying30 Try.underlying31 Try.underlying32 Try.underlying33 Try.underlying34 Try.underlying35 Try.underlying36 Try.underlying37 Try.underlying38 Try.underlying39 Try.underlying40 Try.underlying41 Try.underlying42 Try.underlying43 Try.underlying44 Try.underlying46 Try.underlying48 Try.underlying49 Try.underlying50 Try.underlying51 Try.underlying52 Try.underlying53 Try.underlying54 Try.underlying55 Try.underlying56 Try.underlying57 Try.underlying58 Try.underlying59 Try.underlying60 Try.underlying61 Try.underlying62 Try.underlying64 Try.underlying65 Try.underlying66 Try.underlying68 Try.underlying69 Try.underlying71 Try.underlying72 Try.underlying73 Try.underlying74 Try.underlying75 Try.underlying76 Try.underlying77 Try.underlying78 Try.underlying79 Try.underlying80 Try.underlying81 Try.underlying82 Try.underlying83 Try.underlying84 Try.underlying85 Try.underlying86 Try.underlying87 Try.underlying88 Try.underlying89 Try.underlying90 Try.underlying91 Try.underlying92 Try.underlying93 Try.underlying94 Try.underlying95 Try.underlying96 Try.underlying97 Try.underlying98 Try.underlying99 Try.underlying100 Try.underlying101 Try.underlying102 Try.underlying103 Try.underlying104 Try.underlying105 Try.underlying106 Try.underlying107 Try.underlying108 Try.underlying109 Try.underlying110 Try.underlying111 Try.underlying112 Try.underlying113 Try.underlying114 Try.underlying115 Try.underlying116
theorem Try.enters47 : Enters Try.prog 47 := enters_of Try.func47 rfl (by kernel_rfl)
theorem Try.enters28 : Enters Try.prog 28 := enters_of Try.func28 rfl (by kernel_rfl)
theorem Try.enters19 : Enters Try.prog 19 := enters_of Try.func19 rfl (by kernel_rfl)
theorem hsq_eql (x y : Operand) (a b : HashT) : abin Try.prog .eql 62 x y (.agg (hsC a).toArray) (.agg (hsC b).toArray) = some (.bool (decide (a = b))) := by
  unfold abin
  simp only [Try.guardHs, Bool.false_eq_true, if_false, hs_eq, Option.map_some]
theorem hsC_cell' (h : HashT) : (hsC h).all cell1 = true := by unfold hsC; rw [List.all_map, List.all_eq_true]; intro x _; rfl
/-- Where a hash stands. -/
def hidxN (l : List HashT) (h : HashT) : Nat → Int
  | i => if hi : i < l.length then (if h = l[i]'hi then (i : Int) else hidxN l h (i + 1)) else -1
termination_by i => l.length - i
theorem hidxN_end {l : List HashT} {h : HashT} {i : Nat} (hi : l.length ≤ i) : hidxN l h i = -1 := by rw [hidxN, dif_neg (by omega)]
theorem hidxN_at {l : List HashT} {h x : HashT} {i : Nat} (hi : l[i]? = some x) : hidxN l h i = if h = x then (i : Int) else hidxN l h (i + 1) := by
  obtain ⟨hlt, rfl⟩ := List.getElem?_eq_some_iff.1 hi
  rw [hidxN, dif_pos hlt]
theorem hidx_mem (l : List HashT) (h : HashT) : ∀ m i, l.length - i ≤ m → (0 ≤ hidxN l h i ↔ h ∈ l.drop i)
  | m, i, hm => by
    by_cases hi : i < l.length
    · have hg : l[i]? = some l[i] := List.getElem?_eq_getElem hi
      rw [hidxN_at hg, List.drop_eq_getElem_cons hi]
      by_cases he : h = l[i]
      · rw [if_pos he]
        exact ⟨fun _ => by rw [he]; exact List.mem_cons_self .., fun _ => by omega⟩
      · rw [if_neg he]
        match m, hm with
        | m + 1, hm =>
          rw [hidx_mem l h m (i + 1) (by omega)]
          exact ⟨fun hh => List.mem_cons_of_mem _ hh, fun hh => by rcases List.mem_cons.1 hh with e | hh; exact absurd e he; exact hh⟩
        | 0, hm => omega
    · rw [hidxN_end (by omega), List.drop_of_length_le (by omega)]
      simp
set_option maxHeartbeats 2000000 in
theorem indexH_ok (w0 : World) (A : St) (l : List HashT) (v : Value) (hv : HsView A l v) (hl : l.length ≤ 1073741824) (h : HashT) :
    ACalls Try.prog w0 47 #[v, .agg (hsC h).toArray] A (fin (.int .i64 (hidxN l h 0)) A) := by
  refine call_E Try.enters47 Try.func47 rfl (Nat.le_of_ble_eq_true rfl) fun hw hbd => ?_
  obtain ⟨A1, hA1⟩ : ∃ A1, A1 = A.alloc (.cells (hsC h) 62 (some 0)) := ⟨_, rfl⟩
  have o1 : Over A A1 := hA1 ▸ (Over.refl A).alloc _
  have g1 : A1.get A.next = some (.cells (hsC h) 62 (some 0)) := by rw [hA1]; exact get_alloc_same ..
  have hv1 : HsView A1 l v := View.over hv o1
  have hlen := View.lenU (e := 62) hv1
  have hld := ldN (e := 62) (m := some 0) (hsC_len h)
  have hlC := hsC_len h
  have htk : (hsC h).take 32 = hsC h := List.take_of_length_le (by omega)
  simp (maxSteps := 1000000) (disch := (first | omega | (simp only [nx_alloc, nx_upd, len_cons, len_nil, List.length_set, List.length_map, List.length_append] <;> omega) | fail)) only [Nat.reduceAdd, Nat.reduceSub, Nat.reduceMul, Nat.reduceLT, Nat.reduceLeDiff, Nat.reduceEqDiff, ↓reduceIte, reduceCtorEq, Int.reduceAdd, Int.reduceSub, Int.reduceMul, Int.reduceLT, Int.reduceLE, Int.reduceEq, Int.reduceNe, Int.reduceToNat, Int.reduceNeg, go_sem, Try.ntmps47, Try.results47]
  rw [← hA1]
  simp (maxSteps := 1000000) (disch := (first | omega | (simp only [nx_alloc, nx_upd, len_cons, len_nil, List.length_set, List.length_map, List.length_append] <;> omega) | fail)) only [Nat.reduceAdd, Nat.reduceSub, Nat.reduceMul, Nat.reduceLT, Nat.reduceLeDiff, Nat.reduceEqDiff, ↓reduceIte, reduceCtorEq, Int.reduceAdd, Int.reduceSub, Int.reduceMul, Int.reduceLT, Int.reduceLE, Int.reduceEq, Int.reduceNe, Int.reduceToNat, Int.reduceNeg, go_sem, hlen]
  refine aw_loop (fun k x A' => ∃ (ρ : Nat → Value) (i : Nat), x = E 19 ρ [] ∧ A' = A1 ∧ k = l.length - i ∧ i ≤ l.length ∧ hidxN l h i = hidxN l h 0 ∧ ρ 0 = v ∧ ρ 3 = .pointer (some ⟨A.next, 0, none⟩) ∧ ρ 7 = .int .i64 l.length ∧ ρ 8 = .int .i64 i) l.length
    ⟨_, 0, rfl, rfl, rfl, Nat.zero_le _, rfl, rfl, rfl, rfl, rfl⟩ ?_
  rintro k x A' ⟨ρ, i, rfl, rfl, hk, hi, hp, g0, g3, g7, g8⟩
  refine aw_of ?_
  by_cases hend : i = l.length
  · have e1 : ¬ ((i : Int) < l.length) := by omega
    have hm : hidxN l h 0 = -1 := by rw [← hp]; exact hidxN_end (by omega)
    rw [hm]
    simp (maxSteps := 1000000) (disch := (first | omega | (simp only [nx_alloc, nx_upd, len_cons, len_nil, List.length_set, List.length_map, List.length_append] <;> omega) | fail)) only [Nat.reduceAdd, Nat.reduceSub, Nat.reduceMul, Nat.reduceLT, Nat.reduceLeDiff, Nat.reduceEqDiff, ↓reduceIte, reduceCtorEq, Int.reduceAdd, Int.reduceSub, Int.reduceMul, Int.reduceLT, Int.reduceLE, Int.reduceEq, Int.reduceNe, Int.reduceToNat, Int.reduceNeg, go_sem, g0, g3, g7, g8, Try.results47]
    exact gc_fin' hw o1 rfl (.int _ _)
  have e1 : ((i : Int) < l.length) := by omega
  obtain ⟨x, hx⟩ : ∃ V, l[i]? = some V := ⟨l[i]'(by omega), List.getElem?_eq_getElem (by omega)⟩
  obtain ⟨b, off, hb1, hb2, hb3, cells, e', m, hb4, hb5, hb6⟩ := View.at (P := Try.prog) (e := 62) hv1 Try.sz62 (i := i) (by omega)
  have hel : ((l.flatMap hsC).drop (i * 32)).take 32 = hsC x := by
    rw [List.flatMap_def]
    exact flat_elem (fun cs hc => by obtain ⟨y, _, rfl⟩ := List.mem_map.1 hc; exact hsC_len y) (by rw [List.getElem?_map, hx]; rfl)
  rw [hel] at hb6
  have hldx := ld_agg (e' := e') (m := m) hb5 hb6
  have hpl := hidxN_at (h := h) hx
  rw [hp] at hpl
  simp (maxSteps := 1000000) (disch := (first | omega | (simp only [nx_alloc, nx_upd, len_cons, len_nil, List.length_set, List.length_map, List.length_append] <;> omega) | fail)) only [Nat.reduceAdd, Nat.reduceSub, Nat.reduceMul, Nat.reduceLT, Nat.reduceLeDiff, Nat.reduceEqDiff, ↓reduceIte, reduceCtorEq, Int.reduceAdd, Int.reduceSub, Int.reduceMul, Int.reduceLT, Int.reduceLE, Int.reduceEq, Int.reduceNe, Int.reduceToNat, Int.reduceNeg, go_sem, g0, g3, g7, g8]
  refine aw_draw2 [⟨false, [], [0]⟩, ⟨false, [], [0]⟩, ⟨false, [], [0]⟩, ⟨false, [1, 2], [0]⟩, ⟨false, [1, 2, 3], [0]⟩, ⟨false, [0, 1, 2, 3, 4], [0]⟩] [A'] 0 (by kernel_rfl) (by kernel_rfl) rfl ?_
  simp (maxSteps := 1000000) (disch := (first | omega | (simp only [nx_alloc, nx_upd, len_cons, len_nil, List.length_set, List.length_map, List.length_append] <;> omega) | fail)) only [Nat.reduceAdd, Nat.reduceSub, Nat.reduceMul, Nat.reduceLT, Nat.reduceLeDiff, Nat.reduceEqDiff, ↓reduceIte, reduceCtorEq, Int.reduceAdd, Int.reduceSub, Int.reduceMul, Int.reduceLT, Int.reduceLE, Int.reduceEq, Int.reduceNe, Int.reduceToNat, Int.reduceNeg, go_sem, g0, g3, g7, g8, g1, hld, htk, hb3, hb4, hldx, hsq_eql]
  by_cases hid : h = x
  · rw [if_pos hid] at hpl
    rw [hpl]
    simp (maxSteps := 1000000) (disch := (first | omega | (simp only [nx_alloc, nx_upd, len_cons, len_nil, List.length_set, List.length_map, List.length_append] <;> omega) | fail)) only [Nat.reduceAdd, Nat.reduceSub, Nat.reduceMul, Nat.reduceLT, Nat.reduceLeDiff, Nat.reduceEqDiff, ↓reduceIte, reduceCtorEq, Int.reduceAdd, Int.reduceSub, Int.reduceMul, Int.reduceLT, Int.reduceLE, Int.reduceEq, Int.reduceNe, Int.reduceToNat, Int.reduceNeg, go_sem, hid, g8, Try.results47]
    exact gc_fin' hw o1 rfl (.int _ _)
  · rw [if_neg hid] at hpl
    simp (maxSteps := 1000000) (disch := (first | omega | (simp only [nx_alloc, nx_upd, len_cons, len_nil, List.length_set, List.length_map, List.length_append] <;> omega) | fail)) only [Nat.reduceAdd, Nat.reduceSub, Nat.reduceMul, Nat.reduceLT, Nat.reduceLeDiff, Nat.reduceEqDiff, ↓reduceIte, reduceCtorEq, Int.reduceAdd, Int.reduceSub, Int.reduceMul, Int.reduceLT, Int.reduceLE, Int.reduceEq, Int.reduceNe, Int.reduceToNat, Int.reduceNeg, go_sem, hid, g8]
    refine ⟨k - 1, by omega, _, i + 1, rfl, by omega, by omega, hpl.symm, ?_, ?_, ?_, ?_⟩
    · simp (maxSteps := 1000000) (disch := (first | omega | (simp only [nx_alloc, nx_upd, len_cons, len_nil, List.length_set, List.length_map, List.length_append] <;> omega) | fail)) only [Nat.reduceAdd, Nat.reduceSub, Nat.reduceMul, Nat.reduceLT, Nat.reduceLeDiff, Nat.reduceEqDiff, ↓reduceIte, reduceCtorEq, Int.reduceAdd, Int.reduceSub, Int.reduceMul, Int.reduceLT, Int.reduceLE, Int.reduceEq, Int.reduceNe, Int.reduceToNat, Int.reduceNeg, go_sem, g0]
    · simp (maxSteps := 1000000) (disch := (first | omega | (simp only [nx_alloc, nx_upd, len_cons, len_nil, List.length_set, List.length_map, List.length_append] <;> omega) | fail)) only [Nat.reduceAdd, Nat.reduceSub, Nat.reduceMul, Nat.reduceLT, Nat.reduceLeDiff, Nat.reduceEqDiff, ↓reduceIte, reduceCtorEq, Int.reduceAdd, Int.reduceSub, Int.reduceMul, Int.reduceLT, Int.reduceLE, Int.reduceEq, Int.reduceNe, Int.reduceToNat, Int.reduceNeg, go_sem, g3]
    · simp (maxSteps := 1000000) (disch := (first | omega | (simp only [nx_alloc, nx_upd, len_cons, len_nil, List.length_set, List.length_map, List.length_append] <;> omega) | fail)) only [Nat.reduceAdd, Nat.reduceSub, Nat.reduceMul, Nat.reduceLT, Nat.reduceLeDiff, Nat.reduceEqDiff, ↓reduceIte, reduceCtorEq, Int.reduceAdd, Int.reduceSub, Int.reduceMul, Int.reduceLT, Int.reduceLE, Int.reduceEq, Int.reduceNe, Int.reduceToNat, Int.reduceNeg, go_sem, g7]
    · simp (maxSteps := 1000000) (disch := (first | omega | (simp only [nx_alloc, nx_upd, len_cons, len_nil, List.length_set, List.length_map, List.length_append] <;> omega) | fail)) only [Nat.reduceAdd, Nat.reduceSub, Nat.reduceMul, Nat.reduceLT, Nat.reduceLeDiff, Nat.reduceEqDiff, ↓reduceIte, reduceCtorEq, Int.reduceAdd, Int.reduceSub, Int.reduceMul, Int.reduceLT, Int.reduceLE, Int.reduceEq, Int.reduceNe, Int.reduceToNat, Int.reduceNeg, go_sem]
      rfl
theorem containsH_ok (w0 : World) (A : St) (l : List HashT) (v : Value) (hv : HsView A l v) (hl : l.length ≤ 1073741824) (h : HashT) : ACalls Try.prog w0 28 #[v, .agg (hsC h).toArray] A (fin (.bool (decide (h ∈ l))) A) := by
  refine call_E Try.enters28 Try.func28 rfl (Nat.le_of_ble_eq_true rfl) fun hw hbd => ?_
  obtain ⟨A1, hA1⟩ : ∃ A1, A1 = A.alloc (.cells (hsC h) 62 (some 0)) := ⟨_, rfl⟩
  have o1 : Over A A1 := hA1 ▸ (Over.refl A).alloc _
  have g1 : A1.get A.next = some (.cells (hsC h) 62 (some 0)) := by rw [hA1]; exact get_alloc_same ..
  have hld := ldN (e := 62) (m := some 0) (hsC_len h)
  have hlC := hsC_len h
  have htk : (hsC h).take 32 = hsC h := List.take_of_length_le (by omega)
  have hmem := hidx_mem l h l.length 0 (by omega)
  rw [List.drop_zero] at hmem
  have hd : decide (hidxN l h 0 ≥ 0) = decide (h ∈ l) := decide_eq_decide.2 hmem
  have hd' : decide (0 ≤ hidxN l h 0) = decide (h ∈ l) := hd
  simp (maxSteps := 1000000) (disch := (first | omega | (simp only [nx_alloc, nx_upd, len_cons, len_nil, List.length_set, List.length_map, List.length_append] <;> omega) | fail)) only [Nat.reduceAdd, Nat.reduceSub, Nat.reduceMul, Nat.reduceLT, Nat.reduceLeDiff, Nat.reduceEqDiff, ↓reduceIte, reduceCtorEq, Int.reduceAdd, Int.reduceSub, Int.reduceMul, Int.reduceLT, Int.reduceLE, Int.reduceEq, Int.reduceNe, Int.reduceToNat, Int.reduceNeg, go_sem, Try.ntmps28, Try.results28]
  rw [← hA1]
  simp (maxSteps := 1000000) (disch := (first | omega | (simp only [nx_alloc, nx_upd, len_cons, len_nil, List.length_set, List.length_map, List.length_append] <;> omega) | fail)) only [Nat.reduceAdd, Nat.reduceSub, Nat.reduceMul, Nat.reduceLT, Nat.reduceLeDiff, Nat.reduceEqDiff, ↓reduceIte, reduceCtorEq, Int.reduceAdd, Int.reduceSub, Int.reduceMul, Int.reduceLT, Int.reduceLE, Int.reduceEq, Int.reduceNe, Int.reduceToNat, Int.reduceNeg, go_sem, g1, hld, htk]
  refine call1 (indexH_ok w0 A1 l v (View.over hv o1) hl h) ?_
  simp (maxSteps := 1000000) (disch := (first | omega | (simp only [nx_alloc, nx_upd, len_cons, len_nil, List.length_set, List.length_map, List.length_append] <;> omega) | fail)) only [Nat.reduceAdd, Nat.reduceSub, Nat.reduceMul, Nat.reduceLT, Nat.reduceLeDiff, Nat.reduceEqDiff, ↓reduceIte, reduceCtorEq, Int.reduceAdd, Int.reduceSub, Int.reduceMul, Int.reduceLT, Int.reduceLE, Int.reduceEq, Int.reduceNe, Int.reduceToNat, Int.reduceNeg, go_sem, hd, hd', Try.results28]
  exact gc_fin' hw o1 rfl (.bool _)
/-- The blocks that are live. -/
def addH (o : List HashT) (h : HashT) : List HashT := if h ∈ o then o else o ++ [h]
def liveL (vs : List VerT) : List HashT := vs.foldl (fun o V => V.blocks.foldl addH o) []
theorem liveL_snoc (vs : List VerT) (V : VerT) : liveL (vs ++ [V]) = V.blocks.foldl addH (liveL vs) := by unfold liveL; rw [List.foldl_append]; rfl
theorem addH_snoc (l : List HashT) (h : HashT) (o : List HashT) : (l ++ [h]).foldl addH o = addH (l.foldl addH o) h := by rw [List.foldl_append]; rfl
theorem addH_len (o : List HashT) (h : HashT) : (addH o h).length ≤ o.length + 1 := by unfold addH; split <;> simp
theorem addHs_len : ∀ (l o : List HashT), (l.foldl addH o).length ≤ o.length + l.length
  | [], o => Nat.le_refl _
  | h :: l, o => by
    have h1 := addHs_len l (addH o h)
    have h2 := addH_len o h
    simp only [List.foldl_cons, List.length_cons]; omega
theorem liveL_len : ∀ (vs : List VerT) (o : List HashT), (∀ V ∈ vs, V.blocks.length ≤ 1000) → (vs.foldl (fun o V => V.blocks.foldl addH o) o).length ≤ o.length + vs.length * 1000
  | [], o, _ => by simp
  | V :: vs, o, h => by
    have h1 := liveL_len vs (V.blocks.foldl addH o) (fun V hV => h V (List.mem_cons_of_mem _ hV))
    have h2 := addHs_len V.blocks o
    have h3 := h V (List.mem_cons_self ..)
    simp only [List.foldl_cons, List.length_cons]; omega
theorem addH_nodup {o : List HashT} (h : o.Nodup) (x : HashT) : (addH o x).Nodup := by
  unfold addH
  split
  · exact h
  · rename_i h1
    rw [List.nodup_append]
    exact ⟨h, by simp, fun a ha b hb => by rw [List.mem_singleton.1 hb]; intro e; exact h1 (e ▸ ha)⟩
theorem addHs_nodup : ∀ (l : List HashT) {o : List HashT}, o.Nodup → (l.foldl addH o).Nodup
  | [], o, h => h
  | x :: l, o, h => addHs_nodup l (addH_nodup h x)
theorem liveL_nodup : ∀ (vs : List VerT) {o : List HashT}, o.Nodup → (vs.foldl (fun o V => V.blocks.foldl addH o) o).Nodup
  | [], o, h => h
  | V :: vs, o, h => liveL_nodup vs (addHs_nodup _ h)
theorem hsL_push {A : St} {lo : Nat} {l : List HashT} {v : Value} (h : HsRow A lo l v) (x : HashT) (hlo : lo ≤ A.next) (hl : l.length ≤ 1048576) :
    ∃ v' A', aappend Try.prog (A.alloc (.cells (hsC x) 62 (some 0))) 24 24 v (.slice (some ⟨A.next, 0, none⟩) 1 1) = some (v', A') ∧ HsRow A' lo (l ++ [x]) v' ∧ A'.next = A.next + 2 ∧ rowB v' = some (A.next + 1) ∧ ∀ b, b < A.next → rowB v ≠ some b → A'.get b = A.get b := by
  obtain ⟨v', A2, hap, hr2, hn2, hrb, hf2⟩ := row_push (A := A) (sp := none) (c := 1) (xs := hsC x) Try.el24 Try.underlying24 (by intro k; exact TypeDesc.noConfusion) Try.sz62 Try.byt62 Try.zero62 rfl h hlo (by omega) (by omega) (hsC_cell' x) (hsC_len x)
  refine ⟨v', A2, hap, ?_, hn2, hrb, hf2⟩
  unfold HsRow
  rw [List.flatMap_append, List.length_append]; simpa using hr2
theorem hs_elem {l : List HashT} {i : Nat} {x : HashT} (hx : l[i]? = some x) : ((l.flatMap hsC).drop (i * 32)).take 32 = hsC x := by
  rw [List.flatMap_def]
  exact flat_elem (fun cs hc => by obtain ⟨y, _, rfl⟩ := List.mem_map.1 hc; exact hsC_len y) (by rw [List.getElem?_map, hx]; rfl)
/-- A hash's variable, newly laid. -/
theorem one_stH (B : St) (h : HashT) : ∃ C, storeC (B.alloc (.cells [.int .u8 0, .int .u8 0, .int .u8 0, .int .u8 0, .int .u8 0, .int .u8 0, .int .u8 0, .int .u8 0, .int .u8 0, .int .u8 0, .int .u8 0, .int .u8 0, .int .u8 0, .int .u8 0, .int .u8 0, .int .u8 0, .int .u8 0, .int .u8 0, .int .u8 0, .int .u8 0, .int .u8 0, .int .u8 0, .int .u8 0, .int .u8 0, .int .u8 0, .int .u8 0, .int .u8 0, .int .u8 0, .int .u8 0, .int .u8 0, .int .u8 0, .int .u8 0] 62 (some 0))) (some 32) (some (.cells [.int .u8 0, .int .u8 0, .int .u8 0, .int .u8 0, .int .u8 0, .int .u8 0, .int .u8 0, .int .u8 0, .int .u8 0, .int .u8 0, .int .u8 0, .int .u8 0, .int .u8 0, .int .u8 0, .int .u8 0, .int .u8 0, .int .u8 0, .int .u8 0, .int .u8 0, .int .u8 0, .int .u8 0, .int .u8 0, .int .u8 0, .int .u8 0, .int .u8 0, .int .u8 0, .int .u8 0, .int .u8 0, .int .u8 0, .int .u8 0, .int .u8 0, .int .u8 0] 62 (some 0))) B.next 0 (.agg (hsC h).toArray) = some C ∧ Over B C ∧ C.next = B.next + 1 ∧ C.get B.next = some (.cells (hsC h) 62 (some 0)) :=
  ⟨_, stN (n := 32) rfl (hsC_len h) (hsC_cell' h), ((Over.refl B).alloc _).upd (Nat.le_refl _) _, rfl, get_upd_same ..⟩
theorem one_stV (B : St) {cs : List Value} (h1 : cs.length = 4) (h2 : cs.all cell1 = true) : ∃ C, storeC (B.alloc (.cells [.int .u32 0, .slice none 0 0, .slice none 0 0, .slice none 0 0] 28 (some 0))) (some 4) (some (.cells [.int .u32 0, .slice none 0 0, .slice none 0 0, .slice none 0 0] 28 (some 0))) B.next 0 (.agg cs.toArray) = some C ∧ Over B C ∧ C.next = B.next + 1 ∧ C.get B.next = some (.cells cs 28 (some 0)) :=
  ⟨_, stN (n := 4) rfl h1 h2, ((Over.refl B).alloc _).upd (Nat.le_refl _) _, rfl, get_upd_same ..⟩
def LivePost (A : St) (vs : List VerT) (e : Ending) (A' : St) : Prop := ∃ v, e = .returned v ∧ Over A A' ∧ HsRow A' A.next (liveL vs) v
set_option maxHeartbeats 8000000 in
theorem live_ok (w0 : World) (A : St) (S : StT) (cs : List Value) (hS : StC A S cs) (h8 : S.vers.length ≤ 8) (hb : ∀ V ∈ S.vers, V.blocks.length ≤ 1000) : ACalls Try.prog w0 19 #[.agg cs.toArray] A (LivePost A S.vers) := by
  obtain ⟨hs22, hsc⟩ := hS.len
  obtain ⟨v, tl, rfl, hv, _⟩ := hS.parts
  refine call_E Try.enters19 Try.func19 rfl (Nat.le_of_ble_eq_true rfl) fun hw hbd => ?_
  obtain ⟨A1, hA1⟩ : ∃ A1, A1 = A.alloc (.cells (v :: tl) 43 (some 0)) := ⟨_, rfl⟩
  have o1 : Over A A1 := hA1 ▸ (Over.refl A).alloc _
  have g1 : A1.get A.next = some (.cells (v :: tl) 43 (some 0)) := by rw [hA1]; exact get_alloc_same ..
  have n1 : A1.next = A.next + 1 := by rw [hA1]; rfl
  have hlen := NV.lenU (e := 28) (hv.ge o1.ge).1
  simp (maxSteps := 1000000) (disch := (first | omega | (simp only [nx_alloc, nx_upd, len_cons, len_nil, List.length_set, List.length_map, List.length_append] <;> omega) | fail)) only [Nat.reduceAdd, Nat.reduceSub, Nat.reduceMul, Nat.reduceLT, Nat.reduceLeDiff, Nat.reduceEqDiff, ↓reduceIte, reduceCtorEq, Int.reduceAdd, Int.reduceSub, Int.reduceMul, Int.reduceLT, Int.reduceLE, Int.reduceEq, Int.reduceNe, Int.reduceToNat, Int.reduceNeg, go_sem, Try.ntmps19, Try.results19]
  rw [← hA1]
  simp (maxSteps := 1000000) (disch := (first | omega | (simp only [nx_alloc, nx_upd, len_cons, len_nil, List.length_set, List.length_map, List.length_append] <;> omega) | fail)) only [Nat.reduceAdd, Nat.reduceSub, Nat.reduceMul, Nat.reduceLT, Nat.reduceLeDiff, Nat.reduceEqDiff, ↓reduceIte, reduceCtorEq, Int.reduceAdd, Int.reduceSub, Int.reduceMul, Int.reduceLT, Int.reduceLE, Int.reduceEq, Int.reduceNe, Int.reduceToNat, Int.reduceNeg, go_sem, g1, hlen]
  refine aw_loop (fun k x A' => ∃ (ρ : Nat → Value) (i : Nat) (u : Value), x = E 32 ρ [] ∧ k = S.vers.length - i ∧ i ≤ S.vers.length ∧ Over A A' ∧ A.next + 1 ≤ A'.next ∧ HsRow A' (A.next + 1) (liveL (S.vers.take i)) u ∧ ρ 2 = u ∧ ρ 8 = v ∧ ρ 9 = .int .i64 S.vers.length ∧ ρ 10 = .int .i64 i) S.vers.length
    ⟨_, 0, _, rfl, rfl, Nat.zero_le _, o1, by omega, Row.nil .., rfl, rfl, rfl, rfl⟩ ?_
  clear hA1 g1 n1 o1 hlen
  rintro k x A' ⟨ρ, i, u, rfl, hk, hi, ho, hlo, hrow, r2, r8, r9, r10⟩
  refine aw_of ?_
  by_cases hend : i = S.vers.length
  · have e1 : ¬ ((i : Int) < S.vers.length) := by omega
    rw [hend, List.take_length] at hrow
    simp (maxSteps := 1000000) (disch := (first | omega | (simp only [nx_alloc, nx_upd, len_cons, len_nil, List.length_set, List.length_map, List.length_append] <;> omega) | fail)) only [Nat.reduceAdd, Nat.reduceSub, Nat.reduceMul, Nat.reduceLT, Nat.reduceLeDiff, Nat.reduceEqDiff, ↓reduceIte, reduceCtorEq, Int.reduceAdd, Int.reduceSub, Int.reduceMul, Int.reduceLT, Int.reduceLE, Int.reduceEq, Int.reduceNe, Int.reduceToNat, Int.reduceNeg, go_sem, r2, r8, r9, r10, Try.results19]
    exact gc_here ⟨u, rfl, ho, Row.keep hrow (Nat.le_refl _) (fun _ _ _ _ => rfl) (by omega)⟩
  have e1 : ((i : Int) < S.vers.length) := by omega
  obtain ⟨V, hV⟩ : ∃ V, S.vers[i]? = some V := ⟨S.vers[i]'(by omega), List.getElem?_eq_getElem (by omega)⟩
  have hVb := hb V (List.mem_of_getElem? hV)
  obtain ⟨b, off, vc, q1, q2, q3, q4, cells, e', m, q5, q6, q7⟩ := hv.1.at (P := Try.prog) (e := 28) Try.sz28 hV
  have q5' : A'.get b = _ := (ho.get b q1).trans q5
  have hld := ld_agg (e' := e') (m := m) q6 q7
  obtain ⟨A2, st4, o2, n2, g4⟩ := one_stV A' q4 q3.cell
  obtain ⟨p, q, w, rfl, hpv, _, _⟩ := q3
  have hp2 : HsView A2 V.blocks p := View.over hpv (ho.trans o2)
  have hlenp := View.lenU (e := 62) hp2
  have hsum := liveL_len (S.vers.take i) [] (fun V hV => hb V (List.mem_of_mem_take hV))
  have htl : (S.vers.take i).length ≤ 8 := by rw [List.length_take]; omega
  have hlive : (liveL (S.vers.take i)).length ≤ 8000 := by have : ([] : List HashT).length = 0 := rfl; unfold liveL; omega
  have htk : S.vers.take (i + 1) = S.vers.take i ++ [V] := by rw [List.take_add_one, hV]; rfl
  simp (maxSteps := 1000000) (disch := (first | omega | (simp only [nx_alloc, nx_upd, len_cons, len_nil, List.length_set, List.length_map, List.length_append] <;> omega) | fail)) only [Nat.reduceAdd, Nat.reduceSub, Nat.reduceMul, Nat.reduceLT, Nat.reduceLeDiff, Nat.reduceEqDiff, ↓reduceIte, reduceCtorEq, Int.reduceAdd, Int.reduceSub, Int.reduceMul, Int.reduceLT, Int.reduceLE, Int.reduceEq, Int.reduceNe, Int.reduceToNat, Int.reduceNeg, go_sem, r2, r8, r9, r10, q2, q5', hld, st4, g4, hlenp]
  obtain ⟨Lv, hLv⟩ : ∃ x, x = liveL (S.vers.take i) := ⟨_, rfl⟩
  rw [← hLv] at hrow hlive
  refine aw_loop (fun k2 y A3 => ∃ (ρ : Nat → Value) (j : Nat) (u : Value), y = E 32 ρ [] ∧ k2 = V.blocks.length - j ∧ j ≤ V.blocks.length ∧ Over A A3 ∧ A2.next ≤ A3.next ∧ HsRow A3 (A.next + 1) ((V.blocks.take j).foldl addH Lv) u ∧ ρ 2 = u ∧ ρ 8 = v ∧ ρ 9 = .int .i64 S.vers.length ∧ ρ 10 = .int .i64 i ∧ ρ 15 = p ∧ ρ 16 = .int .i64 V.blocks.length ∧ ρ 17 = .int .i64 j) V.blocks.length
    ⟨_, 0, u, rfl, rfl, Nat.zero_le _, ho.trans o2, Nat.le_refl _, Row.over hrow o2, r2, r8, r9, r10, rfl, rfl, rfl⟩ ?_
  clear r2 r8 r9 r10 st4 g4 hlenp hp2
  rintro k2 y A3 ⟨ρ, j, u, rfl, hk2, hj, o3, n3, hrow3, r2, r8, r9, r10, r15, r16, r17⟩
  refine aw_of ?_
  have hp3 : HsView A3 V.blocks p := View.over hpv o3
  by_cases hjend : j = V.blocks.length
  · have e2 : ¬ ((j : Int) < V.blocks.length) := by omega
    rw [hjend, List.take_length] at hrow3
    simp (maxSteps := 1000000) (disch := (first | omega | (simp only [nx_alloc, nx_upd, len_cons, len_nil, List.length_set, List.length_map, List.length_append] <;> omega) | fail)) only [Nat.reduceAdd, Nat.reduceSub, Nat.reduceMul, Nat.reduceLT, Nat.reduceLeDiff, Nat.reduceEqDiff, ↓reduceIte, reduceCtorEq, Int.reduceAdd, Int.reduceSub, Int.reduceMul, Int.reduceLT, Int.reduceLE, Int.reduceEq, Int.reduceNe, Int.reduceToNat, Int.reduceNeg, go_sem, r10, r16, r17]
    refine ⟨k - 1, by omega, _, i + 1, u, rfl, by omega, by omega, o3, by omega, by rw [htk, liveL_snoc, ← hLv]; exact hrow3, ?_, ?_, ?_, ?_⟩
    · simp (maxSteps := 1000000) (disch := (first | omega | (simp only [nx_alloc, nx_upd, len_cons, len_nil, List.length_set, List.length_map, List.length_append] <;> omega) | fail)) only [Nat.reduceAdd, Nat.reduceSub, Nat.reduceMul, Nat.reduceLT, Nat.reduceLeDiff, Nat.reduceEqDiff, ↓reduceIte, reduceCtorEq, Int.reduceAdd, Int.reduceSub, Int.reduceMul, Int.reduceLT, Int.reduceLE, Int.reduceEq, Int.reduceNe, Int.reduceToNat, Int.reduceNeg, go_sem, r2]
    · simp (maxSteps := 1000000) (disch := (first | omega | (simp only [nx_alloc, nx_upd, len_cons, len_nil, List.length_set, List.length_map, List.length_append] <;> omega) | fail)) only [Nat.reduceAdd, Nat.reduceSub, Nat.reduceMul, Nat.reduceLT, Nat.reduceLeDiff, Nat.reduceEqDiff, ↓reduceIte, reduceCtorEq, Int.reduceAdd, Int.reduceSub, Int.reduceMul, Int.reduceLT, Int.reduceLE, Int.reduceEq, Int.reduceNe, Int.reduceToNat, Int.reduceNeg, go_sem, r8]
    · simp (maxSteps := 1000000) (disch := (first | omega | (simp only [nx_alloc, nx_upd, len_cons, len_nil, List.length_set, List.length_map, List.length_append] <;> omega) | fail)) only [Nat.reduceAdd, Nat.reduceSub, Nat.reduceMul, Nat.reduceLT, Nat.reduceLeDiff, Nat.reduceEqDiff, ↓reduceIte, reduceCtorEq, Int.reduceAdd, Int.reduceSub, Int.reduceMul, Int.reduceLT, Int.reduceLE, Int.reduceEq, Int.reduceNe, Int.reduceToNat, Int.reduceNeg, go_sem, r9]
    · simp (maxSteps := 1000000) (disch := (first | omega | (simp only [nx_alloc, nx_upd, len_cons, len_nil, List.length_set, List.length_map, List.length_append] <;> omega) | fail)) only [Nat.reduceAdd, Nat.reduceSub, Nat.reduceMul, Nat.reduceLT, Nat.reduceLeDiff, Nat.reduceEqDiff, ↓reduceIte, reduceCtorEq, Int.reduceAdd, Int.reduceSub, Int.reduceMul, Int.reduceLT, Int.reduceLE, Int.reduceEq, Int.reduceNe, Int.reduceToNat, Int.reduceNeg, go_sem]
      rfl
  have e2 : ((j : Int) < V.blocks.length) := by omega
  obtain ⟨h, hh⟩ : ∃ h, V.blocks[j]? = some h := ⟨V.blocks[j]'(by omega), List.getElem?_eq_getElem (by omega)⟩
  obtain ⟨xb, xo, x1, x2, x3, xcl, xe, xm, x4, x5, x6⟩ := View.at (P := Try.prog) (e := 62) hp3 Try.sz62 (i := j) (by omega)
  rw [hs_elem hh] at x6
  have hldx := ld_agg (e' := xe) (m := xm) x5 x6
  obtain ⟨A4, st6, o4, n4, g6⟩ := one_stH A3 h
  have hrow4 : HsRow A4 (A.next + 1) ((V.blocks.take j).foldl addH Lv) u := Row.over hrow3 o4
  have hld6 := ldN (e := 62) (m := some 0) (hsC_len h)
  have htk6 : (hsC h).take 32 = hsC h := List.take_of_length_le (by rw [hsC_len]; omega)
  have hjl := addHs_len (V.blocks.take j) Lv
  have hjt : (V.blocks.take j).length ≤ 1000 := by rw [List.length_take]; omega
  have htkj : V.blocks.take (j + 1) = V.blocks.take j ++ [h] := by rw [List.take_add_one, hh]; rfl
  obtain ⟨O, hO⟩ : ∃ O, O = (V.blocks.take j).foldl addH Lv := ⟨_, rfl⟩
  rw [← hO] at hrow4 hjl
  simp (maxSteps := 1000000) (disch := (first | omega | (simp only [nx_alloc, nx_upd, len_cons, len_nil, List.length_set, List.length_map, List.length_append] <;> omega) | fail)) only [Nat.reduceAdd, Nat.reduceSub, Nat.reduceMul, Nat.reduceLT, Nat.reduceLeDiff, Nat.reduceEqDiff, ↓reduceIte, reduceCtorEq, Int.reduceAdd, Int.reduceSub, Int.reduceMul, Int.reduceLT, Int.reduceLE, Int.reduceEq, Int.reduceNe, Int.reduceToNat, Int.reduceNeg, go_sem, r2, r15, r16, r17, x3, x4, hldx, st6, g6, hld6, htk6]
  refine call1 (containsH_ok w0 A4 O u (Row.view hrow4) (by omega) h) ?_
  by_cases hin : h ∈ O
  · have hadd : (V.blocks.take (j + 1)).foldl addH Lv = O := by rw [htkj, addH_snoc, ← hO]; exact if_pos hin
    simp (maxSteps := 1000000) (disch := (first | omega | (simp only [nx_alloc, nx_upd, len_cons, len_nil, List.length_set, List.length_map, List.length_append] <;> omega) | fail)) only [Nat.reduceAdd, Nat.reduceSub, Nat.reduceMul, Nat.reduceLT, Nat.reduceLeDiff, Nat.reduceEqDiff, ↓reduceIte, reduceCtorEq, Int.reduceAdd, Int.reduceSub, Int.reduceMul, Int.reduceLT, Int.reduceLE, Int.reduceEq, Int.reduceNe, Int.reduceToNat, Int.reduceNeg, go_sem, hin, r17]
    refine ⟨k2 - 1, by omega, _, j + 1, u, rfl, by omega, by omega, o3.trans o4, by omega, by rw [hadd]; exact hrow4, ?_, ?_, ?_, ?_, ?_, ?_, ?_⟩
    · simp (maxSteps := 1000000) (disch := (first | omega | (simp only [nx_alloc, nx_upd, len_cons, len_nil, List.length_set, List.length_map, List.length_append] <;> omega) | fail)) only [Nat.reduceAdd, Nat.reduceSub, Nat.reduceMul, Nat.reduceLT, Nat.reduceLeDiff, Nat.reduceEqDiff, ↓reduceIte, reduceCtorEq, Int.reduceAdd, Int.reduceSub, Int.reduceMul, Int.reduceLT, Int.reduceLE, Int.reduceEq, Int.reduceNe, Int.reduceToNat, Int.reduceNeg, go_sem, r2]
    · simp (maxSteps := 1000000) (disch := (first | omega | (simp only [nx_alloc, nx_upd, len_cons, len_nil, List.length_set, List.length_map, List.length_append] <;> omega) | fail)) only [Nat.reduceAdd, Nat.reduceSub, Nat.reduceMul, Nat.reduceLT, Nat.reduceLeDiff, Nat.reduceEqDiff, ↓reduceIte, reduceCtorEq, Int.reduceAdd, Int.reduceSub, Int.reduceMul, Int.reduceLT, Int.reduceLE, Int.reduceEq, Int.reduceNe, Int.reduceToNat, Int.reduceNeg, go_sem, r8]
    · simp (maxSteps := 1000000) (disch := (first | omega | (simp only [nx_alloc, nx_upd, len_cons, len_nil, List.length_set, List.length_map, List.length_append] <;> omega) | fail)) only [Nat.reduceAdd, Nat.reduceSub, Nat.reduceMul, Nat.reduceLT, Nat.reduceLeDiff, Nat.reduceEqDiff, ↓reduceIte, reduceCtorEq, Int.reduceAdd, Int.reduceSub, Int.reduceMul, Int.reduceLT, Int.reduceLE, Int.reduceEq, Int.reduceNe, Int.reduceToNat, Int.reduceNeg, go_sem, r9]
    · simp (maxSteps := 1000000) (disch := (first | omega | (simp only [nx_alloc, nx_upd, len_cons, len_nil, List.length_set, List.length_map, List.length_append] <;> omega) | fail)) only [Nat.reduceAdd, Nat.reduceSub, Nat.reduceMul, Nat.reduceLT, Nat.reduceLeDiff, Nat.reduceEqDiff, ↓reduceIte, reduceCtorEq, Int.reduceAdd, Int.reduceSub, Int.reduceMul, Int.reduceLT, Int.reduceLE, Int.reduceEq, Int.reduceNe, Int.reduceToNat, Int.reduceNeg, go_sem, r10]
    · simp (maxSteps := 1000000) (disch := (first | omega | (simp only [nx_alloc, nx_upd, len_cons, len_nil, List.length_set, List.length_map, List.length_append] <;> omega) | fail)) only [Nat.reduceAdd, Nat.reduceSub, Nat.reduceMul, Nat.reduceLT, Nat.reduceLeDiff, Nat.reduceEqDiff, ↓reduceIte, reduceCtorEq, Int.reduceAdd, Int.reduceSub, Int.reduceMul, Int.reduceLT, Int.reduceLE, Int.reduceEq, Int.reduceNe, Int.reduceToNat, Int.reduceNeg, go_sem, r15]
    · simp (maxSteps := 1000000) (disch := (first | omega | (simp only [nx_alloc, nx_upd, len_cons, len_nil, List.length_set, List.length_map, List.length_append] <;> omega) | fail)) only [Nat.reduceAdd, Nat.reduceSub, Nat.reduceMul, Nat.reduceLT, Nat.reduceLeDiff, Nat.reduceEqDiff, ↓reduceIte, reduceCtorEq, Int.reduceAdd, Int.reduceSub, Int.reduceMul, Int.reduceLT, Int.reduceLE, Int.reduceEq, Int.reduceNe, Int.reduceToNat, Int.reduceNeg, go_sem, r16]
    · simp (maxSteps := 1000000) (disch := (first | omega | (simp only [nx_alloc, nx_upd, len_cons, len_nil, List.length_set, List.length_map, List.length_append] <;> omega) | fail)) only [Nat.reduceAdd, Nat.reduceSub, Nat.reduceMul, Nat.reduceLT, Nat.reduceLeDiff, Nat.reduceEqDiff, ↓reduceIte, reduceCtorEq, Int.reduceAdd, Int.reduceSub, Int.reduceMul, Int.reduceLT, Int.reduceLE, Int.reduceEq, Int.reduceNe, Int.reduceToNat, Int.reduceNeg, go_sem]
      rfl
  · have hadd : (V.blocks.take (j + 1)).foldl addH Lv = O ++ [h] := by rw [htkj, addH_snoc, ← hO]; exact if_neg hin
    obtain ⟨u', A5, hpush, hrow5, n5, hrb5, k5⟩ := hsL_push hrow4 h (by omega) (by omega)
    have hset := set_all [.int .u8 0, .int .u8 0, .int .u8 0, .int .u8 0, .int .u8 0, .int .u8 0, .int .u8 0, .int .u8 0, .int .u8 0, .int .u8 0, .int .u8 0, .int .u8 0, .int .u8 0, .int .u8 0, .int .u8 0, .int .u8 0, .int .u8 0, .int .u8 0, .int .u8 0, .int .u8 0, .int .u8 0, .int .u8 0, .int .u8 0, .int .u8 0, .int .u8 0, .int .u8 0, .int .u8 0, .int .u8 0, .int .u8 0, .int .u8 0, .int .u8 0, .int .u8 0] (hsC h) (by rw [hsC_len]; rfl)
    have hlen32 := hsC_len h
    simp (maxSteps := 1000000) (disch := (first | omega | (simp only [nx_alloc, nx_upd, len_cons, len_nil, List.length_set, List.length_map, List.length_append] <;> omega) | fail)) only [Nat.reduceAdd, Nat.reduceSub, Nat.reduceMul, Nat.reduceLT, Nat.reduceLeDiff, Nat.reduceEqDiff, ↓reduceIte, reduceCtorEq, Int.reduceAdd, Int.reduceSub, Int.reduceMul, Int.reduceLT, Int.reduceLE, Int.reduceEq, Int.reduceNe, Int.reduceToNat, Int.reduceNeg, go_sem, hin, r2, g6, hld6, htk6, hset]
    rw [hpush]
    simp (maxSteps := 1000000) (disch := (first | omega | (simp only [nx_alloc, nx_upd, len_cons, len_nil, List.length_set, List.length_map, List.length_append] <;> omega) | fail)) only [Nat.reduceAdd, Nat.reduceSub, Nat.reduceMul, Nat.reduceLT, Nat.reduceLeDiff, Nat.reduceEqDiff, ↓reduceIte, reduceCtorEq, Int.reduceAdd, Int.reduceSub, Int.reduceMul, Int.reduceLT, Int.reduceLE, Int.reduceEq, Int.reduceNe, Int.reduceToNat, Int.reduceNeg, go_sem, r17]
    have o05 : Over A A5 := Row.push_over (A0 := A) (by omega) (fun b hb => by have := (Row.rb hrow4 b hb).1; omega) (by omega) k5 (o3.trans o4) (Nat.le_refl _)
    refine ⟨k2 - 1, by omega, _, j + 1, u', rfl, by omega, by omega, o05, by omega, by rw [hadd]; exact hrow5, ?_, ?_, ?_, ?_, ?_, ?_, ?_⟩
    · simp (maxSteps := 1000000) (disch := (first | omega | (simp only [nx_alloc, nx_upd, len_cons, len_nil, List.length_set, List.length_map, List.length_append] <;> omega) | fail)) only [Nat.reduceAdd, Nat.reduceSub, Nat.reduceMul, Nat.reduceLT, Nat.reduceLeDiff, Nat.reduceEqDiff, ↓reduceIte, reduceCtorEq, Int.reduceAdd, Int.reduceSub, Int.reduceMul, Int.reduceLT, Int.reduceLE, Int.reduceEq, Int.reduceNe, Int.reduceToNat, Int.reduceNeg, go_sem]
    · simp (maxSteps := 1000000) (disch := (first | omega | (simp only [nx_alloc, nx_upd, len_cons, len_nil, List.length_set, List.length_map, List.length_append] <;> omega) | fail)) only [Nat.reduceAdd, Nat.reduceSub, Nat.reduceMul, Nat.reduceLT, Nat.reduceLeDiff, Nat.reduceEqDiff, ↓reduceIte, reduceCtorEq, Int.reduceAdd, Int.reduceSub, Int.reduceMul, Int.reduceLT, Int.reduceLE, Int.reduceEq, Int.reduceNe, Int.reduceToNat, Int.reduceNeg, go_sem, r8]
    · simp (maxSteps := 1000000) (disch := (first | omega | (simp only [nx_alloc, nx_upd, len_cons, len_nil, List.length_set, List.length_map, List.length_append] <;> omega) | fail)) only [Nat.reduceAdd, Nat.reduceSub, Nat.reduceMul, Nat.reduceLT, Nat.reduceLeDiff, Nat.reduceEqDiff, ↓reduceIte, reduceCtorEq, Int.reduceAdd, Int.reduceSub, Int.reduceMul, Int.reduceLT, Int.reduceLE, Int.reduceEq, Int.reduceNe, Int.reduceToNat, Int.reduceNeg, go_sem, r9]
    · simp (maxSteps := 1000000) (disch := (first | omega | (simp only [nx_alloc, nx_upd, len_cons, len_nil, List.length_set, List.length_map, List.length_append] <;> omega) | fail)) only [Nat.reduceAdd, Nat.reduceSub, Nat.reduceMul, Nat.reduceLT, Nat.reduceLeDiff, Nat.reduceEqDiff, ↓reduceIte, reduceCtorEq, Int.reduceAdd, Int.reduceSub, Int.reduceMul, Int.reduceLT, Int.reduceLE, Int.reduceEq, Int.reduceNe, Int.reduceToNat, Int.reduceNeg, go_sem, r10]
    · simp (maxSteps := 1000000) (disch := (first | omega | (simp only [nx_alloc, nx_upd, len_cons, len_nil, List.length_set, List.length_map, List.length_append] <;> omega) | fail)) only [Nat.reduceAdd, Nat.reduceSub, Nat.reduceMul, Nat.reduceLT, Nat.reduceLeDiff, Nat.reduceEqDiff, ↓reduceIte, reduceCtorEq, Int.reduceAdd, Int.reduceSub, Int.reduceMul, Int.reduceLT, Int.reduceLE, Int.reduceEq, Int.reduceNe, Int.reduceToNat, Int.reduceNeg, go_sem, r15]
    · simp (maxSteps := 1000000) (disch := (first | omega | (simp only [nx_alloc, nx_upd, len_cons, len_nil, List.length_set, List.length_map, List.length_append] <;> omega) | fail)) only [Nat.reduceAdd, Nat.reduceSub, Nat.reduceMul, Nat.reduceLT, Nat.reduceLeDiff, Nat.reduceEqDiff, ↓reduceIte, reduceCtorEq, Int.reduceAdd, Int.reduceSub, Int.reduceMul, Int.reduceLT, Int.reduceLE, Int.reduceEq, Int.reduceNe, Int.reduceToNat, Int.reduceNeg, go_sem, r16]
    · simp (maxSteps := 1000000) (disch := (first | omega | (simp only [nx_alloc, nx_upd, len_cons, len_nil, List.length_set, List.length_map, List.length_append] <;> omega) | fail)) only [Nat.reduceAdd, Nat.reduceSub, Nat.reduceMul, Nat.reduceLT, Nat.reduceLeDiff, Nat.reduceEqDiff, ↓reduceIte, reduceCtorEq, Int.reduceAdd, Int.reduceSub, Int.reduceMul, Int.reduceLT, Int.reduceLE, Int.reduceEq, Int.reduceNe, Int.reduceToNat, Int.reduceNeg, go_sem]
      rfl
theorem placeN_cs (l : List VerT) (id : Int) : ∀ m i, l.length - i ≤ m → (placeN l id i = -1 ∧ ∀ k V, i ≤ k → l[k]? = some V → V.id ≠ id) ∨ ∃ (j : Nat) (V : VerT), i ≤ j ∧ l[j]? = some V ∧ V.id = id ∧ placeN l id i = j ∧ ∀ k V', i ≤ k → k < j → l[k]? = some V' → V'.id ≠ id
  | m, i, hm => by
    by_cases hi : i < l.length
    · have hg : l[i]? = some l[i] := List.getElem?_eq_getElem hi
      rw [placeN_at hg]
      by_cases he : l[i].id = id
      · rw [if_pos he]
        exact .inr ⟨i, _, Nat.le_refl _, hg, he, rfl, fun k V' h1 h2 => by omega⟩
      · rw [if_neg he]
        match m, hm with
        | m + 1, hm =>
          rcases placeN_cs l id m (i + 1) (by omega) with ⟨h1, h2⟩ | ⟨j, V, h1, h2, h3, h4, h5⟩
          · refine .inl ⟨h1, fun k V hk hV => ?_⟩
            by_cases hki : k = i
            · subst hki; rw [hg] at hV; cases hV; exact he
            · exact h2 k V (by omega) hV
          · refine .inr ⟨j, V, by omega, h2, h3, h4, fun k V' hk hkj hV => ?_⟩
            by_cases hki : k = i
            · subst hki; rw [hg] at hV; cases hV; exact he
            · exact h5 k V' (by omega) hkj hV
        | 0, hm => omega
    · exact .inl ⟨placeN_end (by omega), fun k V hk hV => by have := (List.getElem?_eq_some_iff.1 hV).1; omega⟩
theorem nd_inj {α : Type} {B : List α} (h : B.Nodup) {i : α} {j k : Nat} (h1 : B[j]? = some i) (h2 : B[k]? = some i) : j = k := by
  obtain ⟨hj, e1⟩ := List.getElem?_eq_some_iff.1 h1
  obtain ⟨hk, e2⟩ := List.getElem?_eq_some_iff.1 h2
  exact (List.getElem_inj h).1 (e1.trans e2.symm)
/-- What is known of a vault's versions. -/
def goodV (l : List VerT) : Prop := l.length ≤ 8 ∧ (l.map (·.id)).Nodup ∧ ∀ V ∈ l, mayB V = true
theorem placeL_neg {l : List VerT} {id : Int} (h : ¬ 0 ≤ placeL l id) : ∀ V ∈ l, V.id ≠ id := by
  rcases placeN_cs l id l.length 0 (by omega) with ⟨_, h2⟩ | ⟨j, V, _, _, _, h4, _⟩
  · intro V hV
    obtain ⟨k, hk⟩ := List.getElem?_of_mem hV
    exact h2 k V (Nat.zero_le _) hk
  · exact absurd (by show 0 ≤ placeL l id; unfold placeL; rw [h4]; omega) h
theorem doL_good {l : List VerT} (o : VOp) (h : goodV l) : goodV (doL l o).1 ∧ ∀ V ∈ (doL l o).1, V ∈ l ∨ V = o.v := by
  refine ⟨⟨doL_len o h.1, ?_, ?_⟩, ?_⟩
  all_goals
    unfold doL
    obtain ⟨h1, h2, h3⟩ := h
    split
    · split
      · first | exact h2 | exact h3 | exact fun V hV => .inl hV
      split
      · first | exact h2 | exact h3 | exact fun V hV => .inl hV
      split
      · first | exact h2 | exact h3 | exact fun V hV => .inl hV
      · rename_i hm hp _
        have hp' := placeL_neg hp
        first
        | (show ((l ++ [o.v]).map (·.id)).Nodup
           rw [List.map_append, List.nodup_append]
           refine ⟨h2, by simp, fun a ha b hb => ?_⟩
           obtain ⟨V, hV, rfl⟩ := List.mem_map.1 ha
           rw [List.map_singleton, List.mem_singleton] at hb
           subst hb
           exact hp' V hV)
        | (intro V hV
           rcases List.mem_append.1 hV with hV | hV
           · exact h3 V hV
           · rw [List.mem_singleton.1 hV]; simpa using hm)
        | (intro V hV
           rcases List.mem_append.1 hV with hV | hV
           · exact .inl hV
           · exact .inr (List.mem_singleton.1 hV))
    split
    · split
      · first | exact h2 | exact h3 | exact fun V hV => .inl hV
      · first
        | exact h2.sublist ((List.eraseIdx_sublist ..).map _)
        | exact fun V hV => h3 V (List.mem_of_mem_eraseIdx hV)
        | exact fun V hV => .inl (List.mem_of_mem_eraseIdx hV)
    split
    · first
      | exact h2.sublist ((List.drop_sublist ..).map _)
      | exact fun V hV => h3 V (List.mem_of_mem_drop hV)
      | exact fun V hV => .inl (List.mem_of_mem_drop hV)
    split
    · first | exact h2 | exact h3 | exact fun V hV => .inl hV
    split
    · split
      · first | exact h2 | exact h3 | exact fun V hV => .inl hV
      · first | exact h2 | exact h3 | exact fun V hV => .inl hV
    · first | exact h2 | exact h3 | exact fun V hV => .inl hV
theorem applyS_good' {S : StT} (r : ReqT) (h : goodV S.vers) : goodV (applyS S r).1.vers ∧ ∀ V ∈ (applyS S r).1.vers, V ∈ S.vers ∨ V = r.op.v := by
  unfold applyS
  split
  · exact ⟨h, fun V hV => .inl hV⟩
  split
  · exact ⟨h, fun V hV => .inl hV⟩
  split
  · exact ⟨h, fun V hV => .inl hV⟩
  · exact doL_good r.op h
theorem allS_good : ∀ (l : List ReqT), goodV (allS l).1.vers ∧ ∀ V ∈ (allS l).1.vers, ∃ r ∈ l, V = r.op.v := by
  intro l
  generalize hn : l.length = n
  induction n generalizing l with
  | zero =>
    rw [List.eq_nil_of_length_eq_zero hn]
    exact ⟨⟨Nat.zero_le _, List.nodup_nil, fun V h => by cases h⟩, fun V h => by cases h⟩
  | succ n ih =>
    obtain ⟨m, r, rfl⟩ : ∃ m r, l = m ++ [r] := ⟨l.dropLast, l.getLast (by intro e; subst e; simp at hn), (List.dropLast_concat_getLast _).symm⟩
    have hm : m.length = n := by simp at hn; exact hn
    obtain ⟨i1, i2⟩ := ih m hm
    rw [allS_snoc]
    obtain ⟨a1, a2⟩ := applyS_good' r i1
    refine ⟨a1, fun V hV => ?_⟩
    rcases a2 V hV with hV | rfl
    · obtain ⟨q, hq, e⟩ := i2 V hV
      exact ⟨q, List.mem_append_left _ hq, e⟩
    · exact ⟨r, List.mem_append_right _ (List.mem_singleton.2 rfl), rfl⟩
theorem hvyL_blocks {l : List ReqT} (h : hvyL l = false) : ∀ r ∈ l, r.op.v.blocks.length ≤ 40 := by
  unfold hvyL at h
  rw [Bool.or_eq_false_iff] at h
  intro r hr
  have := List.any_eq_false.1 h.2 r hr
  unfold hvV at this
  simp only [Bool.not_eq_true, Bool.or_eq_false_iff, decide_eq_false_iff_not] at this
  omega
end Go.Fw
