import Derived.Test.YtphfkbagjpcmpaaFwVault10
import Derived.Test.YtphfkbagjpcmpaaFwA
set_option linter.unusedSimpArgs false
set_option linter.unusedVariables false
namespace Go.Fw
open Go.Proofs Go.RowKit
attribute [local go_sem] List.length_cons List.length_nil Nat.zero_add Nat.add_zero Nat.zero_mul Nat.mul_one Int.toNat_zero Int.toNat_natCast List.map_cons List.map_nil List.map_toArray List.toList_toArray List.append_toArray List.append_eq List.nil_append List.cons_append List.append_nil List.all_toArray List.all_cons List.all_nil Bool.and_true Bool.true_and Bool.and_self List.getElem?_toArray List.getElem?_cons_zero List.getElem?_cons_succ List.set_cons_zero List.set_cons_succ List.drop_zero List.drop_succ_cons List.take_zero List.take_succ_cons Option.bind_some Option.map_some id true_and and_true and_self St.next_alloc St.next_upd beq_self_eq_true Bool.not_true Bool.not_false Bool.false_eq_true false_implies true_implies Option.isNone_none Option.isNone_some Option.isSome_none Option.isSome_some ge_iff_le gt_iff_lt Nat.sub_zero Nat.add_assoc IntWalk.i64_in IntWalk.u64_in IntWalk.u8_in IntWalk.u32_in IntWalk.i32_in IntWalk.u16_in dec_not Bool.not_eq_true decide_true decide_false ne_eq not_true_eq_false not_false_eq_true Bool.true_or Bool.or_true Bool.or_false Bool.false_or Bool.and_false Bool.false_and upd_apply rd_eq ar_zero ar_succ ar_nil tm_size tm_getD tm_set E_tmps E_defers put_E put_none eval_tmp eval_const eval_func setArgs_0 setArgs_1 setArgs_2 append_lit stepV_some stepA_some guardO_true ifB_true ifB_false wantV_true wantV_false wantV_dec_t wantV_dec_f ifB_dec_t ifB_dec_f condV_bool dec_and dec_or isB_bool someB_t someB_f okO_tmp okO_func okO_int okO_bool okO_string okO_ptr0 okO_slice0 okO_nilFunc okO_nilIface okO_map0 okO_agg wanted_none wanted_some lookT_some aopsL_nil aopsL_cons wpA_skip wpA_label wpA_exit wpA_goto wpA_ret wpA_seq wpA_block wpA_region wpA_cond wpA_loop wpA_rangeFunc wpA_draw thenQ_normal thenQ_exit thenQ_ret thenQ_panic blockQ_normal blockQ_ret blockQ_panic blockQ_exit funQ_ret funQ_normal funQ_panic op_move op_assign pickV_or pickV_and pickV_t pickV_f pickV_true pickV_false op_pick allocV_some op_alloc op_box op_load op_nilCheck op_bin op_lookup bptr btype op_un op_convert op_makeInterface op_makeSlice op_fieldAddr op_field op_indexAddr op_index op_extract op_typeAssert storeV_some op_store op_makeMap op_mapUpdate op_slice00 op_slice10 op_slice01 op_slice11 op_slice111 op_slice011 op_makeFunc callV_true op_call op_builtin panicV_iface op_panic ACallV_func ACallF_false ACallF_true ACallV_yield afterCall_returned afterCall_panicked bin_add bin_sub bin_mul bin_and bin_or bin_xor bin_andNot bin_eql bin_neq bin_lss bin_leq bin_gtr bin_geq mval_some mval_none lookup_map lookU_map lookK_smap mapSet_map msetU_map msetK_int conv_to conv_from unsT_cells unsF_cells bin_same bin_nil bdata_nil bdata_some builtin_data builtin_str bin_quo bin_rem bin_shl bin_shr bin_sadd bin_seql bin_sneq bin_slss uB_bool bin_beql bin_bneq uP_pointer bin_peql bin_pneq uS_slice bin_leql bin_lneq bin_ieql bin_ineq un_neg un_xor un_not nilCheck_ptr nilCheck_func nilCheck_yield load_ptr loadC_one loadC_agg store_ptr slice_eq sliceU_string sliceU_slice sliceU_array sliceS_eq boundsS_some sliceL_eq boundsL_nil boundsL_exact boundsL_least boundsL_own boundsL_ownN bounds_11 bounds_10 bounds_01 bounds_00 builtin_len len_string len_array len_slice builtin_append builtin_copy pairA_some builtin_min builtin_max min_two max_two index_eq index_string index_array indexAddr_eq indexAddr_array indexAddr_slice fieldAddr_eq posO_some fAddr_some fieldAddr_struct partC_some field_eq field_struct part_eq partU_one partU_agg extract_tuple conv_eq conv_int conv_string u8O_u8 conv_bytes conv_text_nil conv_text_zero conv_text mkIface_eq get_upd_same consO_some finR_0 finR_1 finR_2 aresL_nil aresL_cons ares1_tmp ares1_cell retV_some aleave_nil aleave_coll bnd_int bnd_bool bnd_string bnd_nilIface bnd_slice0 bnd_iface bnd_slice bnd_ptr bnd_ptr0 bndL_nil bndL_cons bndA_lit bnd_tuple bnd_agg calm_same skipC_eq aopsC_nil aopsC_cons stepC_call stepC_move stepC_assign stepC_pick stepC_alloc stepC_box stepC_build stepC_buildSlice stepC_load stepC_store stepC_nilCheck stepC_binOp stepC_unOp stepC_convert stepC_makeInterface stepC_makeFunc stepC_makeSlice stepC_slice stepC_fieldAddr stepC_field stepC_indexAddr stepC_index stepC_extract stepC_typeAssert stepC_lookup stepC_mapUpdate stepC_makeMap stepC_builtin to_same sameA_eq aopsX_nil aopsX_cons stepX_heavy stepX_light lightK_eq allC_nil allC_cons hs_zero hs_succ stepT_call pure_call stepT_move pure_move stepT_assign pure_assign stepT_pick pure_pick stepT_alloc pure_alloc stepT_box pure_box stepT_build pure_build stepT_buildSlice pure_buildSlice stepT_load pure_load stepT_store pure_store stepT_nilCheck pure_nilCheck stepT_binOp pure_binOp stepT_unOp pure_unOp stepT_convert pure_convert stepT_makeInterface pure_makeInterface stepT_makeFunc pure_makeFunc stepT_makeSlice pure_makeSlice stepT_slice pure_slice stepT_fieldAddr pure_fieldAddr stepT_field pure_field stepT_indexAddr pure_indexAddr stepT_index pure_index stepT_extract pure_extract stepT_typeAssert pure_typeAssert stepT_lookup pure_lookup stepT_mapUpdate pure_mapUpdate stepT_makeMap pure_makeMap stepT_builtin pure_b_len pure_b_append pure_b_copy pure_b_min pure_b_max pure_b_unsafeSliceData pure_b_unsafeString leaveK_eq aleave_fn op_defer deferV_func resK_some defQ_ret defQ_normal storeC_int storeC_bool storeC_string storeC_slice storeC_func storeC_pointer len_cons len_nil cells_int cells_bool cells_string cells_slice cells_pointer cells_func cells_map cells_nilFunc cells_agg cell1_bool cell1_string cell1_slice cell1_pointer cell1_func cell1_i cell1_map cell1_nilFunc setList_nil setList_cons storeC_aggS fillP_nil fillP_cons fillAt_1 fillAt_n aggO_some sliceO_some places_0 places_s zerosR_0 zerosR_s thenElse_true evP_nil evP_cons okP_nil okP_cons op_buildL op_buildSliceL isBu_t isBu_f mk_E get_alloc_old get_alloc_new get_upd_old Try.agg1 Try.sz1 Try.byt1 Try.zero1 Try.agg2 Try.sz2 Try.byt2 Try.zero2 Try.agg3 Try.sz3 Try.byt3 Try.zero3 Try.agg4 Try.sz4 Try.byt4 Try.zero4 Try.agg5 Try.sz5 Try.byt5 Try.zero5 Try.agg6 Try.sz6 Try.byt6 Try.zero6 Try.agg7 Try.sz7 Try.byt7 Try.zero7 Try.agg8 Try.sz8 Try.byt8 Try.zero8 Try.agg9 Try.sz9 Try.byt9 Try.zero9 Try.agg10 Try.sz10 Try.byt10 Try.zero10 Try.agg11 Try.sz11 Try.byt11 Try.zero11 Try.agg12 Try.sz12 Try.byt12 Try.zero12 Try.agg13 Try.sz13 Try.byt13 Try.zero13 Try.agg14 Try.sz14 Try.byt14 Try.zero14 Try.agg15 Try.sz15 Try.byt15 Try.zero15 Try.agg16 Try.sz16 Try.byt16 Try.zero16 Try.agg17 Try.sz17 Try.byt17 Try.zero17 Try.agg18 Try.sz18 Try.byt18 Try.zero18 Try.agg19 Try.sz19 Try.byt19 Try.zero19 Try.agg20 Try.sz20 Try.byt20 Try.zero20 Try.agg21 Try.sz21 Try.byt21 Try.zero21 Try.agg22 Try.sz22 Try.byt22 Try.el22 Try.zero22 Try.agg23 Try.sz23 Try.byt23 Try.zero23 Try.agg24 Try.sz24 Try.byt24 Try.el24 Try.zero24 Try.agg25 Try.sz25 Try.byt25 Try.el25 Try.zero25 Try.agg26 Try.sz26 Try.byt26 Try.el26 Try.zero26 Try.agg27 Try.sz27 Try.byt27 Try.zero27 Try.agg28 Try.sz28 Try.byt28 Try.zero28 Try.agg29 Try.sz29 Try.byt29 Try.zero29 Try.agg30 Try.sz30 Try.byt30 Try.zero30 Try.agg31 Try.sz31 Try.byt31 Try.zero31 Try.agg32 Try.sz32 Try.byt32 Try.zero32 Try.agg33 Try.sz33 Try.byt33 Try.zero33 Try.agg34 Try.sz34 Try.byt34 Try.zero34 Try.agg35 Try.sz35 Try.byt35 Try.el35 Try.zero35 Try.agg36 Try.sz36 Try.byt36 Try.zero36 Try.agg37 Try.sz37 Try.byt37 Try.zero37 Try.agg38 Try.sz38 Try.byt38 Try.el38 Try.zero38 Try.agg39 Try.sz39 Try.byt39 Try.zero39 Try.agg40 Try.sz40 Try.byt40 Try.zero40 Try.agg41 Try.sz41 Try.byt41 Try.zero41 Try.agg42 Try.sz42 Try.byt42 Try.zero42 Try.agg43 Try.sz43 Try.byt43 Try.zero43 Try.agg44 Try.sz44 Try.byt44 Try.el44 Try.zero44 Try.agg46 Try.sz46 Try.byt46 Try.zero46 Try.agg48 Try.sz48 Try.byt48 Try.zero48 Try.agg49 Try.sz49 Try.byt49 Try.zero49 Try.agg50 Try.sz50 Try.byt50 Try.zero50 Try.agg51 Try.sz51 Try.byt51 Try.zero51 Try.agg52 Try.sz52 Try.byt52 Try.zero52 Try.agg53 Try.sz53 Try.byt53 Try.zero53 Try.agg54 Try.sz54 Try.byt54 Try.zero54 Try.agg55 Try.sz55 Try.byt55 Try.el55 Try.zero55 Try.agg56 Try.sz56 Try.byt56 Try.zero56 Try.agg57 Try.sz57 Try.byt57 Try.zero57 Try.agg58 Try.sz58 Try.byt58 Try.zero58 Try.agg59 Try.sz59 Try.byt59 Try.zero59 Try.agg60 Try.sz60 Try.byt60 Try.zero60 Try.agg61 Try.sz61 Try.byt61 Try.zero61 Try.agg62 Try.sz62 Try.byt62 Try.zero62 Try.agg64 Try.sz64 Try.byt64 Try.zero64 Try.agg65 Try.sz65 Try.byt65 Try.zero65 Try.agg66 Try.sz66 Try.byt66 Try.zero66 Try.agg68 Try.sz68 Try.byt68 Try.zero68 Try.agg69 Try.sz69 Try.byt69 Try.zero69 Try.agg71 Try.sz71 Try.byt71 Try.zero71 Try.agg72 Try.sz72 Try.byt72 Try.zero72 Try.agg73 Try.sz73 Try.byt73 Try.zero73 Try.agg74 Try.sz74 Try.byt74 Try.zero74 Try.agg75 Try.sz75 Try.byt75 Try.zero75 Try.agg76 Try.sz76 Try.byt76 Try.zero76 Try.agg77 Try.sz77 Try.byt77 Try.zero77 Try.agg78 Try.sz78 Try.byt78 Try.zero78 Try.agg79 Try.sz79 Try.byt79 Try.zero79 Try.agg80 Try.sz80 Try.byt80 Try.zero80 Try.agg81 Try.sz81 Try.byt81 Try.zero81 Try.agg82 Try.sz82 Try.byt82 Try.zero82 Try.agg83 Try.sz83 Try.byt83 Try.zero83 Try.agg84 Try.sz84 Try.byt84 Try.zero84 Try.agg85 Try.sz85 Try.byt85 Try.zero85 Try.agg86 Try.sz86 Try.byt86 Try.zero86 Try.agg87 Try.sz87 Try.byt87 Try.zero87 Try.agg88 Try.sz88 Try.byt88 Try.zero88 Try.agg89 Try.sz89 Try.byt89 Try.el89 Try.zero89 Try.agg90 Try.sz90 Try.byt90 Try.zero90 Try.agg91 Try.sz91 Try.byt91 Try.zero91 Try.agg92 Try.sz92 Try.byt92 Try.zero92 Try.agg93 Try.sz93 Try.byt93 Try.zero93 Try.agg94 Try.sz94 Try.byt94 Try.zero94 Try.agg95 Try.sz95 Try.byt95 Try.zero95 Try.agg96 Try.sz96 Try.byt96 Try.zero96 Try.agg97 Try.sz97 Try.byt97 Try.zero97 Try.agg98 Try.sz98 Try.byt98 Try.zero98 Try.agg99 Try.sz99 Try.byt99 Try.zero99 Try.agg100 Try.sz100 Try.byt100 Try.zero100 Try.agg101 Try.sz101 Try.byt101 Try.zero101 Try.agg102 Try.sz102 Try.byt102 Try.zero102 Try.agg103 Try.sz103 Try.byt103 Try.zero103 Try.agg104 Try.sz104 Try.byt104 Try.zero104 Try.agg105 Try.sz105 Try.byt105 Try.zero105 Try.agg106 Try.sz106 Try.byt106 Try.zero106 Try.agg107 Try.sz107 Try.byt107 Try.zero107 Try.agg108 Try.sz108 Try.byt108 Try.zero108 Try.agg109 Try.sz109 Try.byt109 Try.zero109 Try.agg110 Try.sz110 Try.byt110 Try.zero110 Try.agg111 Try.sz111 Try.byt111 Try.zero111 Try.agg112 Try.sz112 Try.byt112 Try.zero112 Try.agg113 Try.sz113 Try.byt113 Try.zero113 Try.agg114 Try.sz114 Try.byt114 Try.zero114 Try.agg115 Try.sz115 Try.byt115 Try.zero115 Try.agg116 Try.sz116 Try.byt116 Try.zero116 Try.body0 Try.body1 Try.body2 Try.body3 Try.body4 Try.body5 Try.body6 Try.body7 Try.body8 Try.body9 Try.body10 Try.body11 Try.body12 Try.body13 Try.body14 Try.body15 Try.body16 Try.body17 Try.body18 Try.body19 Try.body20 Try.body21 Try.body22 Try.body23 Try.body24 Try.body25 Try.body26 Try.body27 Try.body28 Try.body29 Try.body30 Try.body31 Try.body32 Try.body33 Try.body34 Try.body35 Try.body36 Try.body37 Try.body38 Try.body39 Try.body40 Try.body41 Try.body42 Try.body43 Try.body44 Try.body45 Try.body46 Try.body47 Try.body48 Try.body49 Try.body50 Try.body51 Try.body52 Try.body53 Try.body54 Try.body55 Try.body56 Try.body57 Try.body58 Try.body59 Try.body60 Try.body61 Try.body62 Try.body63 Try.body64 Try.body65 Try.body66 Try.body67 Try.body68 Try.body69 Try.body70 Try.body71 Try.body72 Try.body73 Try.body74 Try.body75 Try.body76 Try.body77 Try.body78 Try.body79 Try.build7 Try.build8 Try.build13 Try.build14 Try.build18 Try.build19 Try.bsl22 Try.bsl24 Try.bsl25 Try.bsl26 Try.build27 Try.build28 Try.build29 Try.build30 Try.build31 Try.build32 Try.bsl35 Try.bsl38 Try.build39 Try.build40 Try.build42 Try.build43 Try.bsl44 Try.build50 Try.bsl55 Try.bsl89 Try.build90 Try.build91 Try.build102 Try.build103 Try.build105 Try.build106 Try.build114 Try.build115 Try.underlying1 Try.underlying2 Try.underlying3 Try.underlying4 Try.underlying5 Try.underlying6 Try.underlying7 Try.underlying8 Try.underlying9 Try.underlying10 Try.underlying11 Try.underlying12 Try.underlying13 Try.underlying14 Try.underlying15 Try.underlying16 Try.underlying17 Try.underlying18 Try.underlying19 Try.underlying20 Try.underlying21 Try.underlying22 Try.underlying23 Try.underlying24 Try.underlying25 Try.underlying26 Try.underlying27 Try.underlying28 Try.underlying29 Try.underlying30 Try.underlying31 Try.underlying32 Try.underlying33 Try.underlying34 Try.underlying35 Try.underlying36 Try.underlying37 Try.underlying38 Try.underlying39 Try.underlying40 Try.underlying41 Try.underlying42 Try.underlying43 Try.underlying44 Try.underlying46 Try.underlying48 Try.underlying49 Try.underlying50 Try.underlying51 Try.underlying52 Try.underlying53 Try.underlying54 Try.underlying55 Try.underlying56 Try.underlying57 Try.underlying58 Try.underlying59 Try.underlying60 Try.underlying61 Try.underlying62 Try.underlying64 Try.underlying65 Try.underlying66 Try.underlying68 Try.underlying69 Try.underlying71 Try.underlying72 Try.underlying73 Try.underlying74 Try.underlying75 Try.underlying76 Try.underlying77 Try.underlying78 Try.underlying79 Try.underlying80 Try.underlying81 Try.underlying82 Try.underlying83 Try.underlying84 Try.underlying85 Try.underlying86 Try.underlying87 Try.underlying88 Try.underlying89 Try.underlying90 Try.underlying91 Try.underlying92 Try.underlying93 Try.underlying94 Try.underlying95 Try.underlying96 Try.underlying97 Try.underlying98 Try.underlying99 Try.underlying100 Try.underlying101 Try.underlying102 Try.underlying103 Try.underlying104 Try.underlying105 Try.underlying106 Try.underlying107 Try.underlying108 Try.underlying109 Try.underlying110 Try.underlying111 Try.underlying112 Try.underlying113 Try.underlying114 Try.underlying115 Try.underlying116
theorem Try.enters3 : Enters Try.prog 3 := enters_of Try.func3 rfl (by kernel_rfl)
def badR (r : ReqT) : Prop := r.client < 0 ∨ 3 ≤ r.client ∨ r.seq = 0
theorem applyS_bad {S : StT} {r : ReqT} (h : badR r) : applyS S r = (S, errR 170) := if_pos h
theorem applyS_good {S : StT} {r : ReqT} (h : ¬ badR r) {c : Nat} {q : Int} {R : ReplyT} (hc : r.client = c) (hq : S.seqs[c]? = some q) (hR : S.last[c]? = some R) : applyS S r = if r.seq = q then (S, R) else if r.seq < q then (S, errR 171) else (⟨(doL S.vers r.op).1, S.seqs.set c r.seq, S.last.set c (doL S.vers r.op).2⟩, (doL S.vers r.op).2) := by
  unfold applyS
  rw [if_neg (show ¬ (r.client < 0 ∨ 3 ≤ r.client ∨ r.seq = 0) from h), hc, Int.toNat_natCast, List.getD_eq_getElem?_getD, hq, List.getD_eq_getElem?_getD, hR]; rfl
/-- What is known of a client of a state. -/
theorem client_of {S : StT} (h : S.sm8) {r : ReqT} (hb : ¬ badR r) : ∃ (c : Nat) (q : Int) (R : ReplyT), r.client = c ∧ c < 3 ∧ S.seqs[c]? = some q ∧ S.last[c]? = some R := by
  unfold badR at hb
  obtain ⟨c, hc⟩ := Int.eq_ofNat_of_zero_le (show 0 ≤ r.client by omega)
  obtain ⟨_, h2, h3, _⟩ := h
  exact ⟨c, S.seqs[c]'(by omega), S.last[c]'(by omega), hc, by omega, List.getElem?_eq_getElem _, List.getElem?_eq_getElem _⟩
/-- Behind a request: its client's number, and the reply to it. -/
theorem applyS_done {S : StT} (h : S.sm8) {r : ReqT} (hb : ¬ badR r) {c : Nat} {q : Int} {R : ReplyT} (hc : r.client = c) (h3 : c < 3) (hq : S.seqs[c]? = some q) (hR : S.last[c]? = some R) (hlt : ¬ r.seq < q) :
    (applyS S r).1.seqs[c]? = some r.seq ∧ (applyS S r).1.last[c]? = some (applyS S r).2 := by
  obtain ⟨_, h4, h5, _⟩ := h
  rw [applyS_good hb hc hq hR]
  by_cases he : r.seq = q
  · rw [if_pos he, he]; exact ⟨hq, hR⟩
  · rw [if_neg he, if_neg hlt]
    exact ⟨by rw [List.getElem?_set_self (by omega)], by rw [List.getElem?_set_self (by omega)]⟩
theorem applyS_twice {S : StT} (h : S.sm8) {r : ReqT} (hs : r.op.v.small) : (applyS (applyS S r).1 r).1 = (applyS S r).1 := by
  by_cases hb : badR r
  · rw [applyS_bad hb, applyS_bad hb]
  · obtain ⟨c, q, R, hc, h3, hq, hR⟩ := client_of h hb
    by_cases hlt : r.seq < q
    · have e1 : applyS S r = (S, errR 171) := by rw [applyS_good hb hc hq hR, if_neg (by omega), if_pos hlt]
      rw [e1]; simp only; rw [e1]
    · obtain ⟨a1, a2⟩ := applyS_done h hb hc h3 hq hR hlt
      rw [applyS_good hb hc a1 a2, if_pos rfl]
set_option maxHeartbeats 16000000 in
theorem twice_all (w0 : World) (A : St) (v : Value) (l : List ReqT) (rv : Value) (r : ReqT) (hv : RqA A l v) (hok : (∀ r ∈ l, r.okA) ∧ l.length ≤ maxLen) (hr : ReqV A r rv) (hro : r.okA) : ACalls Try.prog w0 3 #[v, rv] A (fin (.bool true) A) := by
  obtain ⟨rc, rfl, hrc⟩ := hr
  refine call_E Try.enters3 Try.func3 rfl (Nat.le_of_ble_eq_true rfl) fun hw hbd => ?_
  have hrl := hrc.len
  have hrcl := hrc.cell
  have hrtk : rc.take 8 = rc := List.take_of_length_le (by omega)
  obtain ⟨A1, hA1⟩ : ∃ A1, A1 = A.alloc (.cells rc 32 (some 0)) := ⟨_, rfl⟩
  have o1 : Over A A1 := hA1 ▸ (Over.refl A).alloc _
  have g3 : A1.get A.next = some (.cells rc 32 (some 0)) := by rw [hA1]; exact get_alloc_same ..
  have n1 : A1.next = A.next + 1 := by rw [hA1]; rfl
  have hld3 := ldN (e := 32) (m := some 0) hrl
  simp (maxSteps := 1000000) (disch := (first | omega | (simp only [nx_alloc, nx_upd, len_cons, len_nil, List.length_set, List.length_map, List.length_append] <;> omega) | fail)) only [Nat.reduceAdd, Nat.reduceSub, Nat.reduceMul, Nat.reduceLT, Nat.reduceLeDiff, Nat.reduceEqDiff, ↓reduceIte, reduceCtorEq, Int.reduceAdd, Int.reduceSub, Int.reduceMul, Int.reduceLT, Int.reduceLE, Int.reduceEq, Int.reduceNe, Int.reduceToNat, Int.reduceNeg, go_sem, Try.ntmps3, Try.results3]
  rw [← hA1]
  refine call1 (heavyL_ok w0 A1 l v (hv.1.ge o1.ge)) ?_
  cases hh : hvyL l
  rotate_left
  · simp (maxSteps := 1000000) (disch := (first | omega | (simp only [nx_alloc, nx_upd, len_cons, len_nil, List.length_set, List.length_map, List.length_append] <;> omega) | fail)) only [Nat.reduceAdd, Nat.reduceSub, Nat.reduceMul, Nat.reduceLT, Nat.reduceLeDiff, Nat.reduceEqDiff, ↓reduceIte, reduceCtorEq, Int.reduceAdd, Int.reduceSub, Int.reduceMul, Int.reduceLT, Int.reduceLE, Int.reduceEq, Int.reduceNe, Int.reduceToNat, Int.reduceNeg, go_sem, g3]
    refine call1 (shown_ok w0 A1) ?_
    simp (maxSteps := 1000000) (disch := (first | omega | (simp only [nx_alloc, nx_upd, len_cons, len_nil, List.length_set, List.length_map, List.length_append] <;> omega) | fail)) only [Nat.reduceAdd, Nat.reduceSub, Nat.reduceMul, Nat.reduceLT, Nat.reduceLeDiff, Nat.reduceEqDiff, ↓reduceIte, reduceCtorEq, Int.reduceAdd, Int.reduceSub, Int.reduceMul, Int.reduceLT, Int.reduceLE, Int.reduceEq, Int.reduceNe, Int.reduceToNat, Int.reduceNeg, go_sem, Try.results3]
    exact gc_fin' hw o1 rfl (.bool _)
  have hset := set_all [.int .i64 0, .int .u32 0, .int .i64 0, .int .u32 0, .int .u32 0, .slice none 0 0, .slice none 0 0, .slice none 0 0] rc (by rw [hrl]; rfl)
  simp (maxSteps := 1000000) (disch := (first | omega | (simp only [nx_alloc, nx_upd, len_cons, len_nil, List.length_set, List.length_map, List.length_append] <;> omega) | fail)) only [Nat.reduceAdd, Nat.reduceSub, Nat.reduceMul, Nat.reduceLT, Nat.reduceLeDiff, Nat.reduceEqDiff, ↓reduceIte, reduceCtorEq, Int.reduceAdd, Int.reduceSub, Int.reduceMul, Int.reduceLT, Int.reduceLE, Int.reduceEq, Int.reduceNe, Int.reduceToNat, Int.reduceNeg, go_sem, g3, hld3, hrtk, hset]
  obtain ⟨h60, hsm⟩ := hvyL_ok hh
  have hoks := ok_of hok.1 hsm
  obtain ⟨A2, hA2⟩ : ∃ A2, A2 = A1.alloc (.cells rc 32 (some 0)) := ⟨_, rfl⟩
  rw [← hA2]
  have o2 : Over A1 A2 := hA2 ▸ (Over.refl _).alloc _
  have n2 : A2.next = A1.next + 1 := by rw [hA2]; rfl
  have h3 : A2.get A.next = some (.cells rc 32 (some 0)) := by rw [o2.get _ (by omega)]; exact g3
  have hrc2 : ReqC A2 r rc := hrc.ge (o1.trans o2).ge
  refine call1 (heavyL_ok w0 A2 [r] _ (rq_one hrc2 (b := A1.next) (by omega) (by rw [hA2]; exact get_alloc_same ..))) ?_
  cases hh2 : hvyL [r]
  rotate_left
  · simp (maxSteps := 1000000) (disch := (first | omega | (simp only [nx_alloc, nx_upd, len_cons, len_nil, List.length_set, List.length_map, List.length_append] <;> omega) | fail)) only [Nat.reduceAdd, Nat.reduceSub, Nat.reduceMul, Nat.reduceLT, Nat.reduceLeDiff, Nat.reduceEqDiff, ↓reduceIte, reduceCtorEq, Int.reduceAdd, Int.reduceSub, Int.reduceMul, Int.reduceLT, Int.reduceLE, Int.reduceEq, Int.reduceNe, Int.reduceToNat, Int.reduceNeg, go_sem]
    refine call1 (shown_ok w0 A2) ?_
    simp (maxSteps := 1000000) (disch := (first | omega | (simp only [nx_alloc, nx_upd, len_cons, len_nil, List.length_set, List.length_map, List.length_append] <;> omega) | fail)) only [Nat.reduceAdd, Nat.reduceSub, Nat.reduceMul, Nat.reduceLT, Nat.reduceLeDiff, Nat.reduceEqDiff, ↓reduceIte, reduceCtorEq, Int.reduceAdd, Int.reduceSub, Int.reduceMul, Int.reduceLT, Int.reduceLE, Int.reduceEq, Int.reduceNe, Int.reduceToNat, Int.reduceNeg, go_sem, Try.results3]
    exact gc_fin' hw (o1.trans o2) rfl (.bool _)
  obtain ⟨_, hsm2⟩ := hvyL_ok hh2
  have hrok : r.ok := ok_of (l := [r]) (fun x hx => by rw [List.mem_singleton.1 hx]; exact hro) hsm2 r (List.mem_singleton.2 rfl)
  simp (maxSteps := 1000000) (disch := (first | omega | (simp only [nx_alloc, nx_upd, len_cons, len_nil, List.length_set, List.length_map, List.length_append] <;> omega) | fail)) only [Nat.reduceAdd, Nat.reduceSub, Nat.reduceMul, Nat.reduceLT, Nat.reduceLeDiff, Nat.reduceEqDiff, ↓reduceIte, reduceCtorEq, Int.reduceAdd, Int.reduceSub, Int.reduceMul, Int.reduceLT, Int.reduceLE, Int.reduceEq, Int.reduceNe, Int.reduceToNat, Int.reduceNeg, go_sem]
  refine call1 (shown_ok w0 A2) ?_
  simp (maxSteps := 1000000) (disch := (first | omega | (simp only [nx_alloc, nx_upd, len_cons, len_nil, List.length_set, List.length_map, List.length_append] <;> omega) | fail)) only [Nat.reduceAdd, Nat.reduceSub, Nat.reduceMul, Nat.reduceLT, Nat.reduceLeDiff, Nat.reduceEqDiff, ↓reduceIte, reduceCtorEq, Int.reduceAdd, Int.reduceSub, Int.reduceMul, Int.reduceLT, Int.reduceLE, Int.reduceEq, Int.reduceNe, Int.reduceToNat, Int.reduceNeg, go_sem]
  have o02 := o1.trans o2
  clear hA1 hA2
  refine (all_ok w0 A2 [] (fun b hb => by cases hb) l v (hv.1.ge o02.ge) hoks (by omega)).mono ?_
  rintro _ A3 ⟨cs, v2, rfl, o3, hS, _⟩
  change StC A3 _ _ at hS
  have hSl := hS.len
  have n3 := o3.next
  have hcstk : cs.take 22 = cs := List.take_of_length_le (by omega)
  have hlda := ldN (e := 43) (m := some 0) hSl.1
  have hS8 := (allS_sm l hsm).1
  obtain ⟨A4, st1, o4, n4, g5⟩ := one_st A3 hSl
  have k33 : A4.get A.next = some (.cells rc 32 (some 0)) := by rw [o4.get _ (by omega), o3.get _ (by omega)]; exact h3
  have hS4 := hS.ge o4.ge
  have hrc4 := hrc2.ge (o3.trans o4).ge
  simp (maxSteps := 1000000) (disch := (first | omega | (simp only [nx_alloc, nx_upd, len_cons, len_nil, List.length_set, List.length_map, List.length_append] <;> omega) | fail)) only [Nat.reduceAdd, Nat.reduceSub, Nat.reduceMul, Nat.reduceLT, Nat.reduceLeDiff, Nat.reduceEqDiff, ↓reduceIte, reduceCtorEq, Int.reduceAdd, Int.reduceSub, Int.reduceMul, Int.reduceLT, Int.reduceLE, Int.reduceEq, Int.reduceNe, Int.reduceToNat, Int.reduceNeg, go_sem, st1, k33, hld3, hrtk, hcstk, g5, hlda]
  refine (apply_ok w0 A4 [] (fun b hb => by cases hb) (allS l).1 cs r rc hS4 hrc4 hrok (by have := hS8.1; omega)).mono ?_
  rintro _ A5 ⟨ct, xt, rfl, o5, hT, hX⟩
  change StC A5 _ _ at hT
  change RepC A5 _ _ at hX
  have n5 := o5.next
  have hTl := hT.len
  have hXl := hX.len
  have hXc := hX.cell
  obtain ⟨C1, A6, st7, gC1, st8, o6, n6, g7, g8⟩ := two_st A5 hTl hXl hXc
  have o46 := o5.trans o6
  have m3 : A6.get A.next = some (.cells rc 32 (some 0)) := by rw [o46.get _ (by omega)]; exact k33
  have hldt := ldN (e := 43) (m := some 0) hTl.1
  have httk : ct.take 22 = ct := List.take_of_length_le (by omega)
  simp (maxSteps := 1000000) (disch := (first | omega | (simp only [nx_alloc, nx_upd, len_cons, len_nil, List.length_set, List.length_map, List.length_append] <;> omega) | fail)) only [Nat.reduceAdd, Nat.reduceSub, Nat.reduceMul, Nat.reduceLT, Nat.reduceLeDiff, Nat.reduceEqDiff, ↓reduceIte, reduceCtorEq, Int.reduceAdd, Int.reduceSub, Int.reduceMul, Int.reduceLT, Int.reduceLE, Int.reduceEq, Int.reduceNe, Int.reduceToNat, Int.reduceNeg, go_sem, st7, gC1, st8, g7, m3, hld3, hrtk, hldt, httk]
  have hsmT := (applyS_sm hS8 hrok.2.2.2.2).1
  have hsmX := (applyS_sm hS8 hrok.2.2.2.2).2
  refine (apply_ok w0 A6 [] (fun b hb => by cases hb) (applyS (allS l).1 r).1 ct r rc (hT.ge o6.ge) (hrc4.ge o46.ge) hrok (by have := hsmT.1; omega)).mono ?_
  rintro _ A7 ⟨cu, yt, rfl, o7, hU, hY⟩
  change StC A7 _ _ at hU
  change RepC A7 _ _ at hY
  have n7 := o7.next
  have hUl := hU.len
  have hYl := hY.len
  have hYc := hY.cell
  obtain ⟨C2, A8, st9, gC2, st10, o8, n8, g9, g10⟩ := two_st A7 hUl hYl hYc
  have o68 := o7.trans o8
  have q5 : A8.get A3.next = _ := ((o46.trans o68).get _ (by omega)).trans g5
  have q7 : A8.get A5.next = _ := (o68.get _ (by omega)).trans g7
  have q8 : A8.get (A5.next + 1) = _ := (o68.get _ (by omega)).trans g8
  have q3 : A8.get A.next = _ := (o68.get _ (by omega)).trans m3
  have oF : Over A A8 := ((o02.trans o3).trans o4).trans (o46.trans o68)
  have hldu := ldN (e := 43) (m := some 0) hUl.1
  have hutk : cu.take 22 = cu := List.take_of_length_le (by omega)
  have hT8 := hT.ge (o6.trans o68).ge
  have hS48 := hS4.ge (o46.trans o68).ge
  have hX8 := hX.ge (o6.trans o68).ge
  have hY8 := hY.ge o8.ge
  have htw := applyS_twice hS8 (r := r) hrok.2.2.2.2
  simp (maxSteps := 1000000) (disch := (first | omega | (simp only [nx_alloc, nx_upd, len_cons, len_nil, List.length_set, List.length_map, List.length_append] <;> omega) | fail)) only [Nat.reduceAdd, Nat.reduceSub, Nat.reduceMul, Nat.reduceLT, Nat.reduceLeDiff, Nat.reduceEqDiff, ↓reduceIte, reduceCtorEq, Int.reduceAdd, Int.reduceSub, Int.reduceMul, Int.reduceLT, Int.reduceLE, Int.reduceEq, Int.reduceNe, Int.reduceToNat, Int.reduceNeg, go_sem, st9, gC2, st10, g9, q7, hldu, hutk, hldt, httk]
  refine call1 (equal_ok w0 A8 _ _ _ _ (hU.ge o8.ge) hT8 (by rw [htw]; exact hsmT.sm) hsmT.sm) ?_
  rw [htw, eqSt_yes rfl]
  obtain ⟨xw, xvs, rfl, hxid, hxv⟩ := hX
  obtain ⟨yw, yvs, rfl, hyid, hyv⟩ := hY
  obtain ⟨oc, rfl, hoc⟩ := hrc
  have hsq := hrok.1
  have hsq2 := hrok.2.1
  by_cases hbad : badR r
  · have e1 := applyS_bad (S := (allS l).1) hbad
    rw [e1] at hT8 q8
    have hx170 : (errR 170).e = 170 := rfl
    have hfin : (applyS (allS l).1 r).2.e = 170 := by rw [e1]; rfl
    rcases hbad with h | h | h
    · simp (maxSteps := 1000000) (disch := (first | omega | (simp only [nx_alloc, nx_upd, len_cons, len_nil, List.length_set, List.length_map, List.length_append] <;> omega) | fail)) only [Nat.reduceAdd, Nat.reduceSub, Nat.reduceMul, Nat.reduceLT, Nat.reduceLeDiff, Nat.reduceEqDiff, ↓reduceIte, reduceCtorEq, Int.reduceAdd, Int.reduceSub, Int.reduceMul, Int.reduceLT, Int.reduceLE, Int.reduceEq, Int.reduceNe, Int.reduceToNat, Int.reduceNeg, go_sem, q3, q5, q7, q8, h, hfin, hldt, httk, hlda, hcstk]
      refine call1 (equal_ok w0 A8 _ _ _ _ hT8 hS48 hS8.sm hS8.sm) ?_
      rw [eqSt_yes rfl]
      simp (maxSteps := 1000000) (disch := (first | omega | (simp only [nx_alloc, nx_upd, len_cons, len_nil, List.length_set, List.length_map, List.length_append] <;> omega) | fail)) only [Nat.reduceAdd, Nat.reduceSub, Nat.reduceMul, Nat.reduceLT, Nat.reduceLeDiff, Nat.reduceEqDiff, ↓reduceIte, reduceCtorEq, Int.reduceAdd, Int.reduceSub, Int.reduceMul, Int.reduceLT, Int.reduceLE, Int.reduceEq, Int.reduceNe, Int.reduceToNat, Int.reduceNeg, go_sem, Try.results3]
      exact gc_fin' hw oF rfl (.bool _)
    · by_cases h1 : r.client < 0
      · simp (maxSteps := 1000000) (disch := (first | omega | (simp only [nx_alloc, nx_upd, len_cons, len_nil, List.length_set, List.length_map, List.length_append] <;> omega) | fail)) only [Nat.reduceAdd, Nat.reduceSub, Nat.reduceMul, Nat.reduceLT, Nat.reduceLeDiff, Nat.reduceEqDiff, ↓reduceIte, reduceCtorEq, Int.reduceAdd, Int.reduceSub, Int.reduceMul, Int.reduceLT, Int.reduceLE, Int.reduceEq, Int.reduceNe, Int.reduceToNat, Int.reduceNeg, go_sem, q3, q5, q7, q8, h1, hfin, hldt, httk, hlda, hcstk]
        refine call1 (equal_ok w0 A8 _ _ _ _ hT8 hS48 hS8.sm hS8.sm) ?_
        rw [eqSt_yes rfl]
        simp (maxSteps := 1000000) (disch := (first | omega | (simp only [nx_alloc, nx_upd, len_cons, len_nil, List.length_set, List.length_map, List.length_append] <;> omega) | fail)) only [Nat.reduceAdd, Nat.reduceSub, Nat.reduceMul, Nat.reduceLT, Nat.reduceLeDiff, Nat.reduceEqDiff, ↓reduceIte, reduceCtorEq, Int.reduceAdd, Int.reduceSub, Int.reduceMul, Int.reduceLT, Int.reduceLE, Int.reduceEq, Int.reduceNe, Int.reduceToNat, Int.reduceNeg, go_sem, Try.results3]
        exact gc_fin' hw oF rfl (.bool _)
      · have h2 : r.client ≥ 3 := h
        simp (maxSteps := 1000000) (disch := (first | omega | (simp only [nx_alloc, nx_upd, len_cons, len_nil, List.length_set, List.length_map, List.length_append] <;> omega) | fail)) only [Nat.reduceAdd, Nat.reduceSub, Nat.reduceMul, Nat.reduceLT, Nat.reduceLeDiff, Nat.reduceEqDiff, ↓reduceIte, reduceCtorEq, Int.reduceAdd, Int.reduceSub, Int.reduceMul, Int.reduceLT, Int.reduceLE, Int.reduceEq, Int.reduceNe, Int.reduceToNat, Int.reduceNeg, go_sem, q3, q5, q7, q8, h1, h2, hfin, hldt, httk, hlda, hcstk]
        refine call1 (equal_ok w0 A8 _ _ _ _ hT8 hS48 hS8.sm hS8.sm) ?_
        rw [eqSt_yes rfl]
        simp (maxSteps := 1000000) (disch := (first | omega | (simp only [nx_alloc, nx_upd, len_cons, len_nil, List.length_set, List.length_map, List.length_append] <;> omega) | fail)) only [Nat.reduceAdd, Nat.reduceSub, Nat.reduceMul, Nat.reduceLT, Nat.reduceLeDiff, Nat.reduceEqDiff, ↓reduceIte, reduceCtorEq, Int.reduceAdd, Int.reduceSub, Int.reduceMul, Int.reduceLT, Int.reduceLE, Int.reduceEq, Int.reduceNe, Int.reduceToNat, Int.reduceNeg, go_sem, Try.results3]
        exact gc_fin' hw oF rfl (.bool _)
    · by_cases h1 : r.client < 0
      · simp (maxSteps := 1000000) (disch := (first | omega | (simp only [nx_alloc, nx_upd, len_cons, len_nil, List.length_set, List.length_map, List.length_append] <;> omega) | fail)) only [Nat.reduceAdd, Nat.reduceSub, Nat.reduceMul, Nat.reduceLT, Nat.reduceLeDiff, Nat.reduceEqDiff, ↓reduceIte, reduceCtorEq, Int.reduceAdd, Int.reduceSub, Int.reduceMul, Int.reduceLT, Int.reduceLE, Int.reduceEq, Int.reduceNe, Int.reduceToNat, Int.reduceNeg, go_sem, q3, q5, q7, q8, h1, hfin, hldt, httk, hlda, hcstk]
        refine call1 (equal_ok w0 A8 _ _ _ _ hT8 hS48 hS8.sm hS8.sm) ?_
        rw [eqSt_yes rfl]
        simp (maxSteps := 1000000) (disch := (first | omega | (simp only [nx_alloc, nx_upd, len_cons, len_nil, List.length_set, List.length_map, List.length_append] <;> omega) | fail)) only [Nat.reduceAdd, Nat.reduceSub, Nat.reduceMul, Nat.reduceLT, Nat.reduceLeDiff, Nat.reduceEqDiff, ↓reduceIte, reduceCtorEq, Int.reduceAdd, Int.reduceSub, Int.reduceMul, Int.reduceLT, Int.reduceLE, Int.reduceEq, Int.reduceNe, Int.reduceToNat, Int.reduceNeg, go_sem, Try.results3]
        exact gc_fin' hw oF rfl (.bool _)
      by_cases h2 : r.client ≥ 3
      · simp (maxSteps := 1000000) (disch := (first | omega | (simp only [nx_alloc, nx_upd, len_cons, len_nil, List.length_set, List.length_map, List.length_append] <;> omega) | fail)) only [Nat.reduceAdd, Nat.reduceSub, Nat.reduceMul, Nat.reduceLT, Nat.reduceLeDiff, Nat.reduceEqDiff, ↓reduceIte, reduceCtorEq, Int.reduceAdd, Int.reduceSub, Int.reduceMul, Int.reduceLT, Int.reduceLE, Int.reduceEq, Int.reduceNe, Int.reduceToNat, Int.reduceNeg, go_sem, q3, q5, q7, q8, h1, h2, hfin, hldt, httk, hlda, hcstk]
        refine call1 (equal_ok w0 A8 _ _ _ _ hT8 hS48 hS8.sm hS8.sm) ?_
        rw [eqSt_yes rfl]
        simp (maxSteps := 1000000) (disch := (first | omega | (simp only [nx_alloc, nx_upd, len_cons, len_nil, List.length_set, List.length_map, List.length_append] <;> omega) | fail)) only [Nat.reduceAdd, Nat.reduceSub, Nat.reduceMul, Nat.reduceLT, Nat.reduceLeDiff, Nat.reduceEqDiff, ↓reduceIte, reduceCtorEq, Int.reduceAdd, Int.reduceSub, Int.reduceMul, Int.reduceLT, Int.reduceLE, Int.reduceEq, Int.reduceNe, Int.reduceToNat, Int.reduceNeg, go_sem, Try.results3]
        exact gc_fin' hw oF rfl (.bool _)
      simp (maxSteps := 1000000) (disch := (first | omega | (simp only [nx_alloc, nx_upd, len_cons, len_nil, List.length_set, List.length_map, List.length_append] <;> omega) | fail)) only [Nat.reduceAdd, Nat.reduceSub, Nat.reduceMul, Nat.reduceLT, Nat.reduceLeDiff, Nat.reduceEqDiff, ↓reduceIte, reduceCtorEq, Int.reduceAdd, Int.reduceSub, Int.reduceMul, Int.reduceLT, Int.reduceLE, Int.reduceEq, Int.reduceNe, Int.reduceToNat, Int.reduceNeg, go_sem, q3, q5, q7, q8, h1, h2, h, hfin, hldt, httk, hlda, hcstk]
      refine call1 (equal_ok w0 A8 _ _ _ _ hT8 hS48 hS8.sm hS8.sm) ?_
      rw [eqSt_yes rfl]
      simp (maxSteps := 1000000) (disch := (first | omega | (simp only [nx_alloc, nx_upd, len_cons, len_nil, List.length_set, List.length_map, List.length_append] <;> omega) | fail)) only [Nat.reduceAdd, Nat.reduceSub, Nat.reduceMul, Nat.reduceLT, Nat.reduceLeDiff, Nat.reduceEqDiff, ↓reduceIte, reduceCtorEq, Int.reduceAdd, Int.reduceSub, Int.reduceMul, Int.reduceLT, Int.reduceLE, Int.reduceEq, Int.reduceNe, Int.reduceToNat, Int.reduceNeg, go_sem, Try.results3]
      exact gc_fin' hw oF rfl (.bool _)
  have h1 : ¬ r.client < 0 := fun h => hbad (.inl h)
  have h2 : ¬ r.client ≥ 3 := fun h => hbad (.inr (.inl h))
  have h3 : ¬ r.seq = 0 := fun h => hbad (.inr (.inr h))
  obtain ⟨c, q, R, hc, hc3, hq, hR⟩ := client_of hS8 hbad
  obtain ⟨qq, _, _, eq1, _, eq3, _, _⟩ := hS4.at hc3
  rw [hq] at eq1; cases eq1
  simp (maxSteps := 1000000) (disch := (first | omega | (simp only [nx_alloc, nx_upd, len_cons, len_nil, List.length_set, List.length_map, List.length_append] <;> omega) | fail)) only [Nat.reduceAdd, Nat.reduceSub, Nat.reduceMul, Nat.reduceLT, Nat.reduceLeDiff, Nat.reduceEqDiff, ↓reduceIte, reduceCtorEq, Int.reduceAdd, Int.reduceSub, Int.reduceMul, Int.reduceLT, Int.reduceLE, Int.reduceEq, Int.reduceNe, Int.reduceToNat, Int.reduceNeg, go_sem, q3, h1, h2, h3]
  refine aw_draw2 [⟨false, [], [0]⟩, ⟨false, [0], [0]⟩, ⟨false, [], [0]⟩, ⟨false, [2], [0]⟩, ⟨false, [], [0]⟩, ⟨false, [2, 3, 4], [0]⟩, ⟨false, [2, 3, 4, 5], [0]⟩, ⟨false, [0, 1, 2, 3, 4, 5, 6], [0]⟩] [A8] 0 (by kernel_rfl) (by kernel_rfl) rfl ?_
  simp (maxSteps := 1000000) (disch := (first | omega | (simp only [nx_alloc, nx_upd, len_cons, len_nil, List.length_set, List.length_map, List.length_append] <;> omega) | fail)) only [Nat.reduceAdd, Nat.reduceSub, Nat.reduceMul, Nat.reduceLT, Nat.reduceLeDiff, Nat.reduceEqDiff, ↓reduceIte, reduceCtorEq, Int.reduceAdd, Int.reduceSub, Int.reduceMul, Int.reduceLT, Int.reduceLE, Int.reduceEq, Int.reduceNe, Int.reduceToNat, Int.reduceNeg, go_sem, q3, q5, hc, eq3]
  by_cases hlt : r.seq < q
  · have e1 : applyS (allS l).1 r = ((allS l).1, errR 171) := by rw [applyS_good hbad hc hq hR, if_neg (by omega), if_pos hlt]
    have hfin : (applyS (allS l).1 r).2.e = 171 := by rw [e1]; rfl
    have hfin2 : (applyS (applyS (allS l).1 r).1 r).2.e = 171 := by rw [e1]; simp only; rw [e1]; rfl
    rw [e1] at hT8
    simp (maxSteps := 1000000) (disch := (first | omega | (simp only [nx_alloc, nx_upd, len_cons, len_nil, List.length_set, List.length_map, List.length_append] <;> omega) | fail)) only [Nat.reduceAdd, Nat.reduceSub, Nat.reduceMul, Nat.reduceLT, Nat.reduceLeDiff, Nat.reduceEqDiff, ↓reduceIte, reduceCtorEq, Int.reduceAdd, Int.reduceSub, Int.reduceMul, Int.reduceLT, Int.reduceLE, Int.reduceEq, Int.reduceNe, Int.reduceToNat, Int.reduceNeg, go_sem, q5, q7, q8, g10, hlt, hfin, hfin2, hldt, httk, hlda, hcstk]
    refine call1 (equal_ok w0 A8 _ _ _ _ hT8 hS48 hS8.sm hS8.sm) ?_
    rw [eqSt_yes rfl]
    simp (maxSteps := 1000000) (disch := (first | omega | (simp only [nx_alloc, nx_upd, len_cons, len_nil, List.length_set, List.length_map, List.length_append] <;> omega) | fail)) only [Nat.reduceAdd, Nat.reduceSub, Nat.reduceMul, Nat.reduceLT, Nat.reduceLeDiff, Nat.reduceEqDiff, ↓reduceIte, reduceCtorEq, Int.reduceAdd, Int.reduceSub, Int.reduceMul, Int.reduceLT, Int.reduceLE, Int.reduceEq, Int.reduceNe, Int.reduceToNat, Int.reduceNeg, go_sem, Try.results3]
    exact gc_fin' hw oF rfl (.bool _)
  have hocl := hoc.len
  have hoctk : oc.take 6 = oc := List.take_of_length_le (by omega)
  have hocc := hoc.cell
  have st11 := stN (n := 8) (X := A8.alloc (.cells [.int .i64 0, .int .u32 0, .int .i64 0, .int .u32 0, .int .u32 0, .slice none 0 0, .slice none 0 0, .slice none 0 0] 32 (some 0))) (b := A8.next) (z := [.int .i64 0, .int .u32 0, .int .i64 0, .int .u32 0, .int .u32 0, .slice none 0 0, .slice none 0 0, .slice none 0 0]) (e := 32) rfl hrl hrcl
  obtain ⟨A9, hA9⟩ : ∃ A9, A9 = ((A8.alloc (.cells [.int .i64 0, .int .u32 0, .int .i64 0, .int .u32 0, .int .u32 0, .slice none 0 0, .slice none 0 0, .slice none 0 0] 32 (some 0))).upd A8.next (some (.cells (.int .i64 r.client :: .int .u32 r.seq :: oc) 32 (some 0)))).upd A8.next (some (.cells (.int .i64 r.client :: .int .u32 (r.seq - 1) :: oc) 32 (some 0))) := ⟨_, rfl⟩
  have o9 : Over A8 A9 := hA9 ▸ (((Over.refl A8).alloc _).upd (Nat.le_refl _) _).upd (Nat.le_refl _) _
  have n9 : A9.next = A8.next + 1 := by rw [hA9]; rfl
  have q11 : A9.get A8.next = some (.cells (.int .i64 r.client :: .int .u32 (r.seq - 1) :: oc) 32 (some 0)) := by rw [hA9, get_upd_same]
  have q7' : A9.get A5.next = _ := (o9.get _ (by omega)).trans q7
  simp (maxSteps := 1000000) (disch := (first | omega | (simp only [nx_alloc, nx_upd, len_cons, len_nil, List.length_set, List.length_map, List.length_append] <;> omega) | fail)) only [Nat.reduceAdd, Nat.reduceSub, Nat.reduceMul, Nat.reduceLT, Nat.reduceLeDiff, Nat.reduceEqDiff, ↓reduceIte, reduceCtorEq, Int.reduceAdd, Int.reduceSub, Int.reduceMul, Int.reduceLT, Int.reduceLE, Int.reduceEq, Int.reduceNe, Int.reduceToNat, Int.reduceNeg, go_sem, q3, hlt, hoctk, st11, q7, hldt, httk]
  rw [← hA9]
  have hro : (⟨r.client, r.seq - 1, r.op⟩ : ReqT).ok := ⟨by simp only; omega, by simp only; omega, hrok.2.2⟩
  have hrc9 : ReqC A9 ⟨r.client, r.seq - 1, r.op⟩ (.int .i64 r.client :: .int .u32 (r.seq - 1) :: oc) := ⟨oc, rfl, hoc.ge (((o02.trans o3).trans o4).trans ((o46.trans o68).trans o9)).ge⟩
  refine (apply_ok w0 A9 [] (fun b hb => by cases hb) (applyS (allS l).1 r).1 ct _ _ (hT8.ge o9.ge) hrc9 hro (by have := hsmT.1; omega)).mono ?_
  rintro _ A10 ⟨cv, zt, rfl, o10, hV, hZ⟩
  change StC A10 _ _ at hV
  change RepC A10 _ _ at hZ
  have n10 := o10.next
  have hVl := hV.len
  have hZl := hZ.len
  have hZc := hZ.cell
  obtain ⟨C3, A11, st12, gC3, st13, o11, n11, g12, g13⟩ := two_st A10 hVl hZl hZc
  have o811 := (o9.trans o10).trans o11
  have r7 : A11.get A5.next = _ := (o811.get _ (by omega)).trans q7
  have r8 : A11.get (A5.next + 1) = _ := (o811.get _ (by omega)).trans q8
  have r3 : A11.get A.next = _ := (o811.get _ (by omega)).trans q3
  have r10 : A11.get (A7.next + 1) = _ := (o811.get _ (by omega)).trans g10
  have r11 : A11.get A8.next = _ := ((o10.trans o11).get _ (by omega)).trans q11
  simp (maxSteps := 1000000) (disch := (first | omega | (simp only [nx_alloc, nx_upd, len_cons, len_nil, List.length_set, List.length_map, List.length_append] <;> omega) | fail)) only [Nat.reduceAdd, Nat.reduceSub, Nat.reduceMul, Nat.reduceLT, Nat.reduceLeDiff, Nat.reduceEqDiff, ↓reduceIte, reduceCtorEq, Int.reduceAdd, Int.reduceSub, Int.reduceMul, Int.reduceLT, Int.reduceLE, Int.reduceEq, Int.reduceNe, Int.reduceToNat, Int.reduceNeg, go_sem, st12, gC3, st13]
  refine aw_draw2 [⟨false, [], [0]⟩, ⟨false, [], [0]⟩, ⟨false, [0, 1], [0]⟩, ⟨false, [0, 1, 2], [0]⟩, ⟨false, [0, 1, 2, 3], [0]⟩, ⟨false, [0, 1, 2, 3, 4], [0]⟩, ⟨false, [0, 1, 2, 3], [0]⟩, ⟨false, [0, 1, 2, 3, 4, 5, 6], [0]⟩, ⟨false, [0, 1, 2, 3, 4, 5, 6, 7], [0]⟩, ⟨false, [0, 1, 2, 3], [0]⟩, ⟨false, [0, 1, 2, 3, 9], [0]⟩, ⟨false, [0, 1, 2, 3, 4, 5, 6, 7, 8, 9, 10], [0]⟩, ⟨false, [0, 1, 2, 3, 4, 5, 6, 7, 8, 9, 10, 11], [0]⟩, ⟨false, [0, 1, 2, 3, 4, 5, 6, 7, 8, 9, 10, 11, 12], [0]⟩, ⟨false, [0, 1, 2, 3, 4, 5, 6, 7, 8, 9, 10, 11, 12, 13], [0]⟩, ⟨false, [0, 1, 2, 3, 4, 5, 6, 7, 8, 9, 10, 11, 12, 13, 14], [0]⟩, ⟨false, [0, 1, 2, 3, 4, 5, 6, 7, 8, 9, 10, 11, 12, 13, 14, 15], [0]⟩, ⟨false, [0, 1, 2, 3, 4, 5, 6, 7, 8, 9, 10, 11, 12, 13, 14, 15, 16], [0]⟩, ⟨false, [0, 1, 2, 3, 4, 5, 6, 7, 8, 9, 10, 11, 12, 13, 14, 15, 16, 17], [0]⟩, ⟨false, [0, 1, 2, 3, 4, 5, 6, 7, 8, 9, 10, 11, 12, 13, 14, 15, 16, 17, 18], [0]⟩, ⟨false, [0, 1, 2, 3, 4, 5, 6, 7, 8, 9, 10, 11, 12, 13, 14, 15, 16, 17, 18, 19], [0]⟩, ⟨false, [0, 1, 2, 3, 4, 5, 6, 7, 8, 9, 10, 11, 12, 13, 14, 15, 16, 17, 18, 19, 20], [0]⟩, ⟨false, [0, 1, 2, 3, 4, 5, 6, 7, 8, 9, 10, 11, 12, 13, 14, 15, 16, 17, 18, 19, 20, 21], [0]⟩, ⟨false, [0, 1, 2, 3, 4, 5, 6, 7, 8, 9, 10, 11, 12, 13, 14, 15, 16, 17, 18, 19, 20, 21, 22], [0]⟩, ⟨false, [0, 1, 2, 3, 4, 5, 6, 7, 8, 9, 10, 11, 12, 13, 14, 15, 16, 17, 18, 19, 20, 21, 22, 23], [0]⟩, ⟨false, [0, 1, 2, 3, 4, 5, 6, 7, 8, 9, 10, 11, 12, 13, 14, 15, 16, 17, 18, 19, 20, 21, 22, 23, 24], [0]⟩, ⟨false, [0, 1, 2, 3, 4, 5, 6, 7, 8, 9, 10, 11, 12, 13, 14, 15, 16, 17, 18, 19, 20, 21, 22, 23, 24, 25], [0]⟩, ⟨false, [0, 1, 2, 3, 4, 5, 6, 7, 8, 9, 10, 11, 12, 13, 14, 15, 16, 17, 18, 19, 20, 21, 22, 23, 24, 25, 26], [0]⟩, ⟨false, [0, 1, 2, 3, 4, 5, 6, 7, 8, 9, 10, 11, 12, 13, 14, 15, 16, 17, 18, 19, 20, 21, 22, 23, 24, 25, 26, 27], [0]⟩, ⟨false, [0, 1, 2, 3, 4, 5, 6, 7, 8, 9, 10, 11, 12, 13, 14, 15, 16, 17, 18, 19, 20, 21, 22, 23, 24, 25, 26, 27, 28], [0]⟩, ⟨false, [0, 1, 2, 3, 4, 5, 6, 7, 8, 9, 10, 11, 12, 13, 14, 15, 16, 17, 18, 19, 20, 21, 22, 23, 24, 25, 26, 27, 28, 29], [0]⟩, ⟨false, [0, 1, 2, 3, 4, 5, 6, 7, 8, 9, 10, 11, 12, 13, 14, 15, 16, 17, 18, 19, 20, 21, 22, 23, 24, 25, 26, 27, 28, 29, 30], [0]⟩, ⟨false, [0, 1, 2, 3, 4, 5, 6, 7, 8, 9, 10, 11, 12, 13, 14, 15, 16, 17, 18, 19, 20, 21, 22, 23, 24, 25, 26, 27, 28, 29, 30, 31], [0]⟩, ⟨false, [0, 1, 2, 3, 4, 5, 6, 7, 8, 9, 10, 11, 12, 13, 14, 15, 16, 17, 18, 19, 20, 21, 22, 23, 24, 25, 26, 27, 28, 29, 30, 31, 32], [0]⟩] [A11] 0 (by kernel_rfl) (by kernel_rfl) rfl ?_
  have ldx := ldN (e := 40) (m := some 0) hXl
  have ldy := ldN (e := 40) (m := some 0) hYl
  have xtk : xvs.take 4 = xvs := List.take_of_length_le (by simp at hXl; omega)
  have ytk : yvs.take 4 = yvs := List.take_of_length_le (by simp at hYl; omega)
  obtain ⟨d1, d2⟩ := applyS_done hS8 hbad hc hc3 hq hR hlt
  have hyx : applyS (applyS (allS l).1 r).1 r = ((applyS (allS l).1 r).1, (applyS (allS l).1 r).2) := by rw [applyS_good hbad hc d1 d2, if_pos rfl]
  have hyx2 : (applyS (applyS (allS l).1 r).1 r).2 = (applyS (allS l).1 r).2 := by rw [hyx]
  obtain ⟨q', _, _, eq1, _, eq4, _, _⟩ := hT8.at hc3
  rw [d1] at eq1; cases eq1
  simp (maxSteps := 1000000) (disch := (first | omega | (simp only [nx_alloc, nx_upd, len_cons, len_nil, List.length_set, List.length_map, List.length_append] <;> omega) | fail)) only [Nat.reduceAdd, Nat.reduceSub, Nat.reduceMul, Nat.reduceLT, Nat.reduceLeDiff, Nat.reduceEqDiff, ↓reduceIte, reduceCtorEq, Int.reduceAdd, Int.reduceSub, Int.reduceMul, Int.reduceLT, Int.reduceLE, Int.reduceEq, Int.reduceNe, Int.reduceToNat, Int.reduceNeg, go_sem, r8, r10, ldx, ldy, xtk, ytk]
  refine ⟨_, rsame17_ok w0 A11 _ _ _ _ (hX8.ge o811.ge) (hY8.ge o811.ge) hsmX.1 (by rw [hyx2]; exact hsmX.1) (by have := hsmX.2; omega), ?_⟩
  rw [hyx2, sameR_self]
  by_cases hz : r.seq - 1 = 0
  · have hzb : badR ⟨r.client, r.seq - 1, r.op⟩ := .inr (.inr hz)
    have hz170 : (applyS (applyS (allS l).1 r).1 ⟨r.client, r.seq - 1, r.op⟩).2.e = 170 := by rw [applyS_bad hzb]; rfl
    obtain ⟨zw, zvs, rfl, _, _⟩ := hZ
    rw [hz170] at g13
    simp (maxSteps := 1000000) (disch := (first | omega | (simp only [nx_alloc, nx_upd, len_cons, len_nil, List.length_set, List.length_map, List.length_append] <;> omega) | fail)) only [Nat.reduceAdd, Nat.reduceSub, Nat.reduceMul, Nat.reduceLT, Nat.reduceLeDiff, Nat.reduceEqDiff, ↓reduceIte, reduceCtorEq, Int.reduceAdd, Int.reduceSub, Int.reduceMul, Int.reduceLT, Int.reduceLE, Int.reduceEq, Int.reduceNe, Int.reduceToNat, Int.reduceNeg, go_sem, r3, r7, r11, g13, hc, eq4, hz, Try.results3]
    exact gc_fin' hw (oF.trans o811) rfl (.bool _)
  · have hzb : ¬ badR ⟨r.client, r.seq - 1, r.op⟩ := by
      rintro (h | h | h)
      · exact h1 h
      · exact h2 h
      · exact hz h
    have hz171 : (applyS (applyS (allS l).1 r).1 ⟨r.client, r.seq - 1, r.op⟩).2.e = 171 := by
      rw [applyS_good hzb hc d1 d2, if_neg (by simp only; omega), if_pos (by simp only; omega)]; rfl
    have hz0 : 0 < r.seq - 1 := by omega
    have hz0' : r.seq - 1 > 0 := by omega
    obtain ⟨zw, zvs, rfl, _, _⟩ := hZ
    rw [hz171] at g13
    simp (maxSteps := 1000000) (disch := (first | omega | (simp only [nx_alloc, nx_upd, len_cons, len_nil, List.length_set, List.length_map, List.length_append] <;> omega) | fail)) only [Nat.reduceAdd, Nat.reduceSub, Nat.reduceMul, Nat.reduceLT, Nat.reduceLeDiff, Nat.reduceEqDiff, ↓reduceIte, reduceCtorEq, Int.reduceAdd, Int.reduceSub, Int.reduceMul, Int.reduceLT, Int.reduceLE, Int.reduceEq, Int.reduceNe, Int.reduceToNat, Int.reduceNeg, go_sem, r3, r7, r11, g13, hc, eq4, hz, hz0, hz0', Try.results3]
    exact gc_fin' hw (oF.trans o811) rfl (.bool _)
end Go.Fw
