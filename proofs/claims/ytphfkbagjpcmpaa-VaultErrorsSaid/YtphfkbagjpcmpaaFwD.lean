import Derived.Test.YtphfkbagjpcmpaaFwVault10
import Derived.Test.YtphfkbagjpcmpaaFwA
set_option linter.unusedSimpArgs false
set_option linter.unusedVariables false
namespace Go.Fw
open Go.Proofs Go.RowKit
attribute [local go_sem] List.length_cons List.length_nil Nat.zero_add Nat.add_zero Nat.zero_mul Nat.mul_one Int.toNat_zero Int.toNat_natCast List.map_cons List.map_nil List.map_toArray List.toList_toArray List.append_toArray List.append_eq List.nil_append List.cons_append List.append_nil List.all_toArray List.all_cons List.all_nil Bool.and_true Bool.true_and Bool.and_self List.getElem?_toArray List.getElem?_cons_zero List.getElem?_cons_succ List.set_cons_zero List.set_cons_succ List.drop_zero List.drop_succ_cons List.take_zero List.take_succ_cons Option.bind_some Option.map_some id true_and and_true and_self St.next_alloc St.next_upd beq_self_eq_true Bool.not_true Bool.not_false Bool.false_eq_true false_implies true_implies Option.isNone_none Option.isNone_some Option.isSome_none Option.isSome_some ge_iff_le gt_iff_lt Nat.sub_zero Nat.add_assoc IntWalk.i64_in IntWalk.u64_in IntWalk.u8_in IntWalk.u32_in IntWalk.i32_in IntWalk.u16_in dec_not Bool.not_eq_true decide_true decide_false ne_eq not_true_eq_false not_false_eq_true Bool.true_or Bool.or_true Bool.or_false Bool.false_or Bool.and_false Bool.false_and upd_apply rd_eq ar_zero ar_succ ar_nil tm_size tm_getD tm_set E_tmps E_defers put_E put_none eval_tmp eval_const eval_func setArgs_0 setArgs_1 setArgs_2 append_lit stepV_some stepA_some guardO_true ifB_true ifB_false wantV_true wantV_false wantV_dec_t wantV_dec_f ifB_dec_t ifB_dec_f condV_bool dec_and dec_or isB_bool someB_t someB_f okO_tmp okO_func okO_int okO_bool okO_string okO_ptr0 okO_slice0 okO_nilFunc okO_nilIface okO_map0 okO_agg wanted_none wanted_some lookT_some aopsL_nil aopsL_cons wpA_skip wpA_label wpA_exit wpA_goto wpA_ret wpA_seq wpA_block wpA_region wpA_cond wpA_loop wpA_rangeFunc wpA_draw thenQ_normal thenQ_exit thenQ_ret thenQ_panic blockQ_normal blockQ_ret blockQ_panic blockQ_exit funQ_ret funQ_normal funQ_panic op_move op_assign pickV_or pickV_and pickV_t pickV_f pickV_true pickV_false op_pick allocV_some op_alloc op_box op_load op_nilCheck op_bin op_lookup bptr btype op_un op_convert op_makeInterface op_makeSlice op_fieldAddr op_field op_indexAddr op_index op_extract op_typeAssert storeV_some op_store op_makeMap op_mapUpdate op_slice00 op_slice10 op_slice01 op_slice11 op_slice111 op_slice011 op_makeFunc callV_true op_call op_builtin panicV_iface op_panic ACallV_func ACallF_false ACallF_true ACallV_yield afterCall_returned afterCall_panicked bin_add bin_sub bin_mul bin_and bin_or bin_xor bin_andNot bin_eql bin_neq bin_lss bin_leq bin_gtr bin_geq mval_some mval_none lookup_map lookU_map lookK_smap mapSet_map msetU_map msetK_int conv_to conv_from unsT_cells unsF_cells bin_same bin_nil bdata_nil bdata_some builtin_data builtin_str bin_quo bin_rem bin_shl bin_shr bin_sadd bin_seql bin_sneq bin_slss uB_bool bin_beql bin_bneq uP_pointer bin_peql bin_pneq uS_slice bin_leql bin_lneq bin_ieql bin_ineq un_neg un_xor un_not nilCheck_ptr nilCheck_func nilCheck_yield load_ptr loadC_one loadC_agg store_ptr slice_eq sliceU_string sliceU_slice sliceU_array sliceS_eq boundsS_some sliceL_eq boundsL_nil boundsL_exact boundsL_least boundsL_own boundsL_ownN bounds_11 bounds_10 bounds_01 bounds_00 builtin_len len_string len_array len_slice builtin_append builtin_copy pairA_some builtin_min builtin_max min_two max_two index_eq index_string index_array indexAddr_eq indexAddr_array indexAddr_slice fieldAddr_eq posO_some fAddr_some fieldAddr_struct partC_some field_eq field_struct part_eq partU_one partU_agg extract_tuple conv_eq conv_int conv_string u8O_u8 conv_bytes conv_text_nil conv_text_zero conv_text mkIface_eq get_upd_same consO_some finR_0 finR_1 finR_2 aresL_nil aresL_cons ares1_tmp ares1_cell retV_some aleave_nil aleave_coll bnd_int bnd_bool bnd_string bnd_nilIface bnd_slice0 bnd_iface bnd_slice bnd_ptr bnd_ptr0 bndL_nil bndL_cons bndA_lit bnd_tuple bnd_agg calm_same skipC_eq aopsC_nil aopsC_cons stepC_call stepC_move stepC_assign stepC_pick stepC_alloc stepC_box stepC_build stepC_buildSlice stepC_load stepC_store stepC_nilCheck stepC_binOp stepC_unOp stepC_convert stepC_makeInterface stepC_makeFunc stepC_makeSlice stepC_slice stepC_fieldAddr stepC_field stepC_indexAddr stepC_index stepC_extract stepC_typeAssert stepC_lookup stepC_mapUpdate stepC_makeMap stepC_builtin to_same sameA_eq aopsX_nil aopsX_cons stepX_heavy stepX_light lightK_eq allC_nil allC_cons hs_zero hs_succ stepT_call pure_call stepT_move pure_move stepT_assign pure_assign stepT_pick pure_pick stepT_alloc pure_alloc stepT_box pure_box stepT_build pure_build stepT_buildSlice pure_buildSlice stepT_load pure_load stepT_store pure_store stepT_nilCheck pure_nilCheck stepT_binOp pure_binOp stepT_unOp pure_unOp stepT_convert pure_convert stepT_makeInterface pure_makeInterface stepT_makeFunc pure_makeFunc stepT_makeSlice pure_makeSlice stepT_slice pure_slice stepT_fieldAddr pure_fieldAddr stepT_field pure_field stepT_indexAddr pure_indexAddr stepT_index pure_index stepT_extract pure_extract stepT_typeAssert pure_typeAssert stepT_lookup pure_lookup stepT_mapUpdate pure_mapUpdate stepT_makeMap pure_makeMap stepT_builtin pure_b_len pure_b_append pure_b_copy pure_b_min pure_b_max pure_b_unsafeSliceData pure_b_unsafeString leaveK_eq aleave_fn op_defer deferV_func resK_some defQ_ret defQ_normal storeC_int storeC_bool storeC_string storeC_slice storeC_func storeC_pointer len_cons len_nil cells_int cells_bool cells_string cells_slice cells_pointer cells_func cells_map cells_nilFunc cells_agg cell1_bool cell1_string cell1_slice cell1_pointer cell1_func cell1_i cell1_map cell1_nilFunc setList_nil setList_cons storeC_aggS fillP_nil fillP_cons fillAt_1 fillAt_n aggO_some sliceO_some places_0 places_s zerosR_0 zerosR_s thenElse_true evP_nil evP_cons okP_nil okP_cons op_buildL op_buildSliceL isBu_t isBu_f mk_E get_alloc_old get_alloc_new get_upd_old Try.agg1 Try.sz1 Try.byt1 Try.zero1 Try.agg2 Try.sz2 Try.byt2 Try.zero2 Try.agg3 Try.sz3 Try.byt3 Try.zero3 Try.agg4 Try.sz4 Try.byt4 Try.zero4 Try.agg5 Try.sz5 Try.byt5 Try.zero5 Try.agg6 Try.sz6 Try.byt6 Try.zero6 Try.agg7 Try.sz7 Try.byt7 Try.zero7 Try.agg8 Try.sz8 Try.byt8 Try.zero8 Try.agg9 Try.sz9 Try.byt9 Try.zero9 Try.agg10 Try.sz10 Try.byt10 Try.zero10 Try.agg11 Try.sz11 Try.byt11 Try.zero11 Try.agg12 Try.sz12 Try.byt12 Try.zero12 Try.agg13 Try.sz13 Try.byt13 Try.zero13 Try.agg14 Try.sz14 Try.byt14 Try.zero14 Try.agg15 Try.sz15 Try.byt15 Try.zero15 Try.agg16 Try.sz16 Try.byt16 Try.zero16 Try.agg17 Try.sz17 Try.byt17 Try.zero17 Try.agg18 Try.sz18 Try.byt18 Try.zero18 Try.agg19 Try.sz19 Try.byt19 Try.zero19 Try.agg20 Try.sz20 Try.byt20 Try.zero20 Try.agg21 Try.sz21 Try.byt21 Try.zero21 Try.agg22 Try.sz22 Try.byt22 Try.el22 Try.zero22 Try.agg23 Try.sz23 Try.byt23 Try.zero23 Try.agg24 Try.sz24 Try.byt24 Try.el24 Try.zero24 Try.agg25 Try.sz25 Try.byt25 Try.el25 Try.zero25 Try.agg26 Try.sz26 Try.byt26 Try.el26 Try.zero26 Try.agg27 Try.sz27 Try.byt27 Try.zero27 Try.agg28 Try.sz28 Try.byt28 Try.zero28 Try.agg29 Try.sz29 Try.byt29 Try.zero29 Try.agg30 Try.sz30 Try.byt30 Try.zero30 Try.agg31 Try.sz31 Try.byt31 Try.zero31 Try.agg32 Try.sz32 Try.byt32 Try.zero32 Try.agg33 Try.sz33 Try.byt33 Try.zero33 Try.agg34 Try.sz34 Try.byt34 Try.zero34 Try.agg35 Try.sz35 Try.byt35 Try.el35 Try.zero35 Try.agg36 Try.sz36 Try.byt36 Try.zero36 Try.agg37 Try.sz37 Try.byt37 Try.zero37 Try.agg38 Try.sz38 Try.byt38 Try.el38 Try.zero38 Try.agg39 Try.sz39 Try.byt39 Try.zero39 Try.agg40 Try.sz40 Try.byt40 Try.zero40 Try.agg41 Try.sz41 Try.byt41 Try.zero41 Try.agg42 Try.sz42 Try.byt42 Try.zero42 Try.agg43 Try.sz43 Try.byt43 Try.zero43 Try.agg44 Try.sz44 Try.byt44 Try.el44 Try.zero44 Try.agg46 Try.sz46 Try.byt46 Try.zero46 Try.agg48 Try.sz48 Try.byt48 Try.zero48 Try.agg49 Try.sz49 Try.byt49 Try.zero49 Try.agg50 Try.sz50 Try.byt50 Try.zero50 Try.agg51 Try.sz51 Try.byt51 Try.zero51 Try.agg52 Try.sz52 Try.byt52 Try.zero52 Try.agg53 Try.sz53 Try.byt53 Try.zero53 Try.agg54 Try.sz54 Try.byt54 Try.zero54 Try.agg55 Try.sz55 Try.byt55 Try.el55 Try.zero55 Try.agg56 Try.sz56 Try.byt56 Try.zero56 Try.agg57 Try.sz57 Try.byt57 Try.zero57 Try.agg58 Try.sz58 Try.byt58 Try.zero58 Try.agg59 Try.sz59 Try.byt59 Try.zero59 Try.agg60 Try.sz60 Try.byt60 Try.zero60 Try.agg61 Try.sz61 Try.byt61 Try.zero61 Try.agg62 Try.sz62 Try.byt62 Try.zero62 Try.agg64 Try.sz64 Try.byt64 Try.zero64 Try.agg65 Try.sz65 Try.byt65 Try.zero65 Try.agg66 Try.sz66 Try.byt66 Try.zero66 Try.agg68 Try.sz68 Try.byt68 Try.zero68 Try.agg69 Try.sz69 Try.byt69 Try.zero69 Try.agg71 Try.sz71 Try.byt71 Try.zero71 Try.agg72 Try.sz72 Try.byt72 Try.zero72 Try.agg73 Try.sz73 Try.byt73 Try.zero73 Try.agg74 Try.sz74 Try.byt74 Try.zero74 Try.agg75 Try.sz75 Try.byt75 Try.zero75 Try.agg76 Try.sz76 Try.byt76 Try.zero76 Try.agg77 Try.sz77 Try.byt77 Try.zero77 Try.agg78 Try.sz78 Try.byt78 Try.zero78 Try.agg79 Try.sz79 Try.byt79 Try.zero79 Try.agg80 Try.sz80 Try.byt80 Try.zero80 Try.agg81 Try.sz81 Try.byt81 Try.zero81 Try.agg82 Try.sz82 Try.byt82 Try.zero82 Try.agg83 Try.sz83 Try.byt83 Try.zero83 Try.agg84 Try.sz84 Try.byt84 Try.zero84 Try.agg85 Try.sz85 Try.byt85 Try.zero85 Try.agg86 Try.sz86 Try.byt86 Try.zero86 Try.agg87 Try.sz87 Try.byt87 Try.zero87 Try.agg88 Try.sz88 Try.byt88 Try.zero88 Try.agg89 Try.sz89 Try.byt89 Try.el89 Try.zero89 Try.agg90 Try.sz90 Try.byt90 Try.zero90 Try.agg91 Try.sz91 Try.byt91 Try.zero91 Try.agg92 Try.sz92 Try.byt92 Try.zero92 Try.agg93 Try.sz93 Try.byt93 Try.zero93 Try.agg94 Try.sz94 Try.byt94 Try.zero94 Try.agg95 Try.sz95 Try.byt95 Try.zero95 Try.agg96 Try.sz96 Try.byt96 Try.zero96 Try.agg97 Try.sz97 Try.byt97 Try.zero97 Try.agg98 Try.sz98 Try.byt98 Try.zero98 Try.agg99 Try.sz99 Try.byt99 Try.zero99 Try.agg100 Try.sz100 Try.byt100 Try.zero100 Try.agg101 Try.sz101 Try.byt101 Try.zero101 Try.agg102 Try.sz102 Try.byt102 Try.zero102 Try.agg103 Try.sz103 Try.byt103 Try.zero103 Try.agg104 Try.sz104 Try.byt104 Try.zero104 Try.agg105 Try.sz105 Try.byt105 Try.zero105 Try.agg106 Try.sz106 Try.byt106 Try.zero106 Try.agg107 Try.sz107 Try.byt107 Try.zero107 Try.agg108 Try.sz108 Try.byt108 Try.zero108 Try.agg109 Try.sz109 Try.byt109 Try.zero109 Try.agg110 Try.sz110 Try.byt110 Try.zero110 Try.agg111 Try.sz111 Try.byt111 Try.zero111 Try.agg112 Try.sz112 Try.byt112 Try.zero112 Try.agg113 Try.sz113 Try.byt113 Try.zero113 Try.agg114 Try.sz114 Try.byt114 Try.zero114 Try.agg115 Try.sz115 Try.byt115 Try.zero115 Try.agg116 Try.sz116 Try.byt116 Try.zero116 Try.body0 Try.body1 Try.body2 Try.body3 Try.body4 Try.body5 Try.body6 Try.body7 Try.body8 Try.body9 Try.body10 Try.body11 Try.body12 Try.body13 Try.body14 Try.body15 Try.body16 Try.body17 Try.body18 Try.body19 Try.body20 Try.body21 Try.body22 Try.body23 Try.body24 Try.body25 Try.body26 Try.body27 Try.body28 Try.body29 Try.body30 Try.body31 Try.body32 Try.body33 Try.body34 Try.body35 Try.body36 Try.body37 Try.body38 Try.body39 Try.body40 Try.body41 Try.body42 Try.body43 Try.body44 Try.body45 Try.body46 Try.body47 Try.body48 Try.body49 Try.body50 Try.body51 Try.body52 Try.body53 Try.body54 Try.body55 Try.body56 Try.body57 Try.body58 Try.body59 Try.body60 Try.body61 Try.body62 Try.body63 Try.body64 Try.body65 Try.body66 Try.body67 Try.body68 Try.body69 Try.body70 Try.body71 Try.body72 Try.body73 Try.body74 Try.body75 Try.body76 Try.body77 Try.body78 Try.body79 Try.build7 Try.build8 Try.build13 Try.build14 Try.build18 Try.build19 Try.bsl22 Try.bsl24 Try.bsl25 Try.bsl26 Try.build27 Try.build28 Try.build29 Try.build30 Try.build31 Try.build32 Try.bsl35 Try.bsl38 Try.build39 Try.build40 Try.build42 Try.build43 Try.bsl44 Try.build50 Try.bsl55 Try.bsl89 Try.build90 Try.build91 Try.build102 Try.build103 Try.build105 Try.build106 Try.build114 Try.build115 Try.underlying1 Try.underlying2 Try.underlying3 Try.underlying4 Try.underlying5 Try.underlying6 Try.underlying7 Try.underlying8 Try.underlying9 Try.underlying10 Try.underlying11 Try.underlying12 Try.underlying13 Try.underlying14 Try.underlying15 Try.underlying16 Try.underlying17 Try.underlying18 Try.underlying19 Try.underlying20 Try.underlying21 Try.underlying22 Try.underlying23 Try.underlying24 Try.underlying25 Try.underlying26 Try.underlying27 Try.underlying28 Try.underlying29 Try.underlying30 Try.underlying31 Try.underlying32 Try.underlying33 Try.underlying34 Try.underlying35 Try.underlying36 Try.underlying37 Try.underlying38 Try.underlying39 Try.underlying40 Try.underlying41 Try.underlying42 Try.underlying43 Try.underlying44 Try.underlying46 Try.underlying48 Try.underlying49 Try.underlying50 Try.underlying51 Try.underlying52 Try.underlying53 Try.underlying54 Try.underlying55 Try.underlying56 Try.underlying57 Try.underlying58 Try.underlying59 Try.underlying60 Try.underlying61 Try.underlying62 Try.underlying64 Try.underlying65 Try.underlying66 Try.underlying68 Try.underlying69 Try.underlying71 Try.underlying72 Try.underlying73 Try.underlying74 Try.underlying75 Try.underlying76 Try.underlying77 Try.underlying78 Try.underlying79 Try.underlying80 Try.underlying81 Try.underlying82 Try.underlying83 Try.underlying84 Try.underlying85 Try.underlying86 Try.underlying87 Try.underlying88 Try.underlying89 Try.underlying90 Try.underlying91 Try.underlying92 Try.underlying93 Try.underlying94 Try.underlying95 Try.underlying96 Try.underlying97 Try.underlying98 Try.underlying99 Try.underlying100 Try.underlying101 Try.underlying102 Try.underlying103 Try.underlying104 Try.underlying105 Try.underlying106 Try.underlying107 Try.underlying108 Try.underlying109 Try.underlying110 Try.underlying111 Try.underlying112 Try.underlying113 Try.underlying114 Try.underlying115 Try.underlying116
theorem Try.enters4 : Enters Try.prog 4 := enters_of Try.func4 rfl (by kernel_rfl)
theorem doL_err {l : List VerT} {o : VOp} (h : (doL l o).2.e ≠ 0) : (doL l o).1 = l ∧ (doL l o).2.ids = [] ∧ (doL l o).2.v = verN := by
  unfold doL at h ⊢
  repeat' split
  all_goals first | exact ⟨rfl, rfl, rfl⟩ | (exfalso; revert h; simp [errR, *]; done)
theorem applyS_err {S : StT} {r : ReqT} (h : (applyS S r).2.e ≠ 0) : (applyS S r).1.vers = S.vers := by
  unfold applyS at h ⊢
  split at h
  · rename_i h1; rw [if_pos h1]
  · rename_i h1
    rw [if_neg h1]
    split at h
    · rename_i h2; rw [if_pos h2]
    · rename_i h2
      rw [if_neg h2]
      split at h
      · rename_i h3; rw [if_pos h3]
      · rename_i h3; rw [if_neg h3]; exact (doL_err h).1
theorem StC.vers {A A' : St} {S : StT} {v : Value} {tl : List Value} (h : StC A S (v :: tl)) (g : Ge A A') {l' : List VerT} {v' : Value} (hv : VsV A' l' v') : StC A' ⟨l', S.seqs, S.last⟩ (v' :: tl) := by
  obtain ⟨v0, rs, e, h2, h3, h4, h5⟩ := h.ge g
  obtain ⟨rfl, rfl⟩ := List.cons.inj e
  exact ⟨v', rs, rfl, hv, h3, h4, h5⟩
theorem StC.parts {A : St} {S : StT} {cs : List Value} (h : StC A S cs) : ∃ v tl, cs = v :: tl ∧ VsV A S.vers v ∧ tl.length = 21 ∧ tl.all cell1 = true ∧ (∃ sq rs, tl = sq ++ rs ∧ sq = S.seqs.map (Value.int .u32 ·) ∧ sq.length = 3 ∧ rs.length = 18) := by
  have hl := h.len
  obtain ⟨v, rs, rfl, h2, h3, h4, h5⟩ := h
  obtain ⟨h6, h7⟩ := reps_cell h3
  have h8 : rs.length = 3 := by rw [← h3.length]; exact h5
  refine ⟨v, _, rfl, h2, by have := hl.1; simpa using this, ?_, _, _, rfl, rfl, by rw [List.length_map]; exact h4, by rw [flat_len h7, h8]⟩
  have := hl.2; rw [List.all_cons, Bool.and_eq_true] at this; exact this.2
theorem rq_one {A : St} {r : ReqT} {rc : List Value} (h : ReqC A r rc) {b : Nat} (hb : b < A.next) {e : TypeId} {m : Option Nat} (hg : A.get b = some (.cells rc e m)) : RqV A [r] (.slice (some ⟨b, 0, none⟩) 1 1) := by
  have hl := h.len
  refine ⟨[rc], .cons h .nil, fun cs hc => by rw [List.mem_singleton.1 hc]; exact hl, by simp [hl], .inr ⟨b, 0, none, 1, rc, e, m, rfl, hb, hg, by simp [hl], ?_⟩⟩
  rw [List.drop_zero, List.take_of_length_le (by simp [hl])]; simp
set_option maxHeartbeats 16000000 in
theorem errors_all (w0 : World) (A : St) (v : Value) (l : List ReqT) (rv : Value) (r : ReqT) (hv : RqA A l v) (hok : (∀ r ∈ l, r.okA) ∧ l.length ≤ maxLen) (hr : ReqV A r rv) (hro : r.okA) : ACalls Try.prog w0 4 #[v, rv] A (fin (.bool true) A) := by
  obtain ⟨rc, rfl, hrc⟩ := hr
  refine call_E Try.enters4 Try.func4 rfl (Nat.le_of_ble_eq_true rfl) fun hw hbd => ?_
  have hrl := hrc.len
  have hrcl := hrc.cell
  have hrtk : rc.take 8 = rc := List.take_of_length_le (by omega)
  obtain ⟨A1, hA1⟩ : ∃ A1, A1 = A.alloc (.cells rc 32 (some 0)) := ⟨_, rfl⟩
  have o1 : Over A A1 := hA1 ▸ (Over.refl A).alloc _
  have g3 : A1.get A.next = some (.cells rc 32 (some 0)) := by rw [hA1]; exact get_alloc_same ..
  have n1 : A1.next = A.next + 1 := by rw [hA1]; rfl
  have hld3 := ldN (e := 32) (m := some 0) hrl
  simp (maxSteps := 1000000) (disch := (first | omega | (simp only [nx_alloc, nx_upd, len_cons, len_nil, List.length_set, List.length_map, List.length_append] <;> omega) | fail)) only [Nat.reduceAdd, Nat.reduceSub, Nat.reduceMul, Nat.reduceLT, Nat.reduceLeDiff, Nat.reduceEqDiff, ↓reduceIte, reduceCtorEq, Int.reduceAdd, Int.reduceSub, Int.reduceMul, Int.reduceLT, Int.reduceLE, Int.reduceEq, Int.reduceNe, Int.reduceToNat, Int.reduceNeg, go_sem, Try.ntmps4, Try.results4]
  rw [← hA1]
  refine call1 (heavyL_ok w0 A1 l v (hv.1.ge o1.ge)) ?_
  cases hh : hvyL l
  rotate_left
  · simp (maxSteps := 1000000) (disch := (first | omega | (simp only [nx_alloc, nx_upd, len_cons, len_nil, List.length_set, List.length_map, List.length_append] <;> omega) | fail)) only [Nat.reduceAdd, Nat.reduceSub, Nat.reduceMul, Nat.reduceLT, Nat.reduceLeDiff, Nat.reduceEqDiff, ↓reduceIte, reduceCtorEq, Int.reduceAdd, Int.reduceSub, Int.reduceMul, Int.reduceLT, Int.reduceLE, Int.reduceEq, Int.reduceNe, Int.reduceToNat, Int.reduceNeg, go_sem, g3]
    refine call1 (shown_ok w0 A1) ?_
    simp (maxSteps := 1000000) (disch := (first | omega | (simp only [nx_alloc, nx_upd, len_cons, len_nil, List.length_set, List.length_map, List.length_append] <;> omega) | fail)) only [Nat.reduceAdd, Nat.reduceSub, Nat.reduceMul, Nat.reduceLT, Nat.reduceLeDiff, Nat.reduceEqDiff, ↓reduceIte, reduceCtorEq, Int.reduceAdd, Int.reduceSub, Int.reduceMul, Int.reduceLT, Int.reduceLE, Int.reduceEq, Int.reduceNe, Int.reduceToNat, Int.reduceNeg, go_sem, Try.results4]
    exact gc_fin' hw o1 rfl (.bool _)
  have hset := set_all [.int .i64 0, .int .u32 0, .int .i64 0, .int .u32 0, .int .u32 0, .slice none 0 0, .slice none 0 0, .slice none 0 0] rc (by rw [hrl]; rfl)
  simp (maxSteps := 1000000) (disch := (first | omega | (simp only [nx_alloc, nx_upd, len_cons, len_nil, List.length_set, List.length_map, List.length_append] <;> omega) | fail)) only [Nat.reduceAdd, Nat.reduceSub, Nat.reduceMul, Nat.reduceLT, Nat.reduceLeDiff, Nat.reduceEqDiff, ↓reduceIte, reduceCtorEq, Int.reduceAdd, Int.reduceSub, Int.reduceMul, Int.reduceLT, Int.reduceLE, Int.reduceEq, Int.reduceNe, Int.reduceToNat, Int.reduceNeg, go_sem, g3, hld3, hrtk, hset]
  obtain ⟨h60, hsm⟩ := hvyL_ok hh
  have hoks := ok_of hok.1 hsm
  obtain ⟨A2, hA2⟩ : ∃ A2, A2 = A1.alloc (.cells rc 32 (some 0)) := ⟨_, rfl⟩
  rw [← hA2]
  have o2 : Over A1 A2 := hA2 ▸ (Over.refl _).alloc _
  have n2 : A2.next = A1.next + 1 := by rw [hA2]; rfl
  have h3 : A2.get A.next = some (.cells rc 32 (some 0)) := by rw [o2.get _ (by omega)]; exact g3
  have hrc2 : ReqC A2 r rc := hrc.ge (o1.trans o2).ge
  refine call1 (heavyL_ok w0 A2 [r] _ (rq_one hrc2 (b := A1.next) (by omega) (by rw [hA2]; exact get_alloc_same ..))) ?_
  cases hh2 : hvyL [r]
  rotate_left
  · simp (maxSteps := 1000000) (disch := (first | omega | (simp only [nx_alloc, nx_upd, len_cons, len_nil, List.length_set, List.length_map, List.length_append] <;> omega) | fail)) only [Nat.reduceAdd, Nat.reduceSub, Nat.reduceMul, Nat.reduceLT, Nat.reduceLeDiff, Nat.reduceEqDiff, ↓reduceIte, reduceCtorEq, Int.reduceAdd, Int.reduceSub, Int.reduceMul, Int.reduceLT, Int.reduceLE, Int.reduceEq, Int.reduceNe, Int.reduceToNat, Int.reduceNeg, go_sem]
    refine call1 (shown_ok w0 A2) ?_
    simp (maxSteps := 1000000) (disch := (first | omega | (simp only [nx_alloc, nx_upd, len_cons, len_nil, List.length_set, List.length_map, List.length_append] <;> omega) | fail)) only [Nat.reduceAdd, Nat.reduceSub, Nat.reduceMul, Nat.reduceLT, Nat.reduceLeDiff, Nat.reduceEqDiff, ↓reduceIte, reduceCtorEq, Int.reduceAdd, Int.reduceSub, Int.reduceMul, Int.reduceLT, Int.reduceLE, Int.reduceEq, Int.reduceNe, Int.reduceToNat, Int.reduceNeg, go_sem, Try.results4]
    exact gc_fin' hw (o1.trans o2) rfl (.bool _)
  obtain ⟨_, hsm2⟩ := hvyL_ok hh2
  have hrok : r.ok := ok_of (l := [r]) (fun x hx => by rw [List.mem_singleton.1 hx]; exact hro) hsm2 r (List.mem_singleton.2 rfl)
  simp (maxSteps := 1000000) (disch := (first | omega | (simp only [nx_alloc, nx_upd, len_cons, len_nil, List.length_set, List.length_map, List.length_append] <;> omega) | fail)) only [Nat.reduceAdd, Nat.reduceSub, Nat.reduceMul, Nat.reduceLT, Nat.reduceLeDiff, Nat.reduceEqDiff, ↓reduceIte, reduceCtorEq, Int.reduceAdd, Int.reduceSub, Int.reduceMul, Int.reduceLT, Int.reduceLE, Int.reduceEq, Int.reduceNe, Int.reduceToNat, Int.reduceNeg, go_sem]
  refine call1 (shown_ok w0 A2) ?_
  simp (maxSteps := 1000000) (disch := (first | omega | (simp only [nx_alloc, nx_upd, len_cons, len_nil, List.length_set, List.length_map, List.length_append] <;> omega) | fail)) only [Nat.reduceAdd, Nat.reduceSub, Nat.reduceMul, Nat.reduceLT, Nat.reduceLeDiff, Nat.reduceEqDiff, ↓reduceIte, reduceCtorEq, Int.reduceAdd, Int.reduceSub, Int.reduceMul, Int.reduceLT, Int.reduceLE, Int.reduceEq, Int.reduceNe, Int.reduceToNat, Int.reduceNeg, go_sem]
  have o02 := o1.trans o2
  clear hA1 hA2
  refine (all_ok w0 A2 [] (fun b hb => by cases hb) l v (hv.1.ge o02.ge) hoks (by omega)).mono ?_
  rintro _ A3 ⟨cs, v2, rfl, o3, hS, _⟩
  change StC A3 _ _ at hS
  have hSl := hS.len
  have n3 := o3.next
  obtain ⟨A4, st1, o4, n4, g5⟩ := one_st A3 hSl
  have hg4 := hide_past o4.ge (Nat.le_refl A3.next)
  have hS4 := hS.ge hg4
  have hrc4 := hrc2.ge (o3.ge.trans hg4)
  have k33 : A4.get A.next = some (.cells rc 32 (some 0)) := by rw [o4.get _ (by omega), o3.get _ (by omega)]; exact h3
  have hcstk : cs.take 22 = cs := List.take_of_length_le (by omega)
  have hlda := ldN (e := 43) (m := some 0) hSl.1
  obtain ⟨b5, hb5⟩ : ∃ b, b = A3.next := ⟨_, rfl⟩
  rw [← hb5] at st1 g5 hS4 hrc4 n4
  simp (maxSteps := 1000000) (disch := (first | omega | (simp only [nx_alloc, nx_upd, len_cons, len_nil, List.length_set, List.length_map, List.length_append] <;> omega) | fail)) only [Nat.reduceAdd, Nat.reduceSub, Nat.reduceMul, Nat.reduceLT, Nat.reduceLeDiff, Nat.reduceEqDiff, ↓reduceIte, reduceCtorEq, Int.reduceAdd, Int.reduceSub, Int.reduceMul, Int.reduceLT, Int.reduceLE, Int.reduceEq, Int.reduceNe, Int.reduceToNat, Int.reduceNeg, go_sem, st1, ← hb5, k33, hld3, hrtk, hcstk, g5, hlda]
  have hb5L : ∀ b ∈ [b5], b < A4.next := fun b hb => by simp only [List.mem_cons, List.not_mem_nil, or_false] at hb; omega
  have hS8 := (allS_sm l hsm).1
  refine (apply_ok w0 A4 [b5] hb5L (allS l).1 cs r rc hS4 hrc4 hrok (by have := hS8.1; omega)).mono ?_
  rintro _ A5 ⟨ct, xt, rfl, o5, hT, hX⟩
  have n5 := o5.next
  have hTl := hT.len
  have hXl := hX.len
  have hXc := hX.cell
  obtain ⟨C1, A6, st7, gC1, st8, o6, n6, g7, g8⟩ := two_st A5 hTl hXl hXc
  have o46 := o5.trans o6
  have m5 : A6.get b5 = some (.cells cs 43 (some 0)) := by rw [o46.get _ (by omega)]; exact g5
  have m3 : A6.get A.next = some (.cells rc 32 (some 0)) := by rw [o46.get _ (by omega)]; exact k33
  obtain ⟨sv, stl, rfl, hsv, hstl, hstc, _⟩ := hS4.parts
  obtain ⟨oc, rfl, hoc⟩ := hrc4
  have hocl := hoc.len
  have hoctk : oc.take 6 = oc := List.take_of_length_le (by omega)
  have hstk : stl.take 21 = stl := List.take_of_length_le (by omega)
  simp (maxSteps := 1000000) (disch := (first | omega | (simp only [nx_alloc, nx_upd, len_cons, len_nil, List.length_set, List.length_map, List.length_append] <;> omega) | fail)) only [Nat.reduceAdd, Nat.reduceSub, Nat.reduceMul, Nat.reduceLT, Nat.reduceLeDiff, Nat.reduceEqDiff, ↓reduceIte, reduceCtorEq, Int.reduceAdd, Int.reduceSub, Int.reduceMul, Int.reduceLT, Int.reduceLE, Int.reduceEq, Int.reduceNe, Int.reduceToNat, Int.reduceNeg, go_sem, st7, gC1, st8, m5, m3, hlda, hoctk, hstk]
  have hoc6 := hoc.ge (hide_over o46 [b5])
  have hsv6 := hsv.ge (hide_over o46 [b5])
  refine (do_ok w0 A6 [b5] (fun b hb => by have := hb5L b hb; omega) (allS l).1.vers sv stl r.op oc hsv6 hoc6 (by have := hS8.1; omega) hstl hstc ⟨hrok.2.2.1, hrok.2.2.2.1⟩ hrok.2.2.2.2).mono ?_
  rintro _ A7 ⟨uv, yt, rfl, o7, hU, hY⟩
  have n7 := o7.next
  have hYl := hY.len
  have hYc := hY.cell
  have hU0 := StC.vers (hS4.ge (hide_over o46 [b5])) (hide_over o7 [b5]) hU
  obtain ⟨C2, A8, st9, gC2, st10, o8, n8, g9, g10⟩ := two_st A7 hU0.len hYl hYc
  have o48 := (o46.trans o7).trans o8
  obtain ⟨yw, yvs, rfl, hyid, hyv⟩ := hY
  have hyvl := hyv.len
  have k8 : Ge (A7.hide [b5]) (A8.hide [b5]) := hide_over o8 [b5]
  have k58 : Ge (A5.hide [b5]) (A8.hide [b5]) := (hide_over o6 [b5]).trans ((hide_over o7 [b5]).trans k8)
  have q7 : A8.get A5.next = _ := ((o7.trans o8).get _ (by omega)).trans g7
  have q8 : A8.get (A5.next + 1) = _ := ((o7.trans o8).get _ (by omega)).trans g8
  have q5 : A8.get b5 = _ := ((o7.trans o8).get _ (by omega)).trans m5
  have oF : Over A A8 := (((o02.trans o3).trans o4).trans o48)
  have hlx := View.lenU (e := 23) (View.ge (View.ge hyid k8) (hide_ge A8 _))
  have hv0 : ∀ X, lenU X (some (.slice 23)) yw = some (.int .i64 (doL (allS l).1.vers r.op).2.ids.length, X) := by
    intro X
    obtain ⟨_, _, rfl⟩ := View.sl0 hyid
    rfl
  have hsm8 := doL_sm hS8.1 hS8.2.2.2.1 hrok.2.2.2.2
  obtain ⟨xw, xvs, rfl, hxid, hxv⟩ := hX
  have hT0 := hT
  obtain ⟨tv, ttl, rfl, htv, httl, httc, tsq, trs, rfl, htsq, htsq3, htrs⟩ := hT.parts
  obtain ⟨_, _, e1, _, _, _, ssq, srs, rfl, hssq, hssq3, hsrs⟩ := hS4.parts
  obtain ⟨rfl, e2⟩ := List.cons.inj e1
  subst e2
  have htsc : tsq.all cell1 = true ∧ trs.all cell1 = true := by rw [List.all_append, Bool.and_eq_true] at httc; exact httc
  have l3 := ld_agg (sz := 3) (off := 1) (e' := 43) (m := some 0) (cells := tv :: (tsq ++ trs)) (cs := tsq) (by simp; omega) (by rw [List.drop_succ_cons, List.drop_zero, List.take_left' htsq3])
  have l18 := ld_agg (sz := 18) (off := 4) (e' := 43) (m := some 0) (cells := tv :: (tsq ++ trs)) (cs := trs) (by simp; omega) (by rw [List.drop_succ_cons, List.drop_left' htsq3, List.take_of_length_le (by omega)])
  have hld22 : ∀ (y : Value) (a b : List Value), a.length = 3 → b.length = 18 → loadC (some true) (some 22) (some (.cells (y :: (a ++ b)) 43 (some 0))) 0 = some (.agg (y :: (a ++ b)).toArray) := fun y a b h1 h2 => ldN (by simp; omega)
  have ht21 : ∀ (a b : List Value), a.length = 3 → b.length = 18 → (a ++ b).take 21 = a ++ b := fun a b h1 h2 => List.take_of_length_le (by simp; omega)
  have ld28 := ld_agg (sz := 4) (off := 2) (e' := 40) (m := some 0) (cells := .int .i64 (doL (allS l).1.vers r.op).2.e :: yw :: yvs) (cs := yvs) (by simp; omega) (by rw [List.drop_succ_cons, List.drop_succ_cons, List.drop_zero, List.take_of_length_le (by omega)])
  have hytk : yvs.take 4 = yvs := List.take_of_length_le (by omega)
  simp (maxSteps := 1000000) (disch := (first | omega | (simp only [nx_alloc, nx_upd, len_cons, len_nil, List.length_set, List.length_map, List.length_append] <;> omega) | fail)) only [Nat.reduceAdd, Nat.reduceSub, Nat.reduceMul, Nat.reduceLT, Nat.reduceLeDiff, Nat.reduceEqDiff, ↓reduceIte, reduceCtorEq, Int.reduceAdd, Int.reduceSub, Int.reduceMul, Int.reduceLT, Int.reduceLE, Int.reduceEq, Int.reduceNe, Int.reduceToNat, Int.reduceNeg, go_sem, st9, gC2, st10, g9, g10]
  by_cases hy0 : (doL (allS l).1.vers r.op).2.e = 0
  rotate_left
  have hde := doL_err hy0
  have hlx0 : (doL (allS l).1.vers r.op).2.ids.length = 0 := by rw [hde.2.1]; rfl
  simp (maxSteps := 1000000) (disch := (first | omega | (simp only [nx_alloc, nx_upd, len_cons, len_nil, List.length_set, List.length_map, List.length_append] <;> omega) | fail)) only [Nat.reduceAdd, Nat.reduceSub, Nat.reduceMul, Nat.reduceLT, Nat.reduceLeDiff, Nat.reduceEqDiff, ↓reduceIte, reduceCtorEq, Int.reduceAdd, Int.reduceSub, Int.reduceMul, Int.reduceLT, Int.reduceLE, Int.reduceEq, Int.reduceNe, Int.reduceToNat, Int.reduceNeg, go_sem, hy0, q5, g9, g10, hld22, ht21, hssq3, hsrs]
  refine call1 (equal_ok w0 A8 ⟨(doL (allS l).1.vers r.op).1, (allS l).1.seqs, (allS l).1.last⟩ (allS l).1 _ _ ((hU0.ge k8).ge (hide_ge _ _)) (((hS4.ge (hide_over o46 [b5])).ge (hide_over (o7.trans o8) [b5])).ge (hide_ge _ _)) (by rw [hde.1]; exact hS8.sm) hS8.sm) ?_
  rw [hde.1, eqSt_yes rfl]
  simp (maxSteps := 1000000) (disch := (first | omega | (simp only [nx_alloc, nx_upd, len_cons, len_nil, List.length_set, List.length_map, List.length_append] <;> omega) | fail)) only [Nat.reduceAdd, Nat.reduceSub, Nat.reduceMul, Nat.reduceLT, Nat.reduceLeDiff, Nat.reduceEqDiff, ↓reduceIte, reduceCtorEq, Int.reduceAdd, Int.reduceSub, Int.reduceMul, Int.reduceLT, Int.reduceLE, Int.reduceEq, Int.reduceNe, Int.reduceToNat, Int.reduceNeg, go_sem, hy0, q5, g9, g10, hv0, hlx0, ld28, hytk]
  refine call1 (rvsame_ok w0 A8 (doL (allS l).1.vers r.op).2.v verN _ _ (((hyv.ge k8).ge (hide_ge _ _)).ver) (verN_c A8).ver hsm8.2.1 verN_small) ?_
  rw [(eqV_iff _ _).2 hde.2.2]
  simp (maxSteps := 1000000) (disch := (first | omega | (simp only [nx_alloc, nx_upd, len_cons, len_nil, List.length_set, List.length_map, List.length_append] <;> omega) | fail)) only [Nat.reduceAdd, Nat.reduceSub, Nat.reduceMul, Nat.reduceLT, Nat.reduceLeDiff, Nat.reduceEqDiff, ↓reduceIte, reduceCtorEq, Int.reduceAdd, Int.reduceSub, Int.reduceMul, Int.reduceLT, Int.reduceLE, Int.reduceEq, Int.reduceNe, Int.reduceToNat, Int.reduceNeg, go_sem]
  rotate_left
  simp (maxSteps := 1000000) (disch := (first | omega | (simp only [nx_alloc, nx_upd, len_cons, len_nil, List.length_set, List.length_map, List.length_append] <;> omega) | fail)) only [Nat.reduceAdd, Nat.reduceSub, Nat.reduceMul, Nat.reduceLT, Nat.reduceLeDiff, Nat.reduceEqDiff, ↓reduceIte, reduceCtorEq, Int.reduceAdd, Int.reduceSub, Int.reduceMul, Int.reduceLT, Int.reduceLE, Int.reduceEq, Int.reduceNe, Int.reduceToNat, Int.reduceNeg, go_sem, hy0, g10]
  all_goals
    have hT8 := hT0.ge k58
    simp (maxSteps := 1000000) (disch := (first | omega | (simp only [nx_alloc, nx_upd, len_cons, len_nil, List.length_set, List.length_map, List.length_append] <;> omega) | fail)) only [Nat.reduceAdd, Nat.reduceSub, Nat.reduceMul, Nat.reduceLT, Nat.reduceLeDiff, Nat.reduceEqDiff, ↓reduceIte, reduceCtorEq, Int.reduceAdd, Int.reduceSub, Int.reduceMul, Int.reduceLT, Int.reduceLE, Int.reduceEq, Int.reduceNe, Int.reduceToNat, Int.reduceNeg, go_sem, q8]
    by_cases hx0 : (applyS (allS l).1 r).2.e = 0
    · simp (maxSteps := 1000000) (disch := (first | omega | (simp only [nx_alloc, nx_upd, len_cons, len_nil, List.length_set, List.length_map, List.length_append] <;> omega) | fail)) only [Nat.reduceAdd, Nat.reduceSub, Nat.reduceMul, Nat.reduceLT, Nat.reduceLeDiff, Nat.reduceEqDiff, ↓reduceIte, reduceCtorEq, Int.reduceAdd, Int.reduceSub, Int.reduceMul, Int.reduceLT, Int.reduceLE, Int.reduceEq, Int.reduceNe, Int.reduceToNat, Int.reduceNeg, go_sem, hx0, Try.results4]
      exact gc_fin' hw oF rfl (.bool _)
    have hvx := applyS_err hx0
    have stA : ∀ X, storeC X (some 3) (some (.cells (sv :: (ssq ++ srs)) 43 (some 0))) b5 1 (.agg tsq.toArray) = some (X.upd b5 (some (.cells (sv :: (tsq ++ srs)) 43 (some 0)))) := fun X => by
      rw [storeC_aggS _ _ _ _ _ _ _ htsq3.symm (Nat.zero_le _) (by simp; omega), htsc.1, guardO_true]
      have := setList_mid [sv] ssq srs tsq (by omega)
      rw [show setList (sv :: (ssq ++ srs)) 1 tsq = sv :: (tsq ++ srs) from this]
    have stB : ∀ X, storeC X (some 18) (some (.cells (sv :: (tsq ++ srs)) 43 (some 0))) b5 4 (.agg trs.toArray) = some (X.upd b5 (some (.cells (sv :: (tsq ++ trs)) 43 (some 0)))) := fun X => by
      rw [storeC_aggS _ _ _ _ _ _ _ htrs.symm (Nat.zero_le _) (by simp; omega), htsc.2, guardO_true]
      have := setList_mid (sv :: tsq) srs [] trs (by omega)
      rw [List.append_nil, List.append_nil, List.length_cons, htsq3] at this
      rw [show setList (sv :: (tsq ++ srs)) 4 trs = sv :: (tsq ++ trs) from this]
    have q57 : A5.next ≠ b5 := by omega
    have q75 : ¬ (b5 = A5.next) := by omega
    simp (maxSteps := 1000000) (disch := (first | omega | (simp only [nx_alloc, nx_upd, len_cons, len_nil, List.length_set, List.length_map, List.length_append] <;> omega) | fail)) only [Nat.reduceAdd, Nat.reduceSub, Nat.reduceMul, Nat.reduceLT, Nat.reduceLeDiff, Nat.reduceEqDiff, ↓reduceIte, reduceCtorEq, Int.reduceAdd, Int.reduceSub, Int.reduceMul, Int.reduceLT, Int.reduceLE, Int.reduceEq, Int.reduceNe, Int.reduceToNat, Int.reduceNeg, go_sem, hx0, q5, q7, q8, l3, l18, stA, stB, q57, q75, hld22, ht21, htsq3, htrs]
    have g9' : Ge (A8.hide [b5]) ((A8.upd b5 (some (.cells (sv :: (tsq ++ srs)) 43 (some 0)))).upd b5 (some (.cells (sv :: (tsq ++ trs)) 43 (some 0)))) := by
      refine ⟨by rw [hide_next]; exact Nat.le_refl _, fun b B h1 h2 => ?_⟩
      rw [hide_get] at h2
      by_cases hb : b = b5
      · rw [if_pos (by simp [hb])] at h2; cases h2
      · rw [if_neg (by simpa using hb)] at h2
        rw [St.get_upd, if_neg hb, St.get_upd, if_neg hb]; exact h2
    have hs9 : StC ((A8.upd b5 (some (.cells (sv :: (tsq ++ srs)) 43 (some 0)))).upd b5 (some (.cells (sv :: (tsq ++ trs)) 43 (some 0)))) (applyS (allS l).1 r).1 (sv :: (tsq ++ trs)) := by
      have h1 := StC.vers hT8 g9' (l' := (allS l).1.vers) (v' := sv) (((hsv.ge (hide_over o46 [b5])).ge (hide_over (o7.trans o8) [b5])).ge g9')
      rw [← hvx] at h1
      exact h1
    have hsmT := (applyS_sm hS8 hrok.2.2.2.2).1.sm
    refine call1 (equal_ok w0 _ _ _ _ _ (hT8.ge g9') hs9 hsmT hsmT) ?_
    rw [eqSt_yes rfl]
    simp (maxSteps := 1000000) (disch := (first | omega | (simp only [nx_alloc, nx_upd, len_cons, len_nil, List.length_set, List.length_map, List.length_append] <;> omega) | fail)) only [Nat.reduceAdd, Nat.reduceSub, Nat.reduceMul, Nat.reduceLT, Nat.reduceLeDiff, Nat.reduceEqDiff, ↓reduceIte, reduceCtorEq, Int.reduceAdd, Int.reduceSub, Int.reduceMul, Int.reduceLT, Int.reduceLE, Int.reduceEq, Int.reduceNe, Int.reduceToNat, Int.reduceNeg, go_sem, Try.results4]
    exact gc_fin' hw ((oF.upd (by omega) _).upd (by omega) _) rfl (.bool _)
end Go.Fw
