import Derived.Test.YtphfkbagjpcmpaaFwVault4
set_option linter.unusedSimpArgs false
set_option linter.unusedVariables false
namespace Go.Fw
open Go.Proofs Go.RowKit
attribute [local go_sem] List.length_cons List.length_nil Nat.zero_add Nat.add_zero Nat.zero_mul Nat.mul_one Int.toNat_zero Int.toNat_natCast List.map_cons List.map_nil List.map_toArray List.toList_toArray List.append_toArray List.append_eq List.nil_append List.cons_append List.append_nil List.all_toArray List.all_cons List.all_nil Bool.and_true Bool.true_and Bool.and_self List.getElem?_toArray List.getElem?_cons_zero List.getElem?_cons_succ List.set_cons_zero List.set_cons_succ List.drop_zero List.drop_succ_cons List.take_zero List.take_succ_cons Option.bind_some Option.map_some id true_and and_true and_self St.next_alloc St.next_upd beq_self_eq_true Bool.not_true Bool.not_false Bool.false_eq_true false_implies true_implies Option.isNone_none Option.isNone_some Option.isSome_none Option.isSome_some ge_iff_le gt_iff_lt Nat.sub_zero Nat.add_assoc IntWalk.i64_in IntWalk.u64_in IntWalk.u8_in IntWalk.u32_in IntWalk.i32_in IntWalk.u16_in dec_not Bool.not_eq_true decide_true decide_false ne_eq not_true_eq_false not_false_eq_true Bool.true_or Bool.or_true Bool.or_false Bool.false_or Bool.and_false Bool.false_and upd_apply rd_eq ar_zero ar_succ ar_nil tm_size tm_getD tm_set E_tmps E_defers put_E put_none eval_tmp eval_const eval_func setArgs_0 setArgs_1 setArgs_2 append_lit stepV_some stepA_some guardO_true ifB_true ifB_false wantV_true wantV_false wantV_dec_t wantV_dec_f ifB_dec_t ifB_dec_f condV_bool dec_and dec_or isB_bool someB_t someB_f okO_tmp okO_func okO_int okO_bool okO_string okO_ptr0 okO_slice0 okO_nilFunc okO_nilIface okO_map0 okO_agg wanted_none wanted_some lookT_some aopsL_nil aopsL_cons wpA_skip wpA_label wpA_exit wpA_goto wpA_ret wpA_seq wpA_block wpA_region wpA_cond wpA_loop wpA_rangeFunc wpA_draw thenQ_normal thenQ_exit thenQ_ret thenQ_panic blockQ_normal blockQ_ret blockQ_panic blockQ_exit funQ_ret funQ_normal funQ_panic op_move op_assign pickV_or pickV_and pickV_t pickV_f pickV_true pickV_false op_pick allocV_some op_alloc op_box op_load op_nilCheck op_bin op_lookup bptr btype op_un op_convert op_makeInterface op_makeSlice op_fieldAddr op_field op_indexAddr op_index op_extract op_typeAssert storeV_some op_store op_makeMap op_mapUpdate op_slice00 op_slice10 op_slice01 op_slice11 op_slice111 op_slice011 op_makeFunc callV_true op_call op_builtin panicV_iface op_panic ACallV_func ACallF_false ACallF_true ACallV_yield afterCall_returned afterCall_panicked bin_add bin_sub bin_mul bin_and bin_or bin_xor bin_andNot bin_eql bin_neq bin_lss bin_leq bin_gtr bin_geq mval_some mval_none lookup_map lookU_map lookK_smap mapSet_map msetU_map msetK_int conv_to conv_from unsT_cells unsF_cells bin_same bin_nil bdata_nil bdata_some builtin_data builtin_str bin_quo bin_rem bin_shl bin_shr bin_sadd bin_seql bin_sneq bin_slss uB_bool bin_beql bin_bneq uP_pointer bin_peql bin_pneq uS_slice bin_leql bin_lneq bin_ieql bin_ineq un_neg un_xor un_not nilCheck_ptr nilCheck_func nilCheck_yield load_ptr loadC_one loadC_agg store_ptr slice_eq sliceU_string sliceU_slice sliceU_array sliceS_eq boundsS_some sliceL_eq boundsL_nil boundsL_exact boundsL_least boundsL_own boundsL_ownN bounds_11 bounds_10 bounds_01 bounds_00 builtin_len len_string len_array len_slice builtin_append builtin_copy pairA_some builtin_min builtin_max min_two max_two index_eq index_string index_array indexAddr_eq indexAddr_array indexAddr_slice fieldAddr_eq posO_some fAddr_some fieldAddr_struct partC_some field_eq field_struct part_eq partU_one partU_agg extract_tuple conv_eq conv_int conv_string u8O_u8 conv_bytes conv_text_nil conv_text_zero conv_text mkIface_eq get_upd_same consO_some finR_0 finR_1 finR_2 aresL_nil aresL_cons ares1_tmp ares1_cell retV_some aleave_nil aleave_coll bnd_int bnd_bool bnd_string bnd_nilIface bnd_slice0 bnd_iface bnd_slice bnd_ptr bnd_ptr0 bndL_nil bndL_cons bndA_lit bnd_tuple bnd_agg calm_same skipC_eq aopsC_nil aopsC_cons stepC_call stepC_move stepC_assign stepC_pick stepC_alloc stepC_box stepC_build stepC_buildSlice stepC_load stepC_store stepC_nilCheck stepC_binOp stepC_unOp stepC_convert stepC_makeInterface stepC_makeFunc stepC_makeSlice stepC_slice stepC_fieldAddr stepC_field stepC_indexAddr stepC_index stepC_extract stepC_typeAssert stepC_lookup stepC_mapUpdate stepC_makeMap stepC_builtin to_same sameA_eq aopsX_nil aopsX_cons stepX_heavy stepX_light lightK_eq allC_nil allC_cons hs_zero hs_succ stepT_call pure_call stepT_move pure_move stepT_assign pure_assign stepT_pick pure_pick stepT_alloc pure_alloc stepT_box pure_box stepT_build pure_build stepT_buildSlice pure_buildSlice stepT_load pure_load stepT_store pure_store stepT_nilCheck pure_nilCheck stepT_binOp pure_binOp stepT_unOp pure_unOp stepT_convert pure_convert stepT_makeInterface pure_makeInterface stepT_makeFunc pure_makeFunc stepT_makeSlice pure_makeSlice stepT_slice pure_slice stepT_fieldAddr pure_fieldAddr stepT_field pure_field stepT_indexAddr pure_indexAddr stepT_index pure_index stepT_extract pure_extract stepT_typeAssert pure_typeAssert stepT_lookup pure_lookup stepT_mapUpdate pure_mapUpdate stepT_makeMap pure_makeMap stepT_builtin pure_b_len pure_b_append pure_b_copy pure_b_min pure_b_max pure_b_unsafeSliceData pure_b_unsafeString leaveK_eq aleave_fn op_defer deferV_func resK_some defQ_ret defQ_normal storeC_int storeC_bool storeC_string storeC_slice storeC_func storeC_pointer len_cons len_nil cells_int cells_bool cells_string cells_slice cells_pointer cells_func cells_map cells_nilFunc cells_agg cell1_bool cell1_string cell1_slice cell1_pointer cell1_func cell1_i cell1_map cell1_nilFunc setList_nil setList_cons storeC_aggS fillP_nil fillP_cons fillAt_1 fillAt_n aggO_some sliceO_some places_0 places_s zerosR_0 zerosR_s thenElse_true evP_nil evP_cons okP_nil okP_cons op_buildL op_buildSliceL isBu_t isBu_f mk_E get_alloc_old get_alloc_new get_upd_old Try.agg1 Try.sz1 Try.byt1 Try.zero1 Try.agg2 Try.sz2 Try.byt2 Try.zero2 Try.agg3 Try.sz3 Try.byt3 Try.zero3 Try.agg4 Try.sz4 Try.byt4 Try.zero4 Try.agg5 Try.sz5 Try.byt5 Try.zero5 Try.agg6 Try.sz6 Try.byt6 Try.zero6 Try.agg7 Try.sz7 Try.byt7 Try.zero7 Try.agg8 Try.sz8 Try.byt8 Try.zero8 Try.agg9 Try.sz9 Try.byt9 Try.zero9 Try.agg10 Try.sz10 Try.byt10 Try.zero10 Try.agg11 Try.sz11 Try.byt11 Try.zero11 Try.agg12 Try.sz12 Try.byt12 Try.zero12 Try.agg13 Try.sz13 Try.byt13 Try.zero13 Try.agg14 Try.sz14 Try.byt14 Try.zero14 Try.agg15 Try.sz15 Try.byt15 Try.zero15 Try.agg16 Try.sz16 Try.byt16 Try.zero16 Try.agg17 Try.sz17 Try.byt17 Try.zero17 Try.agg18 Try.sz18 Try.byt18 Try.zero18 Try.agg19 Try.sz19 Try.byt19 Try.zero19 Try.agg20 Try.sz20 Try.byt20 Try.zero20 Try.agg21 Try.sz21 Try.byt21 Try.zero21 Try.agg22 Try.sz22 Try.byt22 Try.el22 Try.zero22 Try.agg23 Try.sz23 Try.byt23 Try.zero23 Try.agg24 Try.sz24 Try.byt24 Try.el24 Try.zero24 Try.agg25 Try.sz25 Try.byt25 Try.el25 Try.zero25 Try.agg26 Try.sz26 Try.byt26 Try.el26 Try.zero26 Try.agg27 Try.sz27 Try.byt27 Try.zero27 Try.agg28 Try.sz28 Try.byt28 Try.zero28 Try.agg29 Try.sz29 Try.byt29 Try.zero29 Try.agg30 Try.sz30 Try.byt30 Try.zero30 Try.agg31 Try.sz31 Try.byt31 Try.zero31 Try.agg32 Try.sz32 Try.byt32 Try.zero32 Try.agg33 Try.sz33 Try.byt33 Try.zero33 Try.agg34 Try.sz34 Try.byt34 Try.zero34 Try.agg35 Try.sz35 Try.byt35 Try.el35 Try.zero35 Try.agg36 Try.sz36 Try.byt36 Try.zero36 Try.agg37 Try.sz37 Try.byt37 Try.zero37 Try.agg38 Try.sz38 Try.byt38 Try.el38 Try.zero38 Try.agg39 Try.sz39 Try.byt39 Try.zero39 Try.agg40 Try.sz40 Try.byt40 Try.zero40 Try.agg41 Try.sz41 Try.byt41 Try.zero41 Try.agg42 Try.sz42 Try.byt42 Try.zero42 Try.agg43 Try.sz43 Try.byt43 Try.zero43 Try.agg44 Try.sz44 Try.byt44 Try.el44 Try.zero44 Try.agg46 Try.sz46 Try.byt46 Try.zero46 Try.agg48 Try.sz48 Try.byt48 Try.zero48 Try.agg49 Try.sz49 Try.byt49 Try.zero49 Try.agg50 Try.sz50 Try.byt50 Try.zero50 Try.agg51 Try.sz51 Try.byt51 Try.zero51 Try.agg52 Try.sz52 Try.byt52 Try.zero52 Try.agg53 Try.sz53 Try.byt53 Try.zero53 Try.agg54 Try.sz54 Try.byt54 Try.zero54 Try.agg55 Try.sz55 Try.byt55 Try.el55 Try.zero55 Try.agg56 Try.sz56 Try.byt56 Try.zero56 Try.agg57 Try.sz57 Try.byt57 Try.zero57 Try.agg58 Try.sz58 Try.byt58 Try.zero58 Try.agg59 Try.sz59 Try.byt59 Try.zero59 Try.agg60 Try.sz60 Try.byt60 Try.zero60 Try.agg61 Try.sz61 Try.byt61 Try.zero61 Try.agg62 Try.sz62 Try.byt62 Try.zero62 Try.agg64 Try.sz64 Try.byt64 Try.zero64 Try.agg65 Try.sz65 Try.byt65 Try.zero65 Try.agg66 Try.sz66 Try.byt66 Try.zero66 Try.agg68 Try.sz68 Try.byt68 Try.zero68 Try.agg69 Try.sz69 Try.byt69 Try.zero69 Try.agg71 Try.sz71 Try.byt71 Try.zero71 Try.agg72 Try.sz72 Try.byt72 Try.zero72 Try.agg73 Try.sz73 Try.byt73 Try.zero73 Try.agg74 Try.sz74 Try.byt74 Try.zero74 Try.agg75 Try.sz75 Try.byt75 Try.zero75 Try.agg76 Try.sz76 Try.byt76 Try.zero76 Try.agg77 Try.sz77 Try.byt77 Try.zero77 Try.agg78 Try.sz78 Try.byt78 Try.zero78 Try.agg79 Try.sz79 Try.byt79 Try.zero79 Try.agg80 Try.sz80 Try.byt80 Try.zero80 Try.agg81 Try.sz81 Try.byt81 Try.zero81 Try.agg82 Try.sz82 Try.byt82 Try.zero82 Try.agg83 Try.sz83 Try.byt83 Try.zero83 Try.agg84 Try.sz84 Try.byt84 Try.zero84 Try.agg85 Try.sz85 Try.byt85 Try.zero85 Try.agg86 Try.sz86 Try.byt86 Try.zero86 Try.agg87 Try.sz87 Try.byt87 Try.zero87 Try.agg88 Try.sz88 Try.byt88 Try.zero88 Try.agg89 Try.sz89 Try.byt89 Try.el89 Try.zero89 Try.agg90 Try.sz90 Try.byt90 Try.zero90 Try.agg91 Try.sz91 Try.byt91 Try.zero91 Try.agg92 Try.sz92 Try.byt92 Try.zero92 Try.agg93 Try.sz93 Try.byt93 Try.zero93 Try.agg94 Try.sz94 Try.byt94 Try.zero94 Try.agg95 Try.sz95 Try.byt95 Try.zero95 Try.agg96 Try.sz96 Try.byt96 Try.zero96 Try.agg97 Try.sz97 Try.byt97 Try.zero97 Try.agg98 Try.sz98 Try.byt98 Try.zero98 Try.agg99 Try.sz99 Try.byt99 Try.zero99 Try.agg100 Try.sz100 Try.byt100 Try.zero100 Try.agg101 Try.sz101 Try.byt101 Try.zero101 Try.agg102 Try.sz102 Try.byt102 Try.zero102 Try.agg103 Try.sz103 Try.byt103 Try.zero103 Try.agg104 Try.sz104 Try.byt104 Try.zero104 Try.agg105 Try.sz105 Try.byt105 Try.zero105 Try.agg106 Try.sz106 Try.byt106 Try.zero106 Try.agg107 Try.sz107 Try.byt107 Try.zero107 Try.agg108 Try.sz108 Try.byt108 Try.zero108 Try.agg109 Try.sz109 Try.byt109 Try.zero109 Try.agg110 Try.sz110 Try.byt110 Try.zero110 Try.agg111 Try.sz111 Try.byt111 Try.zero111 Try.agg112 Try.sz112 Try.byt112 Try.zero112 Try.agg113 Try.sz113 Try.byt113 Try.zero113 Try.agg114 Try.sz114 Try.byt114 Try.zero114 Try.agg115 Try.sz115 Try.byt115 Try.zero115 Try.agg116 Try.sz116 Try.byt116 Try.zero116 Try.body0 Try.body1 Try.body2 Try.body3 Try.body4 Try.body5 Try.body6 Try.body7 Try.body8 Try.body9 Try.body10 Try.body11 Try.body12 Try.body13 Try.body14 Try.body15 Try.body16 Try.body17 Try.body18 Try.body19 Try.body20 Try.body21 Try.body22 Try.body23 Try.body24 Try.body25 Try.body26 Try.body27 Try.body28 Try.body29 Try.body30 Try.body31 Try.body32 Try.body33 Try.body34 Try.body35 Try.body36 Try.body37 Try.body38 Try.body39 Try.body40 Try.body41 Try.body42 Try.body43 Try.body44 Try.body45 Try.body46 Try.body47 Try.body48 Try.body49 Try.body50 Try.body51 Try.body52 Try.body53 Try.body54 Try.body55 Try.body56 Try.body57 Try.body58 Try.body59 Try.body60 Try.body61 Try.body62 Try.body63 Try.body64 Try.body65 Try.body66 Try.body67 Try.body68 Try.body69 Try.body70 Try.body71 Try.body72 Try.body73 Try.body74 Try.body75 Try.body76 Try.body77 Try.body78 Try.body79 Try.build7 Try.build8 Try.build13 Try.build14 Try.build18 Try.build19 Try.bsl22 Try.bsl24 Try.bsl25 Try.bsl26 Try.build27 Try.build28 Try.build29 Try.build30 Try.build31 Try.build32 Try.bsl35 Try.bsl38 Try.build39 Try.build40 Try.build42 Try.build43 Try.bsl44 Try.build50 Try.bsl55 Try.bsl89 Try.build90 Try.build91 Try.build102 Try.build103 Try.build105 Try.build106 Try.build114 Try.build115 Try.underlying1 Try.underlying2 Try.underlying3 Try.underlying4 Try.underlying5 Try.underlying6 Try.underlying7 Try.underlying8 Try.underlying9 Try.underlying10 Try.underlying11 Try.underlying12 Try.underlying13 Try.underlying14 Try.underlying15 Try.underlying16 Try.underlying17 Try.underlying18 Try.underlying19 Try.underlying20 Try.underlying21 Try.underlying22 Try.underlying23 Try.underlying24 Try.underlying25 Try.underlying26 Try.underlying27 Try.underlying28 Try.underlying29 Try.underlying30 Try.underlying31 Try.underlying32 Try.underlying33 Try.underlying34 Try.underlying35 Try.underlying36 Try.underlying37 Try.underlying38 Try.underlying39 Try.underlying40 Try.underlying41 Try.underlying42 Try.underlying43 Try.underlying44 Try.underlying46 Try.underlying48 Try.underlying49 Try.underlying50 Try.underlying51 Try.underlying52 Try.underlying53 Try.underlying54 Try.underlying55 Try.underlying56 Try.underlying57 Try.underlying58 Try.underlying59 Try.underlying60 Try.underlying61 Try.underlying62 Try.underlying64 Try.underlying65 Try.underlying66 Try.underlying68 Try.underlying69 Try.underlying71 Try.underlying72 Try.underlying73 Try.underlying74 Try.underlying75 Try.underlying76 Try.underlying77 Try.underlying78 Try.underlying79 Try.underlying80 Try.underlying81 Try.underlying82 Try.underlying83 Try.underlying84 Try.underlying85 Try.underlying86 Try.underlying87 Try.underlying88 Try.underlying89 Try.underlying90 Try.underlying91 Try.underlying92 Try.underlying93 Try.underlying94 Try.underlying95 Try.underlying96 Try.underlying97 Try.underlying98 Try.underlying99 Try.underlying100 Try.underlying101 Try.underlying102 Try.underlying103 Try.underlying104 Try.underlying105 Try.underlying106 Try.underlying107 Try.underlying108 Try.underlying109 Try.underlying110 Try.underlying111 Try.underlying112 Try.underlying113 Try.underlying114 Try.underlying115 Try.underlying116
theorem Try.enters13 : Enters Try.prog 13 := enters_of Try.func13 rfl (by kernel_rfl)
structure StT where
  vers : List VerT
  seqs : List Int
  last : List ReplyT
structure ReqT where
  client : Int
  seq : Int
  op : VOp
def ReqC (A : St) (r : ReqT) (cs : List Value) : Prop := ∃ oc, cs = .int .i64 r.client :: .int .u32 r.seq :: oc ∧ VOpC A r.op oc
theorem ReqC.ge {A A' : St} {r : ReqT} {cs : List Value} (h : ReqC A r cs) (g : Ge A A') : ReqC A' r cs := by
  obtain ⟨oc, rfl, h⟩ := h; exact ⟨oc, rfl, h.ge g⟩
theorem VOpC.len {A : St} {o : VOp} {cs : List Value} (h : VOpC A o cs) : cs.length = 6 := by
  obtain ⟨vs, rfl, h⟩ := h; rw [List.length_cons, List.length_cons, h.len]
theorem VOpC.cell {A : St} {o : VOp} {cs : List Value} (h : VOpC A o cs) : cs.all cell1 = true := by
  obtain ⟨vs, rfl, h⟩ := h; rw [List.all_cons, List.all_cons, h.cell]; rfl
theorem ReqC.len {A : St} {r : ReqT} {cs : List Value} (h : ReqC A r cs) : cs.length = 8 := by
  obtain ⟨oc, rfl, h⟩ := h; rw [List.length_cons, List.length_cons, h.len]
theorem ReqC.cell {A : St} {r : ReqT} {cs : List Value} (h : ReqC A r cs) : cs.all cell1 = true := by
  obtain ⟨oc, rfl, h⟩ := h; rw [List.all_cons, List.all_cons, h.cell]; rfl
/-- A vault's state: its cells. -/
def StC (A : St) (S : StT) (cs : List Value) : Prop := ∃ v rs, cs = v :: (S.seqs.map (Value.int .u32 ·) ++ rs.flatten) ∧ VsV A S.vers v ∧ All2 (RepC A) S.last rs ∧ S.seqs.length = 3 ∧ S.last.length = 3
theorem StC.ge {A A' : St} {S : StT} {cs : List Value} (h : StC A S cs) (g : Ge A A') : StC A' S cs := by
  obtain ⟨v, rs, h1, h2, h3, h4⟩ := h
  exact ⟨v, rs, h1, h2.ge g, h3.imp (fun _ _ h => h.ge g), h4⟩
theorem reps_cell {A : St} {l : List ReplyT} {rs : List (List Value)} (h : All2 (RepC A) l rs) : rs.flatten.all cell1 = true ∧ (∀ cs ∈ rs, cs.length = 6) := by
  induction h with
  | nil => exact ⟨rfl, fun cs h => (by cases h)⟩
  | cons h _ ih => exact ⟨by rw [List.flatten_cons, List.all_append, h.cell, ih.1]; rfl, fun cs hc => by rcases List.mem_cons.1 hc with rfl | hc; exact h.len; exact ih.2 cs hc⟩
theorem StC.len {A : St} {S : StT} {cs : List Value} (h : StC A S cs) : cs.length = 22 ∧ cs.all cell1 = true := by
  obtain ⟨v, rs, rfl, h2, h3, h4, h5⟩ := h
  obtain ⟨h6, h7⟩ := reps_cell h3
  have h8 : rs.length = 3 := by rw [← h3.length]; exact h5
  refine ⟨by rw [List.length_cons, List.length_append, List.length_map, flat_len h7, h4, h8], ?_⟩
  obtain ⟨ad, c, rfl⟩ := h2.sl
  rw [List.all_cons, List.all_append, h6, List.all_map]
  simp [cell1]
/-- One client's part of a state. -/
theorem StC.at {A : St} {S : StT} {cs : List Value} (h : StC A S cs) {c : Nat} (hc : c < 3) : ∃ q R rc, S.seqs[c]? = some q ∧ S.last[c]? = some R ∧ cs[1 + c]? = some (.int .u32 q) ∧ (cs.drop (4 + c * 6)).take 6 = rc ∧ RepC A R rc := by
  obtain ⟨v, rs, rfl, h2, h3, h4, h5⟩ := h
  obtain ⟨h6, h7⟩ := reps_cell h3
  obtain ⟨q, hq⟩ : ∃ q, S.seqs[c]? = some q := ⟨S.seqs[c]'(by omega), List.getElem?_eq_getElem _⟩
  obtain ⟨R, hR⟩ : ∃ q, S.last[c]? = some q := ⟨S.last[c]'(by omega), List.getElem?_eq_getElem _⟩
  obtain ⟨rc, hrc, hrep⟩ := h3.get hR
  refine ⟨q, R, rc, hq, hR, ?_, ?_, hrep⟩
  · rw [Nat.add_comm, List.getElem?_cons_succ, List.getElem?_append_left (by rw [List.length_map]; omega), List.getElem?_map, hq]; rfl
  · rw [show 4 + c * 6 = (3 + c * 6) + 1 by omega, List.drop_succ_cons, ← List.drop_drop, List.drop_left' (by rw [List.length_map]; exact h4)]
    exact flat_elem h7 hrc
theorem StC.set {A : St} {S : StT} {v : Value} {tl : List Value} (h : StC A S (v :: tl)) {A' : St} (g : Ge A A') {l' : List VerT} {v' : Value} (hv : VsV A' l' v') {c : Nat} (hc : c < 3) (q : Int) {x : ReplyT} {rc : List Value} (hx : RepC A' x rc) :
    StC A' ⟨l', S.seqs.set c q, S.last.set c x⟩ (setList ((v' :: tl).set (1 + c) (.int .u32 q)) (4 + c * 6) rc) := by
  obtain ⟨v0, rs, e, h2, h3, h4, h5⟩ := h.ge g
  obtain ⟨rfl, rfl⟩ := List.cons.inj e
  obtain ⟨h6, h7⟩ := reps_cell h3
  obtain ⟨sq, la⟩ : ∃ x : Nat, True := ⟨0, trivial⟩
  obtain ⟨vers, seqs, last⟩ := S
  simp only at h2 h3 h4 h5 ⊢
  match seqs, h4 with
  | [s0, s1, s2], _ =>
  cases h3 with
  | nil => simp at h5
  | cons a0 h3 =>
  cases h3 with
  | nil => simp at h5
  | cons a1 h3 =>
  cases h3 with
  | nil => simp at h5
  | cons a2 h3 =>
  cases h3 with
  | cons a3 h3 => simp at h5
  | nil =>
  rename_i R0 r0 R1 r1 R2 r2
  have l0 := a0.len
  have l1 := a1.len
  have l2 := a2.len
  have lx := hx.len
  have hc' : c = 0 ∨ c = 1 ∨ c = 2 := by omega
  rcases hc' with rfl | rfl | rfl
  · refine ⟨v', [rc, r1, r2], ?_, hv, .cons hx (.cons a1 (.cons a2 .nil)), rfl, rfl⟩
    have := setList_mid [v', .int .u32 q, .int .u32 s1, .int .u32 s2] r0 (r1 ++ (r2 ++ [])) rc (by omega)
    exact this
  · refine ⟨v', [r0, rc, r2], ?_, hv, .cons a0 (.cons hx (.cons a2 .nil)), rfl, rfl⟩
    have := setList_mid ([v', .int .u32 s0, .int .u32 q, .int .u32 s2] ++ r0) r1 (r2 ++ []) rc (by omega)
    rw [List.length_append, l0, List.append_assoc, List.append_assoc] at this
    exact this
  · refine ⟨v', [r0, r1, rc], ?_, hv, .cons a0 (.cons a1 (.cons hx .nil)), rfl, rfl⟩
    have := setList_mid ([v', .int .u32 s0, .int .u32 s1, .int .u32 q] ++ (r0 ++ r1)) r2 [] rc (by omega)
    rw [List.length_append, List.length_append, l0, l1, List.append_assoc, List.append_assoc, List.append_assoc, List.append_assoc] at this
    exact this
def applyS (S : StT) (r : ReqT) : StT × ReplyT :=
  if r.client < 0 ∨ 3 ≤ r.client ∨ r.seq = 0 then (S, errR 170)
  else if r.seq = S.seqs.getD r.client.toNat 0 then (S, S.last.getD r.client.toNat (errR 0))
  else if r.seq < S.seqs.getD r.client.toNat 0 then (S, errR 171)
  else (⟨(doL S.vers r.op).1, S.seqs.set r.client.toNat r.seq, S.last.set r.client.toNat (doL S.vers r.op).2⟩, (doL S.vers r.op).2)
def ApPost (A : St) (L : List Nat) (x : StT × ReplyT) (e : Ending) (A' : St) : Prop := ∃ cs rc, e = .returned (.tuple #[.agg cs.toArray, .agg rc.toArray]) ∧ Over A A' ∧ StC (A'.hide L) x.1 cs ∧ RepC (A'.hide L) x.2 rc
def ReqT.ok (r : ReqT) : Prop := 0 ≤ r.seq ∧ r.seq < 4294967296 ∧ 0 ≤ r.op.id ∧ r.op.id < 4294967296 ∧ r.op.v.small
abbrev zState : List Value := [.slice none 0 0, .int .u32 0, .int .u32 0, .int .u32 0, .int .i64 0, .slice none 0 0, .int .u32 0, .slice none 0 0, .slice none 0 0, .slice none 0 0, .int .i64 0, .slice none 0 0, .int .u32 0, .slice none 0 0, .slice none 0 0, .slice none 0 0, .int .i64 0, .slice none 0 0, .int .u32 0, .slice none 0 0, .slice none 0 0, .slice none 0 0]
abbrev zReply : List Value := [.int .i64 0, .slice none 0 0, .int .u32 0, .slice none 0 0, .slice none 0 0, .slice none 0 0]
set_option maxHeartbeats 8000000 in
theorem apply_ok (w0 : World) (A : St) (L : List Nat) (hL : ∀ b ∈ L, b < A.next) (S : StT) (cs : List Value) (r : ReqT) (qc : List Value) (hS : StC (A.hide L) S cs) (hr : ReqC (A.hide L) r qc) (hok : r.ok) (hl : S.vers.length ≤ 1000000) :
    ACalls Try.prog w0 13 #[.agg cs.toArray, .agg qc.toArray] A (ApPost A L (applyS S r)) := by
  obtain ⟨hs22, hsc⟩ := hS.len
  have hq8 := hr.len
  have hqc := hr.cell
  have hr0 := hr
  obtain ⟨oc, rfl, ho⟩ := hr
  have ho6 := ho.len
  have htk : cs.take 22 = cs := List.take_of_length_le (by omega)
  have hotk : oc.take 6 = oc := List.take_of_length_le (by omega)
  obtain ⟨k1, k2, k3, k4, k5⟩ := hok
  generalize hB : (((A.alloc (.cells cs 43 (some 0))).alloc (.cells (.int .i64 r.client :: .int .u32 r.seq :: oc) 32 (some 0))).alloc (.cells zState 43 (some 0))).alloc (.cells zReply 40 (some 0)) = B
  have oB : Over A B := by rw [← hB]; exact (((Over.refl A).alloc _).alloc _).alloc _ |>.alloc _
  have nB : B.next = A.next + 4 := by rw [← hB]; rfl
  have b0 : B.get A.next = some (.cells cs 43 (some 0)) := by rw [← hB]; simp (disch := (first | omega | (simp only [nx_alloc, nx_upd, len_cons, len_nil, List.length_set, List.length_map, List.length_append] <;> omega) | fail)) only [St.get_upd, St.get_alloc, St.next_alloc, St.next_upd, ↓reduceIte, natF_lt, natF_gt, natF_ne, Nat.add_assoc, Nat.reduceAdd, Nat.reduceEqDiff, Nat.add_left_cancel_iff]
  have b1 : B.get (A.next + 1) = some (.cells (.int .i64 r.client :: .int .u32 r.seq :: oc) 32 (some 0)) := by rw [← hB]; simp (disch := (first | omega | (simp only [nx_alloc, nx_upd, len_cons, len_nil, List.length_set, List.length_map, List.length_append] <;> omega) | fail)) only [St.get_upd, St.get_alloc, St.next_alloc, St.next_upd, ↓reduceIte, natF_lt, natF_gt, natF_ne, Nat.add_assoc, Nat.reduceAdd, Nat.reduceEqDiff, Nat.add_left_cancel_iff]
  have b2 : B.get (A.next + 2) = some (.cells zState 43 (some 0)) := by rw [← hB]; simp (disch := (first | omega | (simp only [nx_alloc, nx_upd, len_cons, len_nil, List.length_set, List.length_map, List.length_append] <;> omega) | fail)) only [St.get_upd, St.get_alloc, St.next_alloc, St.next_upd, ↓reduceIte, natF_lt, natF_gt, natF_ne, Nat.add_assoc, Nat.reduceAdd, Nat.reduceEqDiff, Nat.add_left_cancel_iff]
  have b3 : B.get (A.next + 3) = some (.cells zReply 40 (some 0)) := by rw [← hB]; simp (disch := (first | omega | (simp only [nx_alloc, nx_upd, len_cons, len_nil, List.length_set, List.length_map, List.length_append] <;> omega) | fail)) only [St.get_upd, St.get_alloc, St.next_alloc, St.next_upd, ↓reduceIte, natF_lt, natF_gt, natF_ne, Nat.add_assoc, Nat.reduceAdd, Nat.reduceEqDiff, Nat.add_left_cancel_iff]
  have stop : ∀ (x : ReplyT) (rc : List Value), RepC (A.hide L) x rc → applyS S r = (S, x) → ∀ A', A' = (B.upd (A.next + 2) (some (.cells cs 43 (some 0)))).upd (A.next + 3) (some (.cells rc 40 (some 0))) → GcE A (ApPost A L (applyS S r)) (.returned (.tuple #[.agg cs.toArray, .agg rc.toArray])) A' := by
    rintro x rc hx he A' rfl
    have o5 : Over A ((B.upd (A.next + 2) (some (.cells cs 43 (some 0)))).upd (A.next + 3) (some (.cells rc 40 (some 0)))) := (oB.upd (by omega) _).upd (by omega) _
    rw [he]
    exact gc_here ⟨cs, rc, rfl, o5, hS.ge (hide_over o5 L), hx.ge (hide_over o5 L)⟩
  have hst2 : ∀ X, storeC X (some 22) (some (.cells zState 43 (some 0))) (A.next + 2) 0 (.agg cs.toArray) = some (X.upd (A.next + 2) (some (.cells cs 43 (some 0)))) := fun X => stN rfl hs22 hsc
  unfold zState zReply at hB
  unfold zState at b2
  unfold zReply at b3
  unfold zState at hst2
  refine call_E Try.enters13 Try.func13 rfl (Nat.le_of_ble_eq_true rfl) fun hw hbd => ?_
  by_cases hbad : r.client < 0 ∨ 3 ≤ r.client ∨ r.seq = 0
  · have he : applyS S r = (S, errR 170) := if_pos hbad
    have hs := stop (errR 170) (errC 170) (errC_rep _ _) he
    unfold errC at hs
    rcases hbad with h | h | h
    · simp (maxSteps := 1000000) (disch := (first | omega | (simp only [nx_alloc, nx_upd, len_cons, len_nil, List.length_set, List.length_map, List.length_append] <;> omega) | fail)) only [Nat.reduceAdd, Nat.reduceSub, Nat.reduceMul, Nat.reduceLT, Nat.reduceLeDiff, Nat.reduceEqDiff, ↓reduceIte, reduceCtorEq, Int.reduceAdd, Int.reduceSub, Int.reduceMul, Int.reduceLT, Int.reduceLE, Int.reduceEq, Int.reduceNe, Int.reduceToNat, Int.reduceNeg, go_sem, Try.ntmps13, Try.results13]
      rw [hB]
      simp (maxSteps := 1000000) (disch := (first | omega | (simp only [nx_alloc, nx_upd, len_cons, len_nil, List.length_set, List.length_map, List.length_append] <;> omega) | fail)) only [Nat.reduceAdd, Nat.reduceSub, Nat.reduceMul, Nat.reduceLT, Nat.reduceLeDiff, Nat.reduceEqDiff, ↓reduceIte, reduceCtorEq, Int.reduceAdd, Int.reduceSub, Int.reduceMul, Int.reduceLT, Int.reduceLE, Int.reduceEq, Int.reduceNe, Int.reduceToNat, Int.reduceNeg, go_sem, b0, b2, b3, htk, hst2, Try.results13]
      exact hs _ rfl
    · have h1 : ¬ r.client < 0 := by omega
      have h2 : r.client ≥ 3 := h
      simp (maxSteps := 1000000) (disch := (first | omega | (simp only [nx_alloc, nx_upd, len_cons, len_nil, List.length_set, List.length_map, List.length_append] <;> omega) | fail)) only [Nat.reduceAdd, Nat.reduceSub, Nat.reduceMul, Nat.reduceLT, Nat.reduceLeDiff, Nat.reduceEqDiff, ↓reduceIte, reduceCtorEq, Int.reduceAdd, Int.reduceSub, Int.reduceMul, Int.reduceLT, Int.reduceLE, Int.reduceEq, Int.reduceNe, Int.reduceToNat, Int.reduceNeg, go_sem, Try.ntmps13, Try.results13]
      rw [hB]
      simp (maxSteps := 1000000) (disch := (first | omega | (simp only [nx_alloc, nx_upd, len_cons, len_nil, List.length_set, List.length_map, List.length_append] <;> omega) | fail)) only [Nat.reduceAdd, Nat.reduceSub, Nat.reduceMul, Nat.reduceLT, Nat.reduceLeDiff, Nat.reduceEqDiff, ↓reduceIte, reduceCtorEq, Int.reduceAdd, Int.reduceSub, Int.reduceMul, Int.reduceLT, Int.reduceLE, Int.reduceEq, Int.reduceNe, Int.reduceToNat, Int.reduceNeg, go_sem, b0, b2, b3, htk, hst2, Try.results13]
      exact hs _ rfl
    · by_cases h1 : r.client < 0
      · simp (maxSteps := 1000000) (disch := (first | omega | (simp only [nx_alloc, nx_upd, len_cons, len_nil, List.length_set, List.length_map, List.length_append] <;> omega) | fail)) only [Nat.reduceAdd, Nat.reduceSub, Nat.reduceMul, Nat.reduceLT, Nat.reduceLeDiff, Nat.reduceEqDiff, ↓reduceIte, reduceCtorEq, Int.reduceAdd, Int.reduceSub, Int.reduceMul, Int.reduceLT, Int.reduceLE, Int.reduceEq, Int.reduceNe, Int.reduceToNat, Int.reduceNeg, go_sem, Try.ntmps13, Try.results13]
        rw [hB]
        simp (maxSteps := 1000000) (disch := (first | omega | (simp only [nx_alloc, nx_upd, len_cons, len_nil, List.length_set, List.length_map, List.length_append] <;> omega) | fail)) only [Nat.reduceAdd, Nat.reduceSub, Nat.reduceMul, Nat.reduceLT, Nat.reduceLeDiff, Nat.reduceEqDiff, ↓reduceIte, reduceCtorEq, Int.reduceAdd, Int.reduceSub, Int.reduceMul, Int.reduceLT, Int.reduceLE, Int.reduceEq, Int.reduceNe, Int.reduceToNat, Int.reduceNeg, go_sem, b0, b2, b3, htk, hst2, Try.results13]
        exact hs _ rfl
      by_cases h2 : r.client ≥ 3
      · simp (maxSteps := 1000000) (disch := (first | omega | (simp only [nx_alloc, nx_upd, len_cons, len_nil, List.length_set, List.length_map, List.length_append] <;> omega) | fail)) only [Nat.reduceAdd, Nat.reduceSub, Nat.reduceMul, Nat.reduceLT, Nat.reduceLeDiff, Nat.reduceEqDiff, ↓reduceIte, reduceCtorEq, Int.reduceAdd, Int.reduceSub, Int.reduceMul, Int.reduceLT, Int.reduceLE, Int.reduceEq, Int.reduceNe, Int.reduceToNat, Int.reduceNeg, go_sem, Try.ntmps13, Try.results13]
        rw [hB]
        simp (maxSteps := 1000000) (disch := (first | omega | (simp only [nx_alloc, nx_upd, len_cons, len_nil, List.length_set, List.length_map, List.length_append] <;> omega) | fail)) only [Nat.reduceAdd, Nat.reduceSub, Nat.reduceMul, Nat.reduceLT, Nat.reduceLeDiff, Nat.reduceEqDiff, ↓reduceIte, reduceCtorEq, Int.reduceAdd, Int.reduceSub, Int.reduceMul, Int.reduceLT, Int.reduceLE, Int.reduceEq, Int.reduceNe, Int.reduceToNat, Int.reduceNeg, go_sem, b0, b2, b3, htk, hst2, Try.results13]
        exact hs _ rfl
      have hB' := hB
      rw [h] at hB'
      simp (maxSteps := 1000000) (disch := (first | omega | (simp only [nx_alloc, nx_upd, len_cons, len_nil, List.length_set, List.length_map, List.length_append] <;> omega) | fail)) only [Nat.reduceAdd, Nat.reduceSub, Nat.reduceMul, Nat.reduceLT, Nat.reduceLeDiff, Nat.reduceEqDiff, ↓reduceIte, reduceCtorEq, Int.reduceAdd, Int.reduceSub, Int.reduceMul, Int.reduceLT, Int.reduceLE, Int.reduceEq, Int.reduceNe, Int.reduceToNat, Int.reduceNeg, go_sem, h, Try.ntmps13, Try.results13]
      rw [hB']
      simp (maxSteps := 1000000) (disch := (first | omega | (simp only [nx_alloc, nx_upd, len_cons, len_nil, List.length_set, List.length_map, List.length_append] <;> omega) | fail)) only [Nat.reduceAdd, Nat.reduceSub, Nat.reduceMul, Nat.reduceLT, Nat.reduceLeDiff, Nat.reduceEqDiff, ↓reduceIte, reduceCtorEq, Int.reduceAdd, Int.reduceSub, Int.reduceMul, Int.reduceLT, Int.reduceLE, Int.reduceEq, Int.reduceNe, Int.reduceToNat, Int.reduceNeg, go_sem, b0, b2, b3, htk, hst2, Try.results13]
      exact hs _ rfl
  have h1 : ¬ r.client < 0 := fun h => hbad (.inl h)
  have h2 : ¬ r.client ≥ 3 := fun h => hbad (.inr (.inl h))
  have h3 : ¬ r.seq = 0 := fun h => hbad (.inr (.inr h))
  obtain ⟨c, hc⟩ := Int.eq_ofNat_of_zero_le (show 0 ≤ r.client by omega)
  have hc3 : c < 3 := by omega
  obtain ⟨q, R, rc, e1, e2, e3, e4, e5⟩ := hS.at hc3
  have hap : applyS S r = if r.seq = q then (S, R) else if r.seq < q then (S, errR 171) else (⟨(doL S.vers r.op).1, S.seqs.set c r.seq, S.last.set c (doL S.vers r.op).2⟩, (doL S.vers r.op).2) := by
    unfold applyS
    rw [if_neg hbad, hc, Int.toNat_natCast, List.getD_eq_getElem?_getD, e1, List.getD_eq_getElem?_getD, e2]; rfl
  by_cases hsq : r.seq = q
  · rw [if_pos hsq] at hap
    have hs := stop R rc e5 hap
    have hstr := stN (n := 6) (X := B.upd (A.next + 2) (some (.cells cs 43 (some 0)))) (b := A.next + 3) (z := zReply) (e := 40) rfl e5.len e5.cell
    unfold zReply at hstr
    simp (maxSteps := 1000000) (disch := (first | omega | (simp only [nx_alloc, nx_upd, len_cons, len_nil, List.length_set, List.length_map, List.length_append] <;> omega) | fail)) only [Nat.reduceAdd, Nat.reduceSub, Nat.reduceMul, Nat.reduceLT, Nat.reduceLeDiff, Nat.reduceEqDiff, ↓reduceIte, reduceCtorEq, Int.reduceAdd, Int.reduceSub, Int.reduceMul, Int.reduceLT, Int.reduceLE, Int.reduceEq, Int.reduceNe, Int.reduceToNat, Int.reduceNeg, go_sem, Try.ntmps13, Try.results13]
    rw [hB]
    simp (maxSteps := 1000000) (disch := (first | omega | (simp only [nx_alloc, nx_upd, len_cons, len_nil, List.length_set, List.length_map, List.length_append] <;> omega) | fail)) only [Nat.reduceAdd, Nat.reduceSub, Nat.reduceMul, Nat.reduceLT, Nat.reduceLeDiff, Nat.reduceEqDiff, ↓reduceIte, reduceCtorEq, Int.reduceAdd, Int.reduceSub, Int.reduceMul, Int.reduceLT, Int.reduceLE, Int.reduceEq, Int.reduceNe, Int.reduceToNat, Int.reduceNeg, go_sem, hc, b0, b1, e3, hsq]
    refine aw_draw2 [⟨false, [], [0]⟩, ⟨false, [], [0, 1]⟩, ⟨false, [], [0, 1]⟩, ⟨false, [1, 2], [0, 1]⟩, ⟨false, [1, 2, 3], [0, 1]⟩, ⟨true, [0], [0]⟩, ⟨true, [0, 1, 2, 3, 4, 5], [1]⟩] [B, B.upd (A.next + 2) (some (.cells cs 43 (some 0))), (B.upd (A.next + 2) (some (.cells cs 43 (some 0)))).upd (A.next + 3) (some (.cells rc 40 (some 0)))] 2 (by kernel_rfl) (by kernel_rfl) rfl ?_
    have hldr := ldN (n := 6) (e := 40) (m := some 0) e5.len
    simp (maxSteps := 1000000) (disch := (first | omega | (simp only [nx_alloc, nx_upd, len_cons, len_nil, List.length_set, List.length_map, List.length_append] <;> omega) | fail)) only [Nat.reduceAdd, Nat.reduceSub, Nat.reduceMul, Nat.reduceLT, Nat.reduceLeDiff, Nat.reduceEqDiff, ↓reduceIte, reduceCtorEq, Int.reduceAdd, Int.reduceSub, Int.reduceMul, Int.reduceLT, Int.reduceLE, Int.reduceEq, Int.reduceNe, Int.reduceToNat, Int.reduceNeg, go_sem, b0, b2, b3, htk, hst2, e4, hstr, hldr, Try.results13]
    exact hs _ rfl
  rw [if_neg hsq] at hap
  by_cases hlt : r.seq < q
  · rw [if_pos hlt] at hap
    have hs := stop (errR 171) (errC 171) (errC_rep _ _) hap
    unfold errC at hs
    simp (maxSteps := 1000000) (disch := (first | omega | (simp only [nx_alloc, nx_upd, len_cons, len_nil, List.length_set, List.length_map, List.length_append] <;> omega) | fail)) only [Nat.reduceAdd, Nat.reduceSub, Nat.reduceMul, Nat.reduceLT, Nat.reduceLeDiff, Nat.reduceEqDiff, ↓reduceIte, reduceCtorEq, Int.reduceAdd, Int.reduceSub, Int.reduceMul, Int.reduceLT, Int.reduceLE, Int.reduceEq, Int.reduceNe, Int.reduceToNat, Int.reduceNeg, go_sem, Try.ntmps13, Try.results13]
    rw [hB]
    simp (maxSteps := 1000000) (disch := (first | omega | (simp only [nx_alloc, nx_upd, len_cons, len_nil, List.length_set, List.length_map, List.length_append] <;> omega) | fail)) only [Nat.reduceAdd, Nat.reduceSub, Nat.reduceMul, Nat.reduceLT, Nat.reduceLeDiff, Nat.reduceEqDiff, ↓reduceIte, reduceCtorEq, Int.reduceAdd, Int.reduceSub, Int.reduceMul, Int.reduceLT, Int.reduceLE, Int.reduceEq, Int.reduceNe, Int.reduceToNat, Int.reduceNeg, go_sem, hc, b0, b1, e3, hsq, hlt, b2, b3, htk, hst2, Try.results13]
    exact hs _ rfl
  rw [if_neg hlt] at hap
  have hS0 := hS
  obtain ⟨v, rs, hcs, g1, g2, g3, g4⟩ := hS
  obtain ⟨g5, g6⟩ := reps_cell g2
  have hrs3 : rs.length = 3 := by rw [← g2.length]; exact g4
  obtain ⟨tl, htl⟩ : ∃ tl, tl = S.seqs.map (Value.int .u32 ·) ++ rs.flatten := ⟨_, rfl⟩
  rw [← htl] at hcs
  have htl21 : tl.length = 21 := by rw [htl, List.length_append, List.length_map, flat_len g6, g3, hrs3]
  have htlc : tl.all cell1 = true := by rw [htl, List.all_append, g5, List.all_map]; simp [cell1]
  subst hcs
  have hgB : Ge (A.hide L) (B.hide ((A.next + 3) :: (A.next + 2) :: A.next :: L)) := Ge.hide oB.next (fun b hb hbL => ⟨by simp only [List.mem_cons, not_or]; exact ⟨by omega, by omega, by omega, hbL⟩, oB.get b hb⟩)
  have hLB : ∀ b ∈ (A.next + 3) :: (A.next + 2) :: A.next :: L, b < B.next := by
    intro b hb
    simp only [List.mem_cons] at hb
    rcases hb with rfl | rfl | rfl | hb
    · omega
    · omega
    · omega
    · have := hL b hb; omega
  have hdo := do_ok w0 B _ hLB S.vers v tl r.op oc (g1.ge hgB) (ho.ge hgB) hl htl21 htlc ⟨k3, k4⟩ k5
  simp (maxSteps := 1000000) (disch := (first | omega | (simp only [nx_alloc, nx_upd, len_cons, len_nil, List.length_set, List.length_map, List.length_append] <;> omega) | fail)) only [Nat.reduceAdd, Nat.reduceSub, Nat.reduceMul, Nat.reduceLT, Nat.reduceLeDiff, Nat.reduceEqDiff, ↓reduceIte, reduceCtorEq, Int.reduceAdd, Int.reduceSub, Int.reduceMul, Int.reduceLT, Int.reduceLE, Int.reduceEq, Int.reduceNe, Int.reduceToNat, Int.reduceNeg, go_sem, Try.ntmps13, Try.results13]
  rw [hB]
  simp (maxSteps := 1000000) (disch := (first | omega | (simp only [nx_alloc, nx_upd, len_cons, len_nil, List.length_set, List.length_map, List.length_append] <;> omega) | fail)) only [Nat.reduceAdd, Nat.reduceSub, Nat.reduceMul, Nat.reduceLT, Nat.reduceLeDiff, Nat.reduceEqDiff, ↓reduceIte, reduceCtorEq, Int.reduceAdd, Int.reduceSub, Int.reduceMul, Int.reduceLT, Int.reduceLE, Int.reduceEq, Int.reduceNe, Int.reduceToNat, Int.reduceNeg, go_sem, hc, b0, b1, e3, hsq, hlt, b2, b3, htk, hotk]
  refine hdo.mono ?_
  rintro _ B2 ⟨v', rc', rfl, o2, hv2, hr2⟩
  have n2 := o2.next
  have d0 : B2.get A.next = some (.cells (v :: tl) 43 (some 0)) := by rw [o2.get _ (by omega)]; exact b0
  have d1 : B2.get (A.next + 1) = some (.cells (.int .i64 r.client :: .int .u32 r.seq :: oc) 32 (some 0)) := by rw [o2.get _ (by omega)]; exact b1
  have d2 : B2.get (A.next + 2) = some (.cells zState 43 (some 0)) := by rw [o2.get _ (by omega)]; exact b2
  have d3 : B2.get (A.next + 3) = some (.cells zReply 40 (some 0)) := by rw [o2.get _ (by omega)]; exact b3
  rw [hc] at d1
  have hv2' : one1 v' = true := by obtain ⟨ad, n, rfl⟩ := hv2.sl; rfl
  have hD22 : (v' :: tl).length = 22 := by rw [List.length_cons, htl21]
  have hDc : (v' :: tl).all cell1 = true := by rw [List.all_cons, cellOf1 hv2', htlc]; rfl
  have r6 := hr2.len
  have rcell := hr2.cell
  have hstA := fun X => stN (n := 22) (X := X) (b := A.next) (z := v :: tl) (e := 43) hs22 hD22 hDc
  have hstB := fun X => stN (n := 6) (X := X) (b := B2.next) (z := zReply) (e := 40) rfl r6 rcell
  unfold zReply at hstB d3
  unfold zState at d2
  simp (maxSteps := 1000000) (disch := (first | omega | (simp only [nx_alloc, nx_upd, len_cons, len_nil, List.length_set, List.length_map, List.length_append] <;> omega) | fail)) only [Nat.reduceAdd, Nat.reduceSub, Nat.reduceMul, Nat.reduceLT, Nat.reduceLeDiff, Nat.reduceEqDiff, ↓reduceIte, reduceCtorEq, Int.reduceAdd, Int.reduceSub, Int.reduceMul, Int.reduceLT, Int.reduceLE, Int.reduceEq, Int.reduceNe, Int.reduceToNat, Int.reduceNeg, go_sem, d0, hstA, hstB]
  generalize hDD : v' :: tl = D at *
  obtain ⟨C0, hC0⟩ : ∃ C0, C0 = ((B2.alloc (.cells [.int .i64 0, .slice none 0 0, .int .u32 0, .slice none 0 0, .slice none 0 0, .slice none 0 0] 40 (some 0))).upd A.next (some (.cells D 43 (some 0)))).upd B2.next (some (.cells rc' 40 (some 0))) := ⟨_, rfl⟩
  rw [← hC0]
  have c0 : C0.get A.next = some (.cells D 43 (some 0)) := by rw [hC0, St.get_upd, if_neg (by omega), get_upd_same]
  have cx : ∀ b, b < B2.next → b ≠ A.next → C0.get b = B2.get b := fun b hb hne => by rw [hC0, St.get_upd, if_neg (by omega), St.get_upd, if_neg hne, get_alloc_old hb]
  have c1 := (cx (A.next + 1) (by omega) (by omega)).trans d1
  have c2 := (cx (A.next + 2) (by omega) (by omega)).trans d2
  have c3 := (cx (A.next + 3) (by omega) (by omega)).trans d3
  have c4 : C0.get B2.next = some (.cells rc' 40 (some 0)) := by rw [hC0, get_upd_same]
  have nC : C0.next = B2.next + 1 := by rw [hC0]; rfl
  clear hC0
  have hD1l : (D.set (1 + c) (.int .u32 r.seq)).length = 22 := by rw [List.length_set]; exact hD22
  have hldr := ldN (n := 6) (e := 40) (m := some 0) r6
  refine aw_draw2 [⟨false, [], [0]⟩, ⟨false, [], [0, 1]⟩, ⟨false, [], [0]⟩, ⟨false, [2], [0]⟩, ⟨false, [], [0, 1]⟩, ⟨false, [], [0]⟩, ⟨false, [0, 2, 3, 5], [0]⟩, ⟨true, [0, 2, 3, 5, 6], [0]⟩, ⟨false, [], [0, 1]⟩, ⟨false, [0, 1, 2, 3, 4, 5, 6, 7, 8], [1]⟩, ⟨true, [0, 1, 2, 3, 4, 5, 6, 7, 8, 9], [1]⟩] [C0, C0.upd A.next (some (.cells (D.set (1 + c) (.int .u32 r.seq)) 43 (some 0))), (C0.upd A.next (some (.cells (D.set (1 + c) (.int .u32 r.seq)) 43 (some 0)))).upd A.next (some (.cells (setList (D.set (1 + c) (.int .u32 r.seq)) (4 + c * 6) rc') 43 (some 0)))] 2 (by kernel_rfl) (by kernel_rfl) rfl ?_
  simp (maxSteps := 1000000) (disch := (first | omega | (simp only [nx_alloc, nx_upd, len_cons, len_nil, List.length_set, List.length_map, List.length_append] <;> omega) | fail)) only [Nat.reduceAdd, Nat.reduceSub, Nat.reduceMul, Nat.reduceLT, Nat.reduceLeDiff, Nat.reduceEqDiff, ↓reduceIte, reduceCtorEq, Int.reduceAdd, Int.reduceSub, Int.reduceMul, Int.reduceLT, Int.reduceLE, Int.reduceEq, Int.reduceNe, Int.reduceToNat, Int.reduceNeg, go_sem, hc, c0, c1, c4, hldr, rcell]
  have hD2l : (setList (D.set (1 + c) (.int .u32 r.seq)) (4 + c * 6) rc').length = 22 := by rw [setList_length]; exact hD1l
  have gF : ∀ F : St, (∀ b, b < B2.next → b ≠ A.next → b ≠ A.next + 2 → b ≠ A.next + 3 → F.get b = C0.get b) → B2.next ≤ F.next → Ge (B2.hide ((A.next + 3) :: (A.next + 2) :: A.next :: L)) (F.hide L) := by
    intro F hF hn
    refine Ge.hide hn (fun b hb hbL => ?_)
    simp only [List.mem_cons, not_or] at hbL
    obtain ⟨x3, x2, x0, xL⟩ := hbL
    exact ⟨xL, by rw [hF b hb x0 x2 x3, cx b hb x0]⟩
  generalize hD2 : setList (D.set (1 + c) (.int .u32 r.seq)) (4 + c * 6) rc' = D2 at *
  obtain ⟨C2, hC2⟩ : ∃ C2, C2 = (C0.upd A.next (some (.cells (D.set (1 + c) (.int .u32 r.seq)) 43 (some 0)))).upd A.next (some (.cells D2 43 (some 0))) := ⟨_, rfl⟩
  rw [← hC2]
  have e0 : C2.get A.next = some (.cells D2 43 (some 0)) := by rw [hC2, get_upd_same]
  have ex : ∀ b, b ≠ A.next → C2.get b = C0.get b := fun b hne => by rw [hC2, St.get_upd, if_neg hne, St.get_upd, if_neg hne]
  have f2 := (ex (A.next + 2) (by omega)).trans c2
  have f3 := (ex (A.next + 3) (by omega)).trans c3
  have f4 := (ex B2.next (by omega)).trans c4
  have nC2 : C2.next = B2.next + 1 := by rw [hC2]; exact nC
  clear hC2
  have oF : Over A ((C2.upd (A.next + 2) (some (.cells D2 43 (some 0)))).upd (A.next + 3) (some (.cells rc' 40 (some 0)))) := by
    refine Over.upd (Over.upd ⟨by omega, fun b hb => ?_⟩ (by omega) _) (by omega) _
    rw [ex b (by omega), cx b (by omega) (by omega), o2.get b (by omega)]; exact oB.get b hb
  have gG := gF ((C2.upd (A.next + 2) (some (.cells D2 43 (some 0)))).upd (A.next + 3) (some (.cells rc' 40 (some 0)))) (fun b hb x0 x2 x3 => by rw [St.get_upd, if_neg x3, St.get_upd, if_neg x2, ex b x0]) (by simp only [nx_upd]; omega)
  have hfin := StC.set hS0 (hide_over oF L) (hv2.ge gG) hc3 r.seq (hr2.ge gG)
  rw [hDD, hD2] at hfin
  have hD2c := hfin.len.2
  have hst5 := stN (n := 22) (X := C2) (b := A.next + 2) (z := zState) (e := 43) rfl hD2l hD2c
  have hst6 := stN (n := 6) (X := C2.upd (A.next + 2) (some (.cells D2 43 (some 0)))) (b := A.next + 3) (z := zReply) (e := 40) rfl r6 rcell
  unfold zState at hst5
  unfold zReply at hst6
  have htk2 : D2.take 22 = D2 := List.take_of_length_le (by omega)
  refine aw_draw2 [⟨false, [], [0]⟩, ⟨false, [], [0, 1]⟩, ⟨true, [0], [0]⟩, ⟨true, [0, 1, 2], [1]⟩] [C2, C2.upd (A.next + 2) (some (.cells D2 43 (some 0))), (C2.upd (A.next + 2) (some (.cells D2 43 (some 0)))).upd (A.next + 3) (some (.cells rc' 40 (some 0)))] 2 (by kernel_rfl) (by kernel_rfl) rfl ?_
  simp (maxSteps := 1000000) (disch := (first | omega | (simp only [nx_alloc, nx_upd, len_cons, len_nil, List.length_set, List.length_map, List.length_append] <;> omega) | fail)) only [Nat.reduceAdd, Nat.reduceSub, Nat.reduceMul, Nat.reduceLT, Nat.reduceLeDiff, Nat.reduceEqDiff, ↓reduceIte, reduceCtorEq, Int.reduceAdd, Int.reduceSub, Int.reduceMul, Int.reduceLT, Int.reduceLE, Int.reduceEq, Int.reduceNe, Int.reduceToNat, Int.reduceNeg, go_sem, e0, f2, f3, f4, hldr, htk2, hst5, hst6, Try.results13]
  rw [hap]
  exact gc_here ⟨D2, rc', rfl, oF, hfin, hr2.ge gG⟩
end Go.Fw
