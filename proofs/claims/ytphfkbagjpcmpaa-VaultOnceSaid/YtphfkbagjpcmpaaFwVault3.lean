import Derived.Test.YtphfkbagjpcmpaaFwVault2
set_option linter.unusedSimpArgs false
set_option linter.unusedVariables false
namespace Go.Fw
open Go.Proofs Go.RowKit
attribute [local go_sem] List.length_cons List.length_nil Nat.zero_add Nat.add_zero Nat.zero_mul Nat.mul_one Int.toNat_zero Int.toNat_natCast List.map_cons List.map_nil List.map_toArray List.toList_toArray List.append_toArray List.append_eq List.nil_append List.cons_append List.append_nil List.all_toArray List.all_cons List.all_nil Bool.and_true Bool.true_and Bool.and_self List.getElem?_toArray List.getElem?_cons_zero List.getElem?_cons_succ List.set_cons_zero List.set_cons_succ List.drop_zero List.drop_succ_cons List.take_zero List.take_succ_cons Option.bind_some Option.map_some id true_and and_true and_self St.next_alloc St.next_upd beq_self_eq_true Bool.not_true Bool.not_false Bool.false_eq_true false_implies true_implies Option.isNone_none Option.isNone_some Option.isSome_none Option.isSome_some ge_iff_le gt_iff_lt Nat.sub_zero Nat.add_assoc IntWalk.i64_in IntWalk.u64_in IntWalk.u8_in IntWalk.u32_in IntWalk.i32_in IntWalk.u16_in dec_not Bool.not_eq_true decide_true decide_false ne_eq not_true_eq_false not_false_eq_true Bool.true_or Bool.or_true Bool.or_false Bool.false_or Bool.and_false Bool.false_and upd_apply rd_eq ar_zero ar_succ ar_nil tm_size tm_getD tm_set E_tmps E_defers put_E put_none eval_tmp eval_const eval_func setArgs_0 setArgs_1 setArgs_2 append_lit stepV_some stepA_some guardO_true ifB_true ifB_false wantV_true wantV_false wantV_dec_t wantV_dec_f ifB_dec_t ifB_dec_f condV_bool dec_and dec_or isB_bool someB_t someB_f okO_tmp okO_func okO_int okO_bool okO_string okO_ptr0 okO_slice0 okO_nilFunc okO_nilIface okO_map0 okO_agg wanted_none wanted_some lookT_some aopsL_nil aopsL_cons wpA_skip wpA_label wpA_exit wpA_goto wpA_ret wpA_seq wpA_block wpA_region wpA_cond wpA_loop wpA_rangeFunc wpA_draw thenQ_normal thenQ_exit thenQ_ret thenQ_panic blockQ_normal blockQ_ret blockQ_panic blockQ_exit funQ_ret funQ_normal funQ_panic op_move op_assign pickV_or pickV_and pickV_t pickV_f pickV_true pickV_false op_pick allocV_some op_alloc op_box op_load op_nilCheck op_bin op_lookup bptr btype op_un op_convert op_makeInterface op_makeSlice op_fieldAddr op_field op_indexAddr op_index op_extract op_typeAssert storeV_some op_store op_makeMap op_mapUpdate op_slice00 op_slice10 op_slice01 op_slice11 op_slice111 op_slice011 op_makeFunc callV_true op_call op_builtin panicV_iface op_panic ACallV_func ACallF_false ACallF_true ACallV_yield afterCall_returned afterCall_panicked bin_add bin_sub bin_mul bin_and bin_or bin_xor bin_andNot bin_eql bin_neq bin_lss bin_leq bin_gtr bin_geq mval_some mval_none lookup_map lookU_map lookK_smap mapSet_map msetU_map msetK_int conv_to conv_from unsT_cells unsF_cells bin_same bin_nil bdata_nil bdata_some builtin_data builtin_str bin_quo bin_rem bin_shl bin_shr bin_sadd bin_seql bin_sneq bin_slss uB_bool bin_beql bin_bneq uP_pointer bin_peql bin_pneq uS_slice bin_leql bin_lneq bin_ieql bin_ineq un_neg un_xor un_not nilCheck_ptr nilCheck_func nilCheck_yield load_ptr loadC_one loadC_agg store_ptr slice_eq sliceU_string sliceU_slice sliceU_array sliceS_eq boundsS_some sliceL_eq boundsL_nil boundsL_exact boundsL_least boundsL_own boundsL_ownN bounds_11 bounds_10 bounds_01 bounds_00 builtin_len len_string len_array len_slice builtin_append builtin_copy pairA_some builtin_min builtin_max min_two max_two index_eq index_string index_array indexAddr_eq indexAddr_array indexAddr_slice fieldAddr_eq posO_some fAddr_some fieldAddr_struct partC_some field_eq field_struct part_eq partU_one partU_agg extract_tuple conv_eq conv_int conv_string u8O_u8 conv_bytes conv_text_nil conv_text_zero conv_text mkIface_eq get_upd_same consO_some finR_0 finR_1 finR_2 aresL_nil aresL_cons ares1_tmp ares1_cell retV_some aleave_nil aleave_coll bnd_int bnd_bool bnd_string bnd_nilIface bnd_slice0 bnd_iface bnd_slice bnd_ptr bnd_ptr0 bndL_nil bndL_cons bndA_lit bnd_tuple bnd_agg calm_same skipC_eq aopsC_nil aopsC_cons stepC_call stepC_move stepC_assign stepC_pick stepC_alloc stepC_box stepC_build stepC_buildSlice stepC_load stepC_store stepC_nilCheck stepC_binOp stepC_unOp stepC_convert stepC_makeInterface stepC_makeFunc stepC_makeSlice stepC_slice stepC_fieldAddr stepC_field stepC_indexAddr stepC_index stepC_extract stepC_typeAssert stepC_lookup stepC_mapUpdate stepC_makeMap stepC_builtin to_same sameA_eq aopsX_nil aopsX_cons stepX_heavy stepX_light lightK_eq allC_nil allC_cons hs_zero hs_succ stepT_call pure_call stepT_move pure_move stepT_assign pure_assign stepT_pick pure_pick stepT_alloc pure_alloc stepT_box pure_box stepT_build pure_build stepT_buildSlice pure_buildSlice stepT_load pure_load stepT_store pure_store stepT_nilCheck pure_nilCheck stepT_binOp pure_binOp stepT_unOp pure_unOp stepT_convert pure_convert stepT_makeInterface pure_makeInterface stepT_makeFunc pure_makeFunc stepT_makeSlice pure_makeSlice stepT_slice pure_slice stepT_fieldAddr pure_fieldAddr stepT_field pure_field stepT_indexAddr pure_indexAddr stepT_index pure_index stepT_extract pure_extract stepT_typeAssert pure_typeAssert stepT_lookup pure_lookup stepT_mapUpdate pure_mapUpdate stepT_makeMap pure_makeMap stepT_builtin pure_b_len pure_b_append pure_b_copy pure_b_min pure_b_max pure_b_unsafeSliceData pure_b_unsafeString leaveK_eq aleave_fn op_defer deferV_func resK_some defQ_ret defQ_normal storeC_int storeC_bool storeC_string storeC_slice storeC_func storeC_pointer len_cons len_nil cells_int cells_bool cells_string cells_slice cells_pointer cells_func cells_map cells_nilFunc cells_agg cell1_bool cell1_string cell1_slice cell1_pointer cell1_func cell1_i cell1_map cell1_nilFunc setList_nil setList_cons storeC_aggS fillP_nil fillP_cons fillAt_1 fillAt_n aggO_some sliceO_some places_0 places_s zerosR_0 zerosR_s thenElse_true evP_nil evP_cons okP_nil okP_cons op_buildL op_buildSliceL isBu_t isBu_f mk_E get_alloc_old get_alloc_new get_upd_old Try.agg1 Try.sz1 Try.byt1 Try.zero1 Try.agg2 Try.sz2 Try.byt2 Try.zero2 Try.agg3 Try.sz3 Try.byt3 Try.zero3 Try.agg4 Try.sz4 Try.byt4 Try.zero4 Try.agg5 Try.sz5 Try.byt5 Try.zero5 Try.agg6 Try.sz6 Try.byt6 Try.zero6 Try.agg7 Try.sz7 Try.byt7 Try.zero7 Try.agg8 Try.sz8 Try.byt8 Try.zero8 Try.agg9 Try.sz9 Try.byt9 Try.zero9 Try.agg10 Try.sz10 Try.byt10 Try.zero10 Try.agg11 Try.sz11 Try.byt11 Try.zero11 Try.agg12 Try.sz12 Try.byt12 Try.zero12 Try.agg13 Try.sz13 Try.byt13 Try.zero13 Try.agg14 Try.sz14 Try.byt14 Try.zero14 Try.agg15 Try.sz15 Try.byt15 Try.zero15 Try.agg16 Try.sz16 Try.byt16 Try.zero16 Try.agg17 Try.sz17 Try.byt17 Try.zero17 Try.agg18 Try.sz18 Try.byt18 Try.zero18 Try.agg19 Try.sz19 Try.byt19 Try.zero19 Try.agg20 Try.sz20 Try.byt20 Try.zero20 Try.agg21 Try.sz21 Try.byt21 Try.zero21 Try.agg22 Try.sz22 Try.byt22 Try.el22 Try.zero22 Try.agg23 Try.sz23 Try.byt23 Try.zero23 Try.agg24 Try.sz24 Try.byt24 Try.el24 Try.zero24 Try.agg25 Try.sz25 Try.byt25 Try.el25 Try.zero25 Try.agg26 Try.sz26 Try.byt26 Try.el26 Try.zero26 Try.agg27 Try.sz27 Try.byt27 Try.zero27 Try.agg28 Try.sz28 Try.byt28 Try.zero28 Try.agg29 Try.sz29 Try.byt29 Try.zero29 Try.agg30 Try.sz30 Try.byt30 Try.zero30 Try.agg31 Try.sz31 Try.byt31 Try.zero31 Try.agg32 Try.sz32 Try.byt32 Try.zero32 Try.agg33 Try.sz33 Try.byt33 Try.zero33 Try.agg34 Try.sz34 Try.byt34 Try.zero34 Try.agg35 Try.sz35 Try.byt35 Try.el35 Try.zero35 Try.agg36 Try.sz36 Try.byt36 Try.zero36 Try.agg37 Try.sz37 Try.byt37 Try.zero37 Try.agg38 Try.sz38 Try.byt38 Try.el38 Try.zero38 Try.agg39 Try.sz39 Try.byt39 Try.zero39 Try.agg40 Try.sz40 Try.byt40 Try.zero40 Try.agg41 Try.sz41 Try.byt41 Try.zero41 Try.agg42 Try.sz42 Try.byt42 Try.zero42 Try.agg43 Try.sz43 Try.byt43 Try.zero43 Try.agg44 Try.sz44 Try.byt44 Try.el44 Try.zero44 Try.agg46 Try.sz46 Try.byt46 Try.zero46 Try.agg48 Try.sz48 Try.byt48 Try.zero48 Try.agg49 Try.sz49 Try.byt49 Try.zero49 Try.agg50 Try.sz50 Try.byt50 Try.zero50 Try.agg51 Try.sz51 Try.byt51 Try.zero51 Try.agg52 Try.sz52 Try.byt52 Try.zero52 Try.agg53 Try.sz53 Try.byt53 Try.zero53 Try.agg54 Try.sz54 Try.byt54 Try.zero54 Try.agg55 Try.sz55 Try.byt55 Try.el55 Try.zero55 Try.agg56 Try.sz56 Try.byt56 Try.zero56 Try.agg57 Try.sz57 Try.byt57 Try.zero57 Try.agg58 Try.sz58 Try.byt58 Try.zero58 Try.agg59 Try.sz59 Try.byt59 Try.zero59 Try.agg60 Try.sz60 Try.byt60 Try.zero60 Try.agg61 Try.sz61 Try.byt61 Try.zero61 Try.agg62 Try.sz62 Try.byt62 Try.zero62 Try.agg64 Try.sz64 Try.byt64 Try.zero64 Try.agg65 Try.sz65 Try.byt65 Try.zero65 Try.agg66 Try.sz66 Try.byt66 Try.zero66 Try.agg68 Try.sz68 Try.byt68 Try.zero68 Try.agg69 Try.sz69 Try.byt69 Try.zero69 Try.agg71 Try.sz71 Try.byt71 Try.zero71 Try.agg72 Try.sz72 Try.byt72 Try.zero72 Try.agg73 Try.sz73 Try.byt73 Try.zero73 Try.agg74 Try.sz74 Try.byt74 Try.zero74 Try.agg75 Try.sz75 Try.byt75 Try.zero75 Try.agg76 Try.sz76 Try.byt76 Try.zero76 Try.agg77 Try.sz77 Try.byt77 Try.zero77 Try.agg78 Try.sz78 Try.byt78 Try.zero78 Try.agg79 Try.sz79 Try.byt79 Try.zero79 Try.agg80 Try.sz80 Try.byt80 Try.zero80 Try.agg81 Try.sz81 Try.byt81 Try.zero81 Try.agg82 Try.sz82 Try.byt82 Try.zero82 Try.agg83 Try.sz83 Try.byt83 Try.zero83 Try.agg84 Try.sz84 Try.byt84 Try.zero84 Try.agg85 Try.sz85 Try.byt85 Try.zero85 Try.agg86 Try.sz86 Try.byt86 Try.zero86 Try.agg87 Try.sz87 Try.byt87 Try.zero87 Try.agg88 Try.sz88 Try.byt88 Try.zero88 Try.agg89 Try.sz89 Try.byt89 Try.el89 Try.zero89 Try.agg90 Try.sz90 Try.byt90 Try.zero90 Try.agg91 Try.sz91 Try.byt91 Try.zero91 Try.agg92 Try.sz92 Try.byt92 Try.zero92 Try.agg93 Try.sz93 Try.byt93 Try.zero93 Try.agg94 Try.sz94 Try.byt94 Try.zero94 Try.agg95 Try.sz95 Try.byt95 Try.zero95 Try.agg96 Try.sz96 Try.byt96 Try.zero96 Try.agg97 Try.sz97 Try.byt97 Try.zero97 Try.agg98 Try.sz98 Try.byt98 Try.zero98 Try.agg99 Try.sz99 Try.byt99 Try.zero99 Try.agg100 Try.sz100 Try.byt100 Try.zero100 Try.agg101 Try.sz101 Try.byt101 Try.zero101 Try.agg102 Try.sz102 Try.byt102 Try.zero102 Try.agg103 Try.sz103 Try.byt103 Try.zero103 Try.agg104 Try.sz104 Try.byt104 Try.zero104 Try.agg105 Try.sz105 Try.byt105 Try.zero105 Try.agg106 Try.sz106 Try.byt106 Try.zero106 Try.agg107 Try.sz107 Try.byt107 Try.zero107 Try.agg108 Try.sz108 Try.byt108 Try.zero108 Try.agg109 Try.sz109 Try.byt109 Try.zero109 Try.agg110 Try.sz110 Try.byt110 Try.zero110 Try.agg111 Try.sz111 Try.byt111 Try.zero111 Try.agg112 Try.sz112 Try.byt112 Try.zero112 Try.agg113 Try.sz113 Try.byt113 Try.zero113 Try.agg114 Try.sz114 Try.byt114 Try.zero114 Try.agg115 Try.sz115 Try.byt115 Try.zero115 Try.agg116 Try.sz116 Try.byt116 Try.zero116 Try.body0 Try.body1 Try.body2 Try.body3 Try.body4 Try.body5 Try.body6 Try.body7 Try.body8 Try.body9 Try.body10 Try.body11 Try.body12 Try.body13 Try.body14 Try.body15 Try.body16 Try.body17 Try.body18 Try.body19 Try.body20 Try.body21 Try.body22 Try.body23 Try.body24 Try.body25 Try.body26 Try.body27 Try.body28 Try.body29 Try.body30 Try.body31 Try.body32 Try.body33 Try.body34 Try.body35 Try.body36 Try.body37 Try.body38 Try.body39 Try.body40 Try.body41 Try.body42 Try.body43 Try.body44 Try.body45 Try.body46 Try.body47 Try.body48 Try.body49 Try.body50 Try.body51 Try.body52 Try.body53 Try.body54 Try.body55 Try.body56 Try.body57 Try.body58 Try.body59 Try.body60 Try.body61 Try.body62 Try.body63 Try.body64 Try.body65 Try.body66 Try.body67 Try.body68 Try.body69 Try.body70 Try.body71 Try.body72 Try.body73 Try.body74 Try.body75 Try.body76 Try.body77 Try.body78 Try.body79 Try.build7 Try.build8 Try.build13 Try.build14 Try.build18 Try.build19 Try.bsl22 Try.bsl24 Try.bsl25 Try.bsl26 Try.build27 Try.build28 Try.build29 Try.build30 Try.build31 Try.build32 Try.bsl35 Try.bsl38 Try.build39 Try.build40 Try.build42 Try.build43 Try.bsl44 Try.build50 Try.bsl55 Try.bsl89 Try.build90 Try.build91 Try.build102 Try.build103 Try.build105 Try.build106 Try.build114 Try.build115 Try.underlying1 Try.underlying2 Try.underlying3 Try.underlying4 Try.underlying5 Try.underlying6 Try.underlying7 Try.underlying8 Try.underlying9 Try.underlying10 Try.underlying11 Try.underlying12 Try.underlying13 Try.underlying14 Try.underlying15 Try.underlying16 Try.underlying17 Try.underlying18 Try.underlying19 Try.underlying20 Try.underlying21 Try.underlying22 Try.underlying23 Try.underlying24 Try.underlying25 Try.underlying26 Try.underlying27 Try.underlying28 Try.underlying29 Try.underlying30 Try.underlying31 Try.underlying32 Try.underlying33 Try.underlying34 Try.underlying35 Try.underlying36 Try.underlying37 Try.underlying38 Try.underlying39 Try.underlying40 Try.underlying41 Try.underlying42 Try.underlying43 Try.underlying44 Try.underlying46 Try.underlying48 Try.underlying49 Try.underlying50 Try.underlying51 Try.underlying52 Try.underlying53 Try.underlying54 Try.underlying55 Try.underlying56 Try.underlying57 Try.underlying58 Try.underlying59 Try.underlying60 Try.underlying61 Try.underlying62 Try.underlying64 Try.underlying65 Try.underlying66 Try.underlying68 Try.underlying69 Try.underlying71 Try.underlying72 Try.underlying73 Try.underlying74 Try.underlying75 Try.underlying76 Try.underlying77 Try.underlying78 Try.underlying79 Try.underlying80 Try.underlying81 Try.underlying82 Try.underlying83 Try.underlying84 Try.underlying85 Try.underlying86 Try.underlying87 Try.underlying88 Try.underlying89 Try.underlying90 Try.underlying91 Try.underlying92 Try.underlying93 Try.underlying94 Try.underlying95 Try.underlying96 Try.underlying97 Try.underlying98 Try.underlying99 Try.underlying100 Try.underlying101 Try.underlying102 Try.underlying103 Try.underlying104 Try.underlying105 Try.underlying106 Try.underlying107 Try.underlying108 Try.underlying109 Try.underlying110 Try.underlying111 Try.underlying112 Try.underlying113 Try.underlying114 Try.underlying115 Try.underlying116
theorem Try.enters35 : Enters Try.prog 35 := enters_of Try.func35 rfl (by kernel_rfl)
theorem Try.enters36 : Enters Try.prog 36 := enters_of Try.func36 rfl (by kernel_rfl)
theorem Try.enters40 : Enters Try.prog 40 := enters_of Try.func40 rfl (by kernel_rfl)
theorem Try.enters43 : Enters Try.prog 43 := enters_of Try.func43 rfl (by kernel_rfl)
theorem Try.enters45 : Enters Try.prog 45 := enters_of Try.func45 rfl (by kernel_rfl)
theorem Try.enters46 : Enters Try.prog 46 := enters_of Try.func46 rfl (by kernel_rfl)
structure ReplyT where
  e : Int
  ids : List Int
  v : VerT
structure VOp where
  kind : Int
  id : Int
  v : VerT
def verN : VerT := ⟨0, [], [], []⟩
def errR (e : Int) : ReplyT := ⟨e, [], verN⟩
/-- What is done to versions. -/
def doL (l : List VerT) (o : VOp) : List VerT × ReplyT :=
  if o.kind = 1 then
    if mayB o.v = false then (l, errR 1) else if 0 ≤ placeL l o.v.id then (l, errR 4) else if 8 ≤ l.length then (l, errR 2) else (l ++ [o.v], errR 0)
  else if o.kind = 2 then
    if placeL l o.id < 0 then (l, errR 3) else (l.eraseIdx (placeL l o.id).toNat, errR 0)
  else if o.kind = 3 then
    (l.drop (l.length - min o.id.toNat l.length), ⟨0, (l.take (l.length - min o.id.toNat l.length)).map (·.id), verN⟩)
  else if o.kind = 4 then (l, ⟨0, l.map (·.id), verN⟩)
  else if o.kind = 5 then
    if placeL l o.id < 0 then (l, errR 3) else (l, ⟨0, [], l.getD (placeL l o.id).toNat verN⟩)
  else (l, errR 180)
def RepC (A : St) (R : ReplyT) (cs : List Value) : Prop := ∃ w vs, cs = .int .i64 R.e :: w :: vs ∧ IdView A R.ids w ∧ VerC A R.v vs
theorem RepC.ge {A A' : St} {R : ReplyT} {cs : List Value} (h : RepC A R cs) (g : Ge A A') : RepC A' R cs := by
  obtain ⟨w, vs, rfl, h1, h2⟩ := h
  exact ⟨w, vs, rfl, View.ge h1 g, h2.ge g⟩
theorem RepC.ex {A : St} {R : ReplyT} {cs : List Value} (h : RepC A R cs) : ∃ a n c p q u, cs = [.int .i64 R.e, .slice a n c, .int .u32 R.v.id, p, q, u] ∧ cell1 p = true ∧ cell1 q = true ∧ cell1 u = true := by
  obtain ⟨w, vs, rfl, h1, p, q, u, rfl, h2, h3, h4⟩ := h
  obtain ⟨_, _, rfl⟩ := View.sl0 h1
  obtain ⟨_, _, rfl⟩ := View.sl0 h2
  obtain ⟨_, _, rfl⟩ := View.sl0 h3
  obtain ⟨_, _, rfl⟩ := View.sl0 h4
  exact ⟨_, _, _, _, _, _, rfl, rfl, rfl, rfl⟩
theorem RepC.len {A : St} {R : ReplyT} {cs : List Value} (h : RepC A R cs) : cs.length = 6 := by
  obtain ⟨a, n, c, p, q, u, rfl, _⟩ := h.ex; rfl
theorem RepC.cell {A : St} {R : ReplyT} {cs : List Value} (h : RepC A R cs) : cs.all cell1 = true := by
  obtain ⟨a, n, c, p, q, u, rfl, h1, h2, h3⟩ := h.ex
  simp only [List.all_cons, List.all_nil, h1, h2, h3]; rfl
def VOpC (A : St) (o : VOp) (cs : List Value) : Prop := ∃ vs, cs = .int .i64 o.kind :: .int .u32 o.id :: vs ∧ VerC A o.v vs
theorem VOpC.ge {A A' : St} {o : VOp} {cs : List Value} (h : VOpC A o cs) (g : Ge A A') : VOpC A' o cs := by
  obtain ⟨vs, rfl, h1⟩ := h
  exact ⟨vs, rfl, h1.ge g⟩
def errC (e : Int) : List Value := [.int .i64 e, .slice none 0 0, .int .u32 0, .slice none 0 0, .slice none 0 0, .slice none 0 0]
theorem View.nil (A : St) (sz : Nat) : View A sz [] 0 (.slice none 0 0) := ⟨by simp, .inl ⟨rfl, _, _, rfl⟩⟩
theorem verN_c (A : St) : VerC A verN [.int .u32 0, .slice none 0 0, .slice none 0 0, .slice none 0 0] := ⟨_, _, _, rfl, View.nil .., View.nil .., View.nil ..⟩
theorem errC_rep (A : St) (e : Int) : RepC A (errR e) (errC e) := ⟨_, _, rfl, View.nil .., verN_c A⟩
theorem actwrong_ok (w0 : World) (A : St) (v : Value) (e : Int) : ACalls Try.prog w0 35 #[v, .int .i64 e] A (fin (.tuple #[v, .agg (errC e).toArray]) A) := by
  refine call_E Try.enters35 Try.func35 rfl (Nat.le_of_ble_eq_true rfl) fun hw hbd => ?_
  have hb : Bnd A.next v := hbd 0 v rfl
  simp (maxSteps := 1000000) (disch := (first | omega | (simp only [nx_alloc, nx_upd, len_cons, len_nil, List.length_set, List.length_map, List.length_append] <;> omega) | fail)) only [Nat.reduceAdd, Nat.reduceSub, Nat.reduceMul, Nat.reduceLT, Nat.reduceLeDiff, Nat.reduceEqDiff, ↓reduceIte, reduceCtorEq, Int.reduceAdd, Int.reduceSub, Int.reduceMul, Int.reduceLT, Int.reduceLE, Int.reduceEq, Int.reduceNe, Int.reduceToNat, Int.reduceNeg, go_sem, Try.ntmps35, Try.results35]
  refine gc_fin' hw (((Over.refl A).alloc _).upd (by omega) _) rfl ?_
  unfold errC
  simp only [bnd_tuple, bndL_cons, bndL_nil, bnd_agg, bnd_int, bnd_slice0, hb, and_self]
theorem IdRow.hideU {A : St} {lo : Nat} {l : List Int} {v : Value} (h : IdRow A lo l v) {c : Nat} (hc : c < lo) (B : Option Blk) {L : List Nat} (hL : ∀ b ∈ L, b < lo) : IdView ((A.upd c B).hide L) l v := by
  have r : IdRow (A.upd c B) lo l v := Row.keep h (Nat.le_refl _) (fun b _ hb _ => by rw [St.get_upd, if_neg (by omega)]) (Nat.le_refl _)
  exact Row.viewH r hL
set_option maxHeartbeats 2000000 in
theorem act4_ok (w0 : World) (A : St) (L : List Nat) (hL : ∀ b ∈ L, b < A.next) (l : List VerT) (v : Value) (o : VOp) (oc : List Value) (hv : VsV (A.hide L) l v) (ho : VOpC (A.hide L) o oc) (hl : l.length ≤ 1000000) (hk : o.kind = 4) :
    ∃ v' rc A', ACalls Try.prog w0 45 #[v, .agg oc.toArray] A (fin (.tuple #[v', .agg rc.toArray]) A') ∧ Over A A' ∧ VsV (A'.hide L) (doL l o).1 v' ∧ RepC (A'.hide L) (doL l o).2 rc := by
  have hd : doL l o = (l, ⟨0, l.map (·.id), verN⟩) := by unfold doL; rw [hk]; rfl
  rw [hd]
  obtain ⟨vs, rfl, p, q, u, rfl, hp, hq, hu⟩ := ho
  obtain ⟨x1, x2, rfl⟩ := View.sl0 hp
  obtain ⟨x3, x4, rfl⟩ := View.sl0 hq
  obtain ⟨x5, x6, rfl⟩ := View.sl0 hu
  rw [hk]
  generalize hA2 : (A.alloc (.cells [.int .i64 4, .int .u32 o.id, .int .u32 o.v.id, .slice x1 o.v.blocks.length x2, .slice x3 o.v.names.length x4, .slice x5 o.v.sizes.length x6] 30 (some 0))).alloc (.cells (errC 0) 40 (some 0)) = A2
  have o2 : Over A A2 := by rw [← hA2]; exact ((Over.refl A).alloc _).alloc _
  have n2 : A2.next = A.next + 2 := by rw [← hA2]; rfl
  have g2 : A2.get (A.next + 1) = some (.cells (errC 0) 40 (some 0)) := by rw [← hA2]; exact get_alloc_same ..
  obtain ⟨v', A3, hids, o3, r3⟩ := ids_ok w0 A2 l v (hv.ge (hide_out o2 L)) hl
  obtain ⟨ad, n, c, rfl, _⟩ := Row.sl r3
  have n3 := o3.next
  have o3' : Over A (A3.upd (A.next + 1) (some (.cells [.int .i64 0, .slice ad n c, .int .u32 0, .slice none 0 0, .slice none 0 0, .slice none 0 0] 40 (some 0)))) := (o2.trans o3).upd (by omega) _
  have g3 : A3.get (A.next + 1) = some (.cells (errC 0) 40 (some 0)) := by rw [o3.get _ (by omega)]; exact g2
  refine ⟨v, [.int .i64 0, .slice ad n c, .int .u32 0, .slice none 0 0, .slice none 0 0, .slice none 0 0], A3.upd (A.next + 1) (some (.cells [.int .i64 0, .slice ad n c, .int .u32 0, .slice none 0 0, .slice none 0 0, .slice none 0 0] 40 (some 0))), ?_, o3', hv.ge (hide_over o3' L), _, _, rfl, r3.hideU (by omega) _ (fun b hb => by have := hL b hb; omega), verN_c _⟩
  unfold errC at hA2 g3
  refine call_E Try.enters45 Try.func45 rfl (Nat.le_of_ble_eq_true rfl) fun hw hbd => ?_
  simp (maxSteps := 1000000) (disch := (first | omega | (simp only [nx_alloc, nx_upd, len_cons, len_nil, List.length_set, List.length_map, List.length_append] <;> omega) | fail)) only [Nat.reduceAdd, Nat.reduceSub, Nat.reduceMul, Nat.reduceLT, Nat.reduceLeDiff, Nat.reduceEqDiff, ↓reduceIte, reduceCtorEq, Int.reduceAdd, Int.reduceSub, Int.reduceMul, Int.reduceLT, Int.reduceLE, Int.reduceEq, Int.reduceNe, Int.reduceToNat, Int.reduceNeg, go_sem, Try.ntmps45, Try.results45]
  rw [hA2]
  refine call1 hids ?_
  simp (maxSteps := 1000000) (disch := (first | omega | (simp only [nx_alloc, nx_upd, len_cons, len_nil, List.length_set, List.length_map, List.length_append] <;> omega) | fail)) only [Nat.reduceAdd, Nat.reduceSub, Nat.reduceMul, Nat.reduceLT, Nat.reduceLeDiff, Nat.reduceEqDiff, ↓reduceIte, reduceCtorEq, Int.reduceAdd, Int.reduceSub, Int.reduceMul, Int.reduceLT, Int.reduceLE, Int.reduceEq, Int.reduceNe, Int.reduceToNat, Int.reduceNeg, go_sem, g3, Try.results45]
  exact gc_here ⟨rfl, rfl⟩
theorem placeN_lt {l : List VerT} {id : Int} : ∀ (m i : Nat), l.length - i ≤ m → placeN l id i < l.length ∧ (0 ≤ placeN l id i → ∃ V, l[(placeN l id i).toNat]? = some V ∧ V.id = id) ∧ -1 ≤ placeN l id i
  | m, i, hm => by
    by_cases h : i < l.length
    · have hi : l[i]? = some l[i] := List.getElem?_eq_getElem h
      rw [placeN_at hi]
      by_cases he : l[i].id = id
      · rw [if_pos he]
        exact ⟨by omega, fun _ => ⟨_, by rw [Int.toNat_natCast]; exact hi, he⟩, by omega⟩
      · rw [if_neg he]
        match m, hm with
        | m + 1, hm => exact placeN_lt m (i + 1) (by omega)
        | 0, hm => omega
    · rw [placeN_end (by omega)]
      exact ⟨by omega, fun h => absurd h (by decide), by omega⟩
theorem placeL_lt (l : List VerT) (id : Int) : placeL l id < l.length ∧ (0 ≤ placeL l id → ∃ V, l[(placeL l id).toNat]? = some V ∧ V.id = id) ∧ -1 ≤ placeL l id := placeN_lt _ 0 (Nat.le_refl _)
def wrongBk : Blk := .cells [.func (.func 35) #[] #[]] 83 (some 0)
set_option maxHeartbeats 2000000 in
theorem act5_ok (w0 : World) (A : St) (L : List Nat) (hL : ∀ b ∈ L, b < A.next) (l : List VerT) (v : Value) (o : VOp) (oc : List Value) (hv : VsV (A.hide L) l v) (ho : VOpC (A.hide L) o oc) (hl : l.length ≤ 1000000) (hk : o.kind = 5) (c : Nat) (hf : A.get c = some wrongBk) (hc : c < A.next) :
    ∃ v' rc A', ACalls Try.prog w0 46 #[v, .agg oc.toArray, .pointer (some ⟨c, 0, none⟩)] A (fin (.tuple #[v', .agg rc.toArray]) A') ∧ Over A A' ∧ VsV (A'.hide L) (doL l o).1 v' ∧ RepC (A'.hide L) (doL l o).2 rc := by
  have hd : doL l o = if placeL l o.id < 0 then (l, errR 3) else (l, ⟨0, [], l.getD (placeL l o.id).toNat verN⟩) := by unfold doL; rw [hk]; rfl
  obtain ⟨vs, rfl, p, q, u, rfl, hp, hq, hu⟩ := ho
  obtain ⟨x1, x2, rfl⟩ := View.sl0 hp
  obtain ⟨x3, x4, rfl⟩ := View.sl0 hq
  obtain ⟨x5, x6, rfl⟩ := View.sl0 hu
  rw [hk]
  generalize hA2 : (A.alloc (.cells [.int .i64 5, .int .u32 o.id, .int .u32 o.v.id, .slice x1 o.v.blocks.length x2, .slice x3 o.v.names.length x4, .slice x5 o.v.sizes.length x6] 30 (some 0))).alloc (.cells (errC 0) 40 (some 0)) = A2
  have o2 : Over A A2 := by rw [← hA2]; exact ((Over.refl A).alloc _).alloc _
  have n2 : A2.next = A.next + 2 := by rw [← hA2]; rfl
  have g2 : A2.get (A.next + 1) = some (.cells (errC 0) 40 (some 0)) := by rw [← hA2]; exact get_alloc_same ..
  have g1 : A2.get A.next = some (.cells [.int .i64 5, .int .u32 o.id, .int .u32 o.v.id, .slice x1 o.v.blocks.length x2, .slice x3 o.v.names.length x4, .slice x5 o.v.sizes.length x6] 30 (some 0)) := by rw [← hA2, get_alloc_old (by simp only [nx_alloc]; omega), get_alloc_same]
  have gf : A2.get c = some wrongBk := by rw [o2.get c hc]; exact hf
  have hv2 := hv.ge (hide_out o2 L)
  have hpl := place_ok w0 A2 l v hv2 (by omega) o.id
  obtain ⟨pl1, pl2, pl3⟩ := placeL_lt l o.id
  unfold errC at hA2 g2
  unfold wrongBk at gf
  by_cases hneg : placeL l o.id < 0
  · rw [hd, if_pos hneg]
    have o3 : Over A (A2.upd (A.next + 1) (some (.cells (errC 3) 40 (some 0)))) := o2.upd (by omega) _
    refine ⟨v, errC 3, A2.upd (A.next + 1) (some (.cells (errC 3) 40 (some 0))), ?_, o3, hv.ge (hide_over o3 L), errC_rep _ _⟩
    have hwr := actwrong_ok w0 A2 v 3
    unfold errC at hwr ⊢
    refine call_E Try.enters46 Try.func46 rfl (Nat.le_of_ble_eq_true rfl) fun hw hbd => ?_
    simp (maxSteps := 1000000) (disch := (first | omega | (simp only [nx_alloc, nx_upd, len_cons, len_nil, List.length_set, List.length_map, List.length_append] <;> omega) | fail)) only [Nat.reduceAdd, Nat.reduceSub, Nat.reduceMul, Nat.reduceLT, Nat.reduceLeDiff, Nat.reduceEqDiff, ↓reduceIte, reduceCtorEq, Int.reduceAdd, Int.reduceSub, Int.reduceMul, Int.reduceLT, Int.reduceLE, Int.reduceEq, Int.reduceNe, Int.reduceToNat, Int.reduceNeg, go_sem, Try.ntmps46, Try.results46]
    rw [hA2]
    refine call1 hpl ?_
    simp (maxSteps := 1000000) (disch := (first | omega | (simp only [nx_alloc, nx_upd, len_cons, len_nil, List.length_set, List.length_map, List.length_append] <;> omega) | fail)) only [Nat.reduceAdd, Nat.reduceSub, Nat.reduceMul, Nat.reduceLT, Nat.reduceLeDiff, Nat.reduceEqDiff, ↓reduceIte, reduceCtorEq, Int.reduceAdd, Int.reduceSub, Int.reduceMul, Int.reduceLT, Int.reduceLE, Int.reduceEq, Int.reduceNe, Int.reduceToNat, Int.reduceNeg, go_sem, hneg, gf]
    refine call1 hwr ?_
    simp (maxSteps := 1000000) (disch := (first | omega | (simp only [nx_alloc, nx_upd, len_cons, len_nil, List.length_set, List.length_map, List.length_append] <;> omega) | fail)) only [Nat.reduceAdd, Nat.reduceSub, Nat.reduceMul, Nat.reduceLT, Nat.reduceLeDiff, Nat.reduceEqDiff, ↓reduceIte, reduceCtorEq, Int.reduceAdd, Int.reduceSub, Int.reduceMul, Int.reduceLT, Int.reduceLE, Int.reduceEq, Int.reduceNe, Int.reduceToNat, Int.reduceNeg, go_sem, g2, Try.results46]
    exact gc_here ⟨rfl, rfl⟩
  · rw [hd, if_neg hneg]
    obtain ⟨V, hV, hVid⟩ := pl2 (by omega)
    obtain ⟨i, hi⟩ := Int.eq_ofNat_of_zero_le (show 0 ≤ placeL l o.id by omega)
    rw [hi] at hpl hV ⊢
    rw [Int.toNat_natCast] at hV ⊢
    have hgd : l.getD i verN = V := by rw [List.getD_eq_getElem?_getD, hV]; rfl
    rw [hgd]
    obtain ⟨b, off, cs, q1, q2, q3, q4, cells, e', m, q5, q6, q7⟩ := hv.1.at (P := Try.prog) (e := 28) Try.sz28 hV
    have hbs := (hide_out o2 L).get b _ q1 q5
    have hld := ld_agg (e' := e') (m := m) q6 q7
    obtain ⟨p', q', u', rfl, w1, w2, w3⟩ := q3
    obtain ⟨y1, y2, rfl⟩ := View.sl0 w1
    obtain ⟨y3, y4, rfl⟩ := View.sl0 w2
    obtain ⟨y5, y6, rfl⟩ := View.sl0 w3
    have o3 : Over A (A2.upd (A.next + 1) (some (.cells [.int .i64 0, .slice none 0 0, .int .u32 V.id, .slice y1 V.blocks.length y2, .slice y3 V.names.length y4, .slice y5 V.sizes.length y6] 40 (some 0)))) := o2.upd (by omega) _
    refine ⟨v, [.int .i64 0, .slice none 0 0, .int .u32 V.id, .slice y1 V.blocks.length y2, .slice y3 V.names.length y4, .slice y5 V.sizes.length y6], A2.upd (A.next + 1) (some (.cells [.int .i64 0, .slice none 0 0, .int .u32 V.id, .slice y1 V.blocks.length y2, .slice y3 V.names.length y4, .slice y5 V.sizes.length y6] 40 (some 0))), ?_, o3, hv.ge (hide_over o3 L), _, _, rfl, View.nil .., VerC.ge ⟨_, _, _, rfl, w1, w2, w3⟩ (hide_over o3 L)⟩
    have hbne : b ≠ A.next + 1 := by rw [hide_next] at q1; omega
    have hneg' : ¬ ((i : Int) < 0) := by omega
    refine call_E Try.enters46 Try.func46 rfl (Nat.le_of_ble_eq_true rfl) fun hw hbd => ?_
    simp (maxSteps := 1000000) (disch := (first | omega | (simp only [nx_alloc, nx_upd, len_cons, len_nil, List.length_set, List.length_map, List.length_append] <;> omega) | fail)) only [Nat.reduceAdd, Nat.reduceSub, Nat.reduceMul, Nat.reduceLT, Nat.reduceLeDiff, Nat.reduceEqDiff, ↓reduceIte, reduceCtorEq, Int.reduceAdd, Int.reduceSub, Int.reduceMul, Int.reduceLT, Int.reduceLE, Int.reduceEq, Int.reduceNe, Int.reduceToNat, Int.reduceNeg, go_sem, Try.ntmps46, Try.results46]
    rw [hA2]
    refine call1 hpl ?_
    simp (maxSteps := 1000000) (disch := (first | omega | (simp only [nx_alloc, nx_upd, len_cons, len_nil, List.length_set, List.length_map, List.length_append] <;> omega) | fail)) only [Nat.reduceAdd, Nat.reduceSub, Nat.reduceMul, Nat.reduceLT, Nat.reduceLeDiff, Nat.reduceEqDiff, ↓reduceIte, reduceCtorEq, Int.reduceAdd, Int.reduceSub, Int.reduceMul, Int.reduceLT, Int.reduceLE, Int.reduceEq, Int.reduceNe, Int.reduceToNat, Int.reduceNeg, go_sem, hneg']
    refine aw_draw2 [⟨false, [], [0]⟩, ⟨false, [], [0]⟩, ⟨false, [], [0]⟩, ⟨false, [1, 2], [0]⟩, ⟨false, [1, 2, 3], [0]⟩, ⟨false, [1, 2, 3, 4], [0]⟩, ⟨false, [0], [0]⟩, ⟨true, [0, 1, 2, 3, 4, 5, 6], [0]⟩] [A2, A2.upd (A.next + 1) (some (.cells [.int .i64 0, .slice none 0 0, .int .u32 V.id, .slice y1 V.blocks.length y2, .slice y3 V.names.length y4, .slice y5 V.sizes.length y6] 40 (some 0)))] 1 (by kernel_rfl) (by kernel_rfl) rfl ?_
    simp (maxSteps := 1000000) (disch := (first | omega | (simp only [nx_alloc, nx_upd, len_cons, len_nil, List.length_set, List.length_map, List.length_append] <;> omega) | fail)) only [Nat.reduceAdd, Nat.reduceSub, Nat.reduceMul, Nat.reduceLT, Nat.reduceLeDiff, Nat.reduceEqDiff, ↓reduceIte, reduceCtorEq, Int.reduceAdd, Int.reduceSub, Int.reduceMul, Int.reduceLT, Int.reduceLE, Int.reduceEq, Int.reduceNe, Int.reduceToNat, Int.reduceNeg, go_sem, q2, hbs, hld, g2, Try.results46]
    exact gc_here ⟨rfl, rfl⟩
theorem VsV.drop {A : St} {l : List VerT} {v : Value} (h : VsV A l v) {k : Nat} (hk : k ≤ l.length) : ∃ v', sliceU (some (.slice 28)) (tsz Try.prog) v (some (.int .i64 (k : Int))) none none = some v' ∧ VsV A (l.drop k) v' := by
  obtain ⟨⟨css, ha, hc, hv⟩, hs⟩ := h
  obtain ⟨ad, c, rfl⟩ := VsV.sl ⟨⟨css, ha, hc, hv⟩, hs⟩
  have hcs := ha.length
  obtain ⟨v', h1, h2, h3, h4⟩ := View.suf (P := Try.prog) (k := k) (e := 28) (ik := .i64) hv hs.ok Try.sz28 (by decide) hk
  refine ⟨v', h1, ⟨css.drop k, ha.drop k, fun cs hcs => hc cs (List.mem_of_mem_drop hcs), by rw [← flat_drop k hc, List.length_drop]; exact h2⟩, ?_⟩
  obtain ⟨ad', n', c', e, g1, g2⟩ := hs
  cases e
  have hb : abounds l.length c (some (.int .i64 (k : Int))) none none = some (k, l.length, c) := by
    have : (k : Int) ≤ l.length := by omega
    simp [abounds, abound1, this, hk]
  rw [sliceU_slice, Try.sz28, Option.bind_some, sliceL_eq, hb] at h1
  rcases g2 with ⟨rfl, rfl⟩ | ⟨b, off, sp, cells, e, m, rfl, g3, g4, g5, g6⟩
  · cases h1
    exact ⟨_, _, _, rfl, by omega, .inl ⟨rfl, by omega⟩⟩
  · have hle : off + k * 4 ≤ cells.length := by
      rcases hv.2 with ⟨h0, _⟩ | ⟨b', off', sp', c', cells', e', m', hv', q1, q2, q3, q4⟩
      · have : k = 0 := by omega
        subst this; omega
      · cases hv'
        rw [g5] at q2; cases q2
        omega
    have h5 : v' = .slice (some ⟨b, off + k * 4, sp⟩) (l.length - k) (c - k) := by
      rcases g3 with rfl | rfl
      · rw [show (none : Option Value).isSome = false from rfl, boundsL_exact] at h1; exact (Option.some.inj h1).symm
      · rw [show (none : Option Value).isSome = false from rfl, boundsL_ownN] at h1; exact (Option.some.inj h1).symm
    exact ⟨_, _, _, h5, by omega, .inr ⟨_, _, _, cells, e, m, rfl, g3, g4, g5, hle⟩⟩
theorem VsV.take {A : St} {l : List VerT} {v : Value} (h : VsV A l v) {k : Nat} (hk : k ≤ l.length) : ∃ v', sliceU (some (.slice 28)) (tsz Try.prog) v none (some (.int .i64 (k : Int))) none = some v' ∧ VsV A (l.take k) v' := by
  obtain ⟨⟨css, ha, hc, hv⟩, hs⟩ := h
  obtain ⟨ad, c, rfl⟩ := VsV.sl ⟨⟨css, ha, hc, hv⟩, hs⟩
  have hcs := ha.length
  have hlt : (l.take k).length = k := by rw [List.length_take]; omega
  obtain ⟨ad', n', c', e, g1, g2⟩ := hs
  cases e
  have hb : abounds l.length c none (some (.int .i64 (k : Int))) none = some (0, k, c) := by
    have : k ≤ c := by omega
    simp [abounds, abound1, this]
  have hfl : (css.take k).flatten.length = k * 4 := by rw [flat_len (fun cs h => hc cs (List.mem_of_mem_take h)), List.length_take, Nat.min_eq_left (by omega)]
  have hall : All2 (VerC A) (l.take k) (css.take k) := ha.take k
  have hcl : ∀ cs ∈ css.take k, cs.length = 4 := fun cs h => hc cs (List.mem_of_mem_take h)
  rcases g2 with ⟨rfl, rfl⟩ | ⟨b, off, sp, cells, e, m, rfl, g3, g4, g5, g6⟩
  · have h0 : k = 0 := by omega
    subst h0
    refine ⟨.slice none 0 0, ?_, ⟨css.take 0, hall, hcl, by simp, .inl ⟨by simp, _, _, rfl⟩⟩, _, _, _, rfl, Nat.le_refl _, .inl ⟨rfl, rfl⟩⟩
    rw [sliceU_slice, Try.sz28, Option.bind_some, sliceL_eq, hb]; rfl
  · refine ⟨.slice (some ⟨b, off, sp⟩) k c, ?_, ⟨css.take k, hall, hcl, by rw [hlt]; exact hfl, ?_⟩, _, _, _, rfl, by omega, .inr ⟨_, _, _, cells, e, m, rfl, g3, g4, g5, g6⟩⟩
    · rw [sliceU_slice, Try.sz28, Option.bind_some, sliceL_eq, hb]
      rcases g3 with rfl | rfl <;> simp [boundsL]
    · rw [hlt]
      rcases hv.2 with ⟨h0, _⟩ | ⟨b', off', sp', c', cells', e', m', hv', q1, q2, q3, q4⟩
      · exact .inl ⟨by omega, _, _, by rw [show k = 0 by omega]⟩
      · cases hv'
        refine .inr ⟨b, off, sp, c, cells', e', m', rfl, q1, q2, by omega, ?_⟩
        rw [← flat_take k hc, ← q4, List.take_take, Nat.min_eq_left (by omega)]
set_option maxHeartbeats 2000000 in
theorem act3_ok (w0 : World) (A : St) (L : List Nat) (hL : ∀ b ∈ L, b < A.next) (l : List VerT) (v : Value) (o : VOp) (oc : List Value) (hv : VsV (A.hide L) l v) (ho : VOpC (A.hide L) o oc) (hl : l.length ≤ 1000000) (hk : o.kind = 3) (hid : 0 ≤ o.id ∧ o.id < 4294967296) :
    ∃ v' rc A', ACalls Try.prog w0 43 #[v, .agg oc.toArray] A (fin (.tuple #[v', .agg rc.toArray]) A') ∧ Over A A' ∧ VsV (A'.hide L) (doL l o).1 v' ∧ RepC (A'.hide L) (doL l o).2 rc := by
  have hd : doL l o = (l.drop (l.length - min o.id.toNat l.length), ⟨0, (l.take (l.length - min o.id.toNat l.length)).map (·.id), verN⟩) := by unfold doL; rw [hk]; rfl
  rw [hd]
  obtain ⟨vs, rfl, p, q, u, rfl, hp, hq, hu⟩ := ho
  obtain ⟨x1, x2, rfl⟩ := View.sl0 hp
  obtain ⟨x3, x4, rfl⟩ := View.sl0 hq
  obtain ⟨x5, x6, rfl⟩ := View.sl0 hu
  rw [hk]
  generalize hA2 : (A.alloc (.cells [.int .i64 3, .int .u32 o.id, .int .u32 o.v.id, .slice x1 o.v.blocks.length x2, .slice x3 o.v.names.length x4, .slice x5 o.v.sizes.length x6] 30 (some 0))).alloc (.cells (errC 0) 40 (some 0)) = A2
  have o2 : Over A A2 := by rw [← hA2]; exact ((Over.refl A).alloc _).alloc _
  have n2 : A2.next = A.next + 2 := by rw [← hA2]; rfl
  have g2 : A2.get (A.next + 1) = some (.cells (errC 0) 40 (some 0)) := by rw [← hA2]; exact get_alloc_same ..
  have g1 : A2.get A.next = some (.cells [.int .i64 3, .int .u32 o.id, .int .u32 o.v.id, .slice x1 o.v.blocks.length x2, .slice x3 o.v.names.length x4, .slice x5 o.v.sizes.length x6] 30 (some 0)) := by rw [← hA2, get_alloc_old (by simp only [nx_alloc]; omega), get_alloc_same]
  have hv2 : VsV (A2.hide ((A.next + 1) :: L)) l v := hv.ge (Ge.hide o2.next (fun b hb hbL => ⟨by simp only [List.mem_cons, not_or]; exact ⟨by omega, hbL⟩, o2.get b hb⟩))
  generalize hn : l.length - min o.id.toNat l.length = n
  have hnl : n ≤ l.length := by omega
  obtain ⟨vd, hsd, hvd⟩ := hv2.drop hnl
  obtain ⟨vt, hst, hvt⟩ := hv2.take hnl
  obtain ⟨v3, A3, css, hcl, o3, ha3, hc3, r3⟩ := clone_ok w0 A2 ((A.next + 1) :: L) (l.drop n) vd hvd (by rw [List.length_drop]; omega)
  obtain ⟨v4, A4, hids, o4, r4⟩ := ids_ok w0 A3 (l.take n) vt (hvt.ge (hide_out o3 _)) (by rw [List.length_take]; omega)
  obtain ⟨ad, nn, c, rfl, _⟩ := Row.sl r4
  have n3 := o3.next
  have n4 := o4.next
  have g4 : A4.get (A.next + 1) = some (.cells (errC 0) 40 (some 0)) := by rw [o4.get _ (by omega), o3.get _ (by omega)]; exact g2
  have o5 : Over A (A4.upd (A.next + 1) (some (.cells [.int .i64 0, .slice ad nn c, .int .u32 0, .slice none 0 0, .slice none 0 0, .slice none 0 0] 40 (some 0)))) := ((o2.trans o3).trans o4).upd (by omega) _
  have r5 : VRow (A4.upd (A.next + 1) (some (.cells [.int .i64 0, .slice ad nn c, .int .u32 0, .slice none 0 0, .slice none 0 0, .slice none 0 0] 40 (some 0)))) A2.next css v3 := Row.keep r3 n4 (fun b _ h1 h2 => by rw [St.get_upd, if_neg (by omega)]; exact o4.get b h2) (Nat.le_refl _)
  refine ⟨v3, [.int .i64 0, .slice ad nn c, .int .u32 0, .slice none 0 0, .slice none 0 0, .slice none 0 0], A4.upd (A.next + 1) (some (.cells [.int .i64 0, .slice ad nn c, .int .u32 0, .slice none 0 0, .slice none 0 0, .slice none 0 0] 40 (some 0))), ?_, o5, r5.vs (ha3.imp fun a cs h => h.ge (Ge.hide (by simp only [nx_upd]; omega) (fun b hb hbL => ⟨fun h => hbL (List.mem_cons_of_mem _ h), ?_⟩))) hc3 (fun b hb => by have := hL b hb; omega), _, _, rfl, r4.hideU (by omega) _ (fun b hb => by have := hL b hb; omega), verN_c _⟩
  rotate_left
  · have hne : b ≠ A.next + 1 := fun e => hbL (by rw [e]; exact List.mem_cons_self ..)
    rw [St.get_upd, if_neg hne, o4.get b (by omega), o3.get b hb]
  unfold errC at hA2 g2 g4
  refine call_E Try.enters43 Try.func43 rfl (Nat.le_of_ble_eq_true rfl) fun hw hbd => ?_
  have hlen := NV.lenU (e := 28) (hv.ge (hide_out o2 L)).1
  simp (maxSteps := 1000000) (disch := (first | omega | (simp only [nx_alloc, nx_upd, len_cons, len_nil, List.length_set, List.length_map, List.length_append] <;> omega) | fail)) only [Nat.reduceAdd, Nat.reduceSub, Nat.reduceMul, Nat.reduceLT, Nat.reduceLeDiff, Nat.reduceEqDiff, ↓reduceIte, reduceCtorEq, Int.reduceAdd, Int.reduceSub, Int.reduceMul, Int.reduceLT, Int.reduceLE, Int.reduceEq, Int.reduceNe, Int.reduceToNat, Int.reduceNeg, go_sem, Try.ntmps43, Try.results43]
  rw [hA2]
  simp (maxSteps := 1000000) (disch := (first | omega | (simp only [nx_alloc, nx_upd, len_cons, len_nil, List.length_set, List.length_map, List.length_append] <;> omega) | fail)) only [Nat.reduceAdd, Nat.reduceSub, Nat.reduceMul, Nat.reduceLT, Nat.reduceLeDiff, Nat.reduceEqDiff, ↓reduceIte, reduceCtorEq, Int.reduceAdd, Int.reduceSub, Int.reduceMul, Int.reduceLT, Int.reduceLE, Int.reduceEq, Int.reduceNe, Int.reduceToNat, Int.reduceNeg, go_sem, g1, hlen]
  have hmin : ((l.length : Int) - if (l.length : Int) < o.id then (l.length : Int) else o.id) = (n : Int) := by
    rw [← hn]; split <;> omega
  refine aw_draw2 [⟨false, [], [0]⟩, ⟨false, [], [0]⟩, ⟨false, [0, 1], [0]⟩, ⟨true, [0, 1, 2], [0]⟩, ⟨false, [], [0, 1]⟩, ⟨false, [], [0, 1]⟩, ⟨false, [4, 5], [0, 1]⟩, ⟨true, [0, 1, 2, 3, 4, 5, 6], [1]⟩, ⟨false, [0, 1, 2, 3, 4, 5, 6, 7], [2]⟩, ⟨false, [0, 1, 2, 3, 4, 5, 6, 7], [2]⟩, ⟨true, [0, 1, 2, 3, 4, 5, 6, 7, 8, 9], [2]⟩] [A2, A3, A4, A4.upd (A.next + 1) (some (.cells [.int .i64 0, .slice ad nn c, .int .u32 0, .slice none 0 0, .slice none 0 0, .slice none 0 0] 40 (some 0)))] 3 (by kernel_rfl) (by kernel_rfl) rfl ?_
  simp (maxSteps := 1000000) (disch := (first | omega | (simp only [nx_alloc, nx_upd, len_cons, len_nil, List.length_set, List.length_map, List.length_append] <;> omega) | fail)) only [Nat.reduceAdd, Nat.reduceSub, Nat.reduceMul, Nat.reduceLT, Nat.reduceLeDiff, Nat.reduceEqDiff, ↓reduceIte, reduceCtorEq, Int.reduceAdd, Int.reduceSub, Int.reduceMul, Int.reduceLT, Int.reduceLE, Int.reduceEq, Int.reduceNe, Int.reduceToNat, Int.reduceNeg, go_sem, hmin, hsd, hst]
  refine ⟨_, hcl, ?_⟩
  refine ⟨_, hids, ?_⟩
  simp (maxSteps := 1000000) (disch := (first | omega | (simp only [nx_alloc, nx_upd, len_cons, len_nil, List.length_set, List.length_map, List.length_append] <;> omega) | fail)) only [Nat.reduceAdd, Nat.reduceSub, Nat.reduceMul, Nat.reduceLT, Nat.reduceLeDiff, Nat.reduceEqDiff, ↓reduceIte, reduceCtorEq, Int.reduceAdd, Int.reduceSub, Int.reduceMul, Int.reduceLT, Int.reduceLE, Int.reduceEq, Int.reduceNe, Int.reduceToNat, Int.reduceNeg, go_sem, g4, Try.results43]
  exact gc_here ⟨rfl, rfl⟩
set_option maxHeartbeats 4000000 in
theorem act2_ok (w0 : World) (A : St) (L : List Nat) (hL : ∀ b ∈ L, b < A.next) (l : List VerT) (v : Value) (o : VOp) (oc : List Value) (hv : VsV (A.hide L) l v) (ho : VOpC (A.hide L) o oc) (hl : l.length ≤ 1000000) (hk : o.kind = 2) (c : Nat) (hf : A.get c = some wrongBk) (hc : c < A.next) :
    ∃ v' rc A', ACalls Try.prog w0 40 #[v, .agg oc.toArray, .pointer (some ⟨c, 0, none⟩)] A (fin (.tuple #[v', .agg rc.toArray]) A') ∧ Over A A' ∧ VsV (A'.hide L) (doL l o).1 v' ∧ RepC (A'.hide L) (doL l o).2 rc := by
  have hd : doL l o = if placeL l o.id < 0 then (l, errR 3) else (l.eraseIdx (placeL l o.id).toNat, errR 0) := by unfold doL; rw [hk]; rfl
  obtain ⟨vs, rfl, p, q, u, rfl, hp, hq, hu⟩ := ho
  obtain ⟨x1, x2, rfl⟩ := View.sl0 hp
  obtain ⟨x3, x4, rfl⟩ := View.sl0 hq
  obtain ⟨x5, x6, rfl⟩ := View.sl0 hu
  rw [hk]
  generalize hA2 : (A.alloc (.cells [.int .i64 2, .int .u32 o.id, .int .u32 o.v.id, .slice x1 o.v.blocks.length x2, .slice x3 o.v.names.length x4, .slice x5 o.v.sizes.length x6] 30 (some 0))).alloc (.cells (errC 0) 40 (some 0)) = A2
  have o2 : Over A A2 := by rw [← hA2]; exact ((Over.refl A).alloc _).alloc _
  have n2 : A2.next = A.next + 2 := by rw [← hA2]; rfl
  have g2 : A2.get (A.next + 1) = some (.cells (errC 0) 40 (some 0)) := by rw [← hA2]; exact get_alloc_same ..
  have g1 : A2.get A.next = some (.cells [.int .i64 2, .int .u32 o.id, .int .u32 o.v.id, .slice x1 o.v.blocks.length x2, .slice x3 o.v.names.length x4, .slice x5 o.v.sizes.length x6] 30 (some 0)) := by rw [← hA2, get_alloc_old (by simp only [nx_alloc]; omega), get_alloc_same]
  have gf : A2.get c = some wrongBk := by rw [o2.get c hc]; exact hf
  have hv2 : VsV (A2.hide ((A.next + 1) :: L)) l v := hv.ge (Ge.hide o2.next (fun b hb hbL => ⟨by simp only [List.mem_cons, not_or]; exact ⟨by omega, hbL⟩, o2.get b hb⟩))
  have hv2' := hv2.ge (hide_ge A2 _)
  unfold errC at hA2 g2
  unfold wrongBk at gf
  have err : ∀ e : Int, Over A (A2.upd (A.next + 1) (some (.cells (errC e) 40 (some 0)))) := fun e => o2.upd (by omega) _
  have hpl := place_ok w0 A2 l v hv2' (by omega) o.id
  obtain ⟨pl1, pl2, pl3⟩ := placeL_lt l o.id
  by_cases hneg : placeL l o.id < 0
  · rw [hd, if_pos hneg]
    refine ⟨v, errC 3, A2.upd (A.next + 1) (some (.cells (errC 3) 40 (some 0))), ?_, err 3, hv.ge (hide_over (err 3) L), errC_rep _ _⟩
    have hwr := actwrong_ok w0 A2 v 3
    unfold errC at hwr ⊢
    refine call_E Try.enters40 Try.func40 rfl (Nat.le_of_ble_eq_true rfl) fun hw hbd => ?_
    simp (maxSteps := 1000000) (disch := (first | omega | (simp only [nx_alloc, nx_upd, len_cons, len_nil, List.length_set, List.length_map, List.length_append] <;> omega) | fail)) only [Nat.reduceAdd, Nat.reduceSub, Nat.reduceMul, Nat.reduceLT, Nat.reduceLeDiff, Nat.reduceEqDiff, ↓reduceIte, reduceCtorEq, Int.reduceAdd, Int.reduceSub, Int.reduceMul, Int.reduceLT, Int.reduceLE, Int.reduceEq, Int.reduceNe, Int.reduceToNat, Int.reduceNeg, go_sem, Try.ntmps40, Try.results40]
    rw [hA2]
    refine call1 hpl ?_
    simp (maxSteps := 1000000) (disch := (first | omega | (simp only [nx_alloc, nx_upd, len_cons, len_nil, List.length_set, List.length_map, List.length_append] <;> omega) | fail)) only [Nat.reduceAdd, Nat.reduceSub, Nat.reduceMul, Nat.reduceLT, Nat.reduceLeDiff, Nat.reduceEqDiff, ↓reduceIte, reduceCtorEq, Int.reduceAdd, Int.reduceSub, Int.reduceMul, Int.reduceLT, Int.reduceLE, Int.reduceEq, Int.reduceNe, Int.reduceToNat, Int.reduceNeg, go_sem, hneg, gf]
    refine call1 hwr ?_
    simp (maxSteps := 1000000) (disch := (first | omega | (simp only [nx_alloc, nx_upd, len_cons, len_nil, List.length_set, List.length_map, List.length_append] <;> omega) | fail)) only [Nat.reduceAdd, Nat.reduceSub, Nat.reduceMul, Nat.reduceLT, Nat.reduceLeDiff, Nat.reduceEqDiff, ↓reduceIte, reduceCtorEq, Int.reduceAdd, Int.reduceSub, Int.reduceMul, Int.reduceLT, Int.reduceLE, Int.reduceEq, Int.reduceNe, Int.reduceToNat, Int.reduceNeg, go_sem, g2, Try.results40]
    exact gc_here ⟨rfl, rfl⟩
  · rw [hd, if_neg hneg]
    obtain ⟨i, hi⟩ := Int.eq_ofNat_of_zero_le (show 0 ≤ placeL l o.id by omega)
    have hneg' : ¬ ((i : Int) < 0) := by omega
    rw [hi] at hpl pl1 ⊢
    rw [Int.toNat_natCast]
    obtain ⟨v3, A3, css, hcl, o3, ha3, hc3, r3⟩ := clone_ok w0 A2 ((A.next + 1) :: L) l v hv2 hl
    have hcs := ha3.length
    obtain ⟨b, cp, v4, A4, zl, hdel, hrb, hb1, hb2, n4, k4, g4b, sp, rfl, hcp, hsp⟩ := delete_ok w0 A3 A2.next css v3 r3 hc3 (css_cell ha3) i (by omega) (by omega)
    have n3 := o3.next
    have g3 : A3.get (A.next + 1) = some (.cells (errC 0) 40 (some 0)) := by rw [o3.get _ (by omega)]; exact g2
    have g4 : A4.get (A.next + 1) = some (.cells (errC 0) 40 (some 0)) := by rw [k4 _ (by omega)]; exact g3
    have o5 : Over A (A4.upd (A.next + 1) (some (.cells (errC 0) 40 (some 0)))) := ⟨by simp only [nx_upd]; omega, fun x hx => by rw [St.get_upd, if_neg (by omega), k4 x (by omega), o3.get x (by omega), o2.get x hx]⟩
    have hel : (css.eraseIdx i).length = css.length - 1 := List.length_eraseIdx_of_lt (by omega)
    have hec : ∀ cs ∈ css.eraseIdx i, cs.length = 4 := fun cs h => hc3 cs (List.mem_of_mem_eraseIdx h)
    have hef : (css.eraseIdx i).flatten.length = (css.length - 1) * 4 := by rw [flat_len hec, hel]
    have hae : All2 (VerC (A2.hide ((A.next + 1) :: L))) (l.eraseIdx i) (css.eraseIdx i) := by rw [List.eraseIdx_eq_take_drop_succ, List.eraseIdx_eq_take_drop_succ]; exact (ha3.take i).app (ha3.drop (i + 1))
    have hle : (l.eraseIdx i).length = css.length - 1 := by rw [List.length_eraseIdx_of_lt (by omega)]; omega
    have hbL : b ∉ L := fun h => by have := hL b h; omega
    have hgb : ((A4.upd (A.next + 1) (some (.cells (errC 0) 40 (some 0)))).hide L).get b = some (.cells ((css.eraseIdx i).flatten ++ zl) 28 (some 0)) := by rw [hide_get, if_neg hbL, St.get_upd, if_neg (by omega)]; exact g4b
    refine ⟨.slice (some ⟨b, 0, sp⟩) (css.length - 1) cp, errC 0, A4.upd (A.next + 1) (some (.cells (errC 0) 40 (some 0))), ?_, o5, ⟨⟨css.eraseIdx i, hae.imp (fun a cs h => h.ge (Ge.hide (by simp only [nx_upd]; omega) (fun x hx hxL => ⟨fun h => hxL (List.mem_cons_of_mem _ h), ?_⟩))), hec, ?_⟩, _, _, _, rfl, hcp, .inr ⟨b, 0, sp, _, _, _, rfl, hsp, by rw [hide_next]; simp only [nx_upd]; omega, hgb, Nat.zero_le _⟩⟩, errC_rep _ _⟩
    rotate_left
    · have hne : x ≠ A.next + 1 := fun e => hxL (by rw [e]; exact List.mem_cons_self ..)
      rw [St.get_upd, if_neg hne, k4 x (by omega), o3.get x hx]
    · rw [hle]
      exact ⟨by rw [hef], .inr ⟨b, 0, sp, cp, _, _, _, rfl, by rw [hide_next]; simp only [nx_upd]; omega, hgb, by rw [List.length_append, hef]; omega, by rw [List.drop_zero, ← hef, List.take_left]⟩⟩
    unfold errC at g4 ⊢
    refine call_E Try.enters40 Try.func40 rfl (Nat.le_of_ble_eq_true rfl) fun hw hbd => ?_
    simp (maxSteps := 1000000) (disch := (first | omega | (simp only [nx_alloc, nx_upd, len_cons, len_nil, List.length_set, List.length_map, List.length_append] <;> omega) | fail)) only [Nat.reduceAdd, Nat.reduceSub, Nat.reduceMul, Nat.reduceLT, Nat.reduceLeDiff, Nat.reduceEqDiff, ↓reduceIte, reduceCtorEq, Int.reduceAdd, Int.reduceSub, Int.reduceMul, Int.reduceLT, Int.reduceLE, Int.reduceEq, Int.reduceNe, Int.reduceToNat, Int.reduceNeg, go_sem, Try.ntmps40, Try.results40]
    rw [hA2]
    refine call1 hpl ?_
    simp (maxSteps := 1000000) (disch := (first | omega | (simp only [nx_alloc, nx_upd, len_cons, len_nil, List.length_set, List.length_map, List.length_append] <;> omega) | fail)) only [Nat.reduceAdd, Nat.reduceSub, Nat.reduceMul, Nat.reduceLT, Nat.reduceLeDiff, Nat.reduceEqDiff, ↓reduceIte, reduceCtorEq, Int.reduceAdd, Int.reduceSub, Int.reduceMul, Int.reduceLT, Int.reduceLE, Int.reduceEq, Int.reduceNe, Int.reduceToNat, Int.reduceNeg, go_sem, hneg']
    refine call1 hcl ?_
    simp (maxSteps := 1000000) (disch := (first | omega | (simp only [nx_alloc, nx_upd, len_cons, len_nil, List.length_set, List.length_map, List.length_append] <;> omega) | fail)) only [Nat.reduceAdd, Nat.reduceSub, Nat.reduceMul, Nat.reduceLT, Nat.reduceLeDiff, Nat.reduceEqDiff, ↓reduceIte, reduceCtorEq, Int.reduceAdd, Int.reduceSub, Int.reduceMul, Int.reduceLT, Int.reduceLE, Int.reduceEq, Int.reduceNe, Int.reduceToNat, Int.reduceNeg, go_sem]
    refine call1 hdel ?_
    simp (maxSteps := 1000000) (disch := (first | omega | (simp only [nx_alloc, nx_upd, len_cons, len_nil, List.length_set, List.length_map, List.length_append] <;> omega) | fail)) only [Nat.reduceAdd, Nat.reduceSub, Nat.reduceMul, Nat.reduceLT, Nat.reduceLeDiff, Nat.reduceEqDiff, ↓reduceIte, reduceCtorEq, Int.reduceAdd, Int.reduceSub, Int.reduceMul, Int.reduceLT, Int.reduceLE, Int.reduceEq, Int.reduceNe, Int.reduceToNat, Int.reduceNeg, go_sem, g4, Try.results40]
    exact gc_here ⟨rfl, rfl⟩
theorem append_clip {A : St} {L : List Nat} {l : List VerT} {v : Value} (h : VsV (A.hide L) l v) {cs : List Value} {bx : Nat} (hx : A.get bx = some (.cells cs 28 (some 0))) (hcs : cs.length = 4) (hl : l.length ≤ 1000000) :
    ∃ css, All2 (VerC (A.hide L)) l css ∧ (∀ c ∈ css, c.length = 4) ∧ aappend Try.prog A 35 35 (clipV v) (.slice (some ⟨bx, 0, none⟩) 1 1) = some (.slice (some ⟨A.next, 0, some 4⟩) (l.length + 1) (l.length + 1), A.alloc (.cells (css.flatten ++ cs) 28 (some 0))) := by
  have hux : ∀ k, (TypeDesc.slice 28) ≠ .int k := by intro k; exact TypeDesc.noConfusion
  have hsrc : srcCells A 4 (.slice (some ⟨bx, 0, none⟩) 1 1) = some (1, cs) := by
    rw [srcCells_slice (by decide) hx (by omega), List.drop_zero, Nat.one_mul, ← hcs, List.take_length]
  obtain ⟨ad, c, rfl⟩ := h.sl
  obtain ⟨⟨css, ha, hc, hv⟩, hs⟩ := h
  have hn := ha.length
  refine ⟨css, ha, hc, ?_⟩
  have hv' := View.ge hv (hide_ge A L)
  obtain ⟨ad', n', c', e, g1, g2⟩ := hs.ge (hide_ge A L)
  cases e
  rcases g2 with ⟨rfl, rfl⟩ | ⟨b, off, sp, cells, e, m, rfl, g3, g4, g5, g6⟩
  · have h0 : l.length = 0 := by omega
    have h1 : css = [] := List.eq_nil_of_length_eq_zero (by omega)
    subst h1
    rw [h0]
    exact append_nil Try.el35 Try.underlying35 hux Try.sz28 Try.byt28 Try.zero28 rfl (by decide) hsrc (by decide) (by decide) (by decide)
  · have hfl : css.flatten.length = l.length * 4 := by rw [flat_len hc, hn]
    have hk : off + l.length * 4 ≤ cells.length ∧ (cells.drop off).take (l.length * 4) = css.flatten := by
      rcases hv'.2 with ⟨h0, _⟩ | ⟨b', off', sp', c', cells', e', m', hv'', q1, q2, q3, q4⟩
      · have h1 : css = [] := List.eq_nil_of_length_eq_zero (by omega)
        rw [h0, h1]; exact ⟨by omega, by simp⟩
      · cases hv''
        rw [g5] at q2; cases q2
        exact ⟨q3, q4⟩
    have := append_exact (P := Try.prog) (A := A) (len := l.length) (off := off) (b := b) Try.el35 Try.underlying35 hux Try.sz28 (by decide) Try.byt28 Try.zero28 rfl hsrc (by decide) (by omega) (by omega) g5 hk.1
    rw [hk.2] at this
    exact this
set_option maxHeartbeats 4000000 in
theorem act1_ok (w0 : World) (A : St) (L : List Nat) (hL : ∀ b ∈ L, b < A.next) (l : List VerT) (v : Value) (o : VOp) (oc : List Value) (hv : VsV (A.hide L) l v) (ho : VOpC (A.hide L) o oc) (hl : l.length ≤ 1000000) (hk : o.kind = 1) (hsm : o.v.small) (c : Nat) (hf : A.get c = some wrongBk) (hc : c < A.next) :
    ∃ v' rc A', ACalls Try.prog w0 36 #[v, .agg oc.toArray, .pointer (some ⟨c, 0, none⟩)] A (fin (.tuple #[v', .agg rc.toArray]) A') ∧ Over A A' ∧ VsV (A'.hide L) (doL l o).1 v' ∧ RepC (A'.hide L) (doL l o).2 rc := by
  have hd : doL l o = if mayB o.v = false then (l, errR 1) else if 0 ≤ placeL l o.v.id then (l, errR 4) else if 8 ≤ l.length then (l, errR 2) else (l ++ [o.v], errR 0) := by unfold doL; rw [hk]; rfl
  obtain ⟨vs, rfl, hvc⟩ := ho
  have hvc0 := hvc
  obtain ⟨p, q, u, rfl, hp, hq, hu⟩ := hvc
  obtain ⟨x1, x2, rfl⟩ := View.sl0 hp
  obtain ⟨x3, x4, rfl⟩ := View.sl0 hq
  obtain ⟨x5, x6, rfl⟩ := View.sl0 hu
  rw [hk]
  generalize hA2 : (A.alloc (.cells [.int .i64 1, .int .u32 o.id, .int .u32 o.v.id, .slice x1 o.v.blocks.length x2, .slice x3 o.v.names.length x4, .slice x5 o.v.sizes.length x6] 30 (some 0))).alloc (.cells (errC 0) 40 (some 0)) = A2
  have o2 : Over A A2 := by rw [← hA2]; exact ((Over.refl A).alloc _).alloc _
  have n2 : A2.next = A.next + 2 := by rw [← hA2]; rfl
  have g2 : A2.get (A.next + 1) = some (.cells (errC 0) 40 (some 0)) := by rw [← hA2]; exact get_alloc_same ..
  have g1 : A2.get A.next = some (.cells [.int .i64 1, .int .u32 o.id, .int .u32 o.v.id, .slice x1 o.v.blocks.length x2, .slice x3 o.v.names.length x4, .slice x5 o.v.sizes.length x6] 30 (some 0)) := by rw [← hA2, get_alloc_old (by simp only [nx_alloc]; omega), get_alloc_same]
  have gf : A2.get c = some wrongBk := by rw [o2.get c hc]; exact hf
  have hv2 : VsV (A2.hide ((A.next + 1) :: L)) l v := hv.ge (Ge.hide o2.next (fun b hb hbL => ⟨by simp only [List.mem_cons, not_or]; exact ⟨by omega, hbL⟩, o2.get b hb⟩))
  have hv2' := hv2.ge (hide_ge A2 _)
  unfold errC at hA2 g2
  unfold wrongBk at gf
  have err : ∀ e : Int, Over A (A2.upd (A.next + 1) (some (.cells (errC e) 40 (some 0)))) := fun e => o2.upd (by omega) _
  have hmay := may_ok w0 A2 o.v _ (hvc0.ge (hide_out o2 L)).ver hsm
  cases hmb : mayB o.v
  · rw [hd, if_pos hmb]
    rw [hmb] at hmay
    refine ⟨v, errC 1, A2.upd (A.next + 1) (some (.cells (errC 1) 40 (some 0))), ?_, err 1, hv.ge (hide_over (err 1) L), errC_rep _ _⟩
    have hwr := actwrong_ok w0 A2 v 1
    unfold errC at hwr ⊢
    refine call_E Try.enters36 Try.func36 rfl (Nat.le_of_ble_eq_true rfl) fun hw hbd => ?_
    simp (maxSteps := 1000000) (disch := (first | omega | (simp only [nx_alloc, nx_upd, len_cons, len_nil, List.length_set, List.length_map, List.length_append] <;> omega) | fail)) only [Nat.reduceAdd, Nat.reduceSub, Nat.reduceMul, Nat.reduceLT, Nat.reduceLeDiff, Nat.reduceEqDiff, ↓reduceIte, reduceCtorEq, Int.reduceAdd, Int.reduceSub, Int.reduceMul, Int.reduceLT, Int.reduceLE, Int.reduceEq, Int.reduceNe, Int.reduceToNat, Int.reduceNeg, go_sem, Try.ntmps36, Try.results36]
    rw [hA2]
    refine call1 hmay ?_
    simp (maxSteps := 1000000) (disch := (first | omega | (simp only [nx_alloc, nx_upd, len_cons, len_nil, List.length_set, List.length_map, List.length_append] <;> omega) | fail)) only [Nat.reduceAdd, Nat.reduceSub, Nat.reduceMul, Nat.reduceLT, Nat.reduceLeDiff, Nat.reduceEqDiff, ↓reduceIte, reduceCtorEq, Int.reduceAdd, Int.reduceSub, Int.reduceMul, Int.reduceLT, Int.reduceLE, Int.reduceEq, Int.reduceNe, Int.reduceToNat, Int.reduceNeg, go_sem, gf]
    refine call1 hwr ?_
    simp (maxSteps := 1000000) (disch := (first | omega | (simp only [nx_alloc, nx_upd, len_cons, len_nil, List.length_set, List.length_map, List.length_append] <;> omega) | fail)) only [Nat.reduceAdd, Nat.reduceSub, Nat.reduceMul, Nat.reduceLT, Nat.reduceLeDiff, Nat.reduceEqDiff, ↓reduceIte, reduceCtorEq, Int.reduceAdd, Int.reduceSub, Int.reduceMul, Int.reduceLT, Int.reduceLE, Int.reduceEq, Int.reduceNe, Int.reduceToNat, Int.reduceNeg, go_sem, g2, Try.results36]
    exact gc_here ⟨rfl, rfl⟩
  rw [hd, if_neg (by rw [hmb]; decide)]
  rw [hmb] at hmay
  have hpl := place_ok w0 A2 l v hv2' (by omega) o.v.id
  by_cases hin : 0 ≤ placeL l o.v.id
  · rw [if_pos hin]
    have hin' : placeL l o.v.id ≥ 0 := hin
    refine ⟨v, errC 4, A2.upd (A.next + 1) (some (.cells (errC 4) 40 (some 0))), ?_, err 4, hv.ge (hide_over (err 4) L), errC_rep _ _⟩
    have hwr := actwrong_ok w0 A2 v 4
    unfold errC at hwr ⊢
    refine call_E Try.enters36 Try.func36 rfl (Nat.le_of_ble_eq_true rfl) fun hw hbd => ?_
    simp (maxSteps := 1000000) (disch := (first | omega | (simp only [nx_alloc, nx_upd, len_cons, len_nil, List.length_set, List.length_map, List.length_append] <;> omega) | fail)) only [Nat.reduceAdd, Nat.reduceSub, Nat.reduceMul, Nat.reduceLT, Nat.reduceLeDiff, Nat.reduceEqDiff, ↓reduceIte, reduceCtorEq, Int.reduceAdd, Int.reduceSub, Int.reduceMul, Int.reduceLT, Int.reduceLE, Int.reduceEq, Int.reduceNe, Int.reduceToNat, Int.reduceNeg, go_sem, Try.ntmps36, Try.results36]
    rw [hA2]
    refine call1 hmay ?_
    simp (maxSteps := 1000000) (disch := (first | omega | (simp only [nx_alloc, nx_upd, len_cons, len_nil, List.length_set, List.length_map, List.length_append] <;> omega) | fail)) only [Nat.reduceAdd, Nat.reduceSub, Nat.reduceMul, Nat.reduceLT, Nat.reduceLeDiff, Nat.reduceEqDiff, ↓reduceIte, reduceCtorEq, Int.reduceAdd, Int.reduceSub, Int.reduceMul, Int.reduceLT, Int.reduceLE, Int.reduceEq, Int.reduceNe, Int.reduceToNat, Int.reduceNeg, go_sem, g1]
    refine call1 hpl ?_
    simp (maxSteps := 1000000) (disch := (first | omega | (simp only [nx_alloc, nx_upd, len_cons, len_nil, List.length_set, List.length_map, List.length_append] <;> omega) | fail)) only [Nat.reduceAdd, Nat.reduceSub, Nat.reduceMul, Nat.reduceLT, Nat.reduceLeDiff, Nat.reduceEqDiff, ↓reduceIte, reduceCtorEq, Int.reduceAdd, Int.reduceSub, Int.reduceMul, Int.reduceLT, Int.reduceLE, Int.reduceEq, Int.reduceNe, Int.reduceToNat, Int.reduceNeg, go_sem, hin', gf]
    refine call1 hwr ?_
    simp (maxSteps := 1000000) (disch := (first | omega | (simp only [nx_alloc, nx_upd, len_cons, len_nil, List.length_set, List.length_map, List.length_append] <;> omega) | fail)) only [Nat.reduceAdd, Nat.reduceSub, Nat.reduceMul, Nat.reduceLT, Nat.reduceLeDiff, Nat.reduceEqDiff, ↓reduceIte, reduceCtorEq, Int.reduceAdd, Int.reduceSub, Int.reduceMul, Int.reduceLT, Int.reduceLE, Int.reduceEq, Int.reduceNe, Int.reduceToNat, Int.reduceNeg, go_sem, g2, Try.results36]
    exact gc_here ⟨rfl, rfl⟩
  rw [if_neg hin]
  have hin' : ¬ (placeL l o.v.id ≥ 0) := hin
  have hlen := NV.lenU (e := 28) hv2'.1
  by_cases h8 : 8 ≤ l.length
  · rw [if_pos h8]
    have h8' : (l.length : Int) ≥ 8 := by omega
    refine ⟨v, errC 2, A2.upd (A.next + 1) (some (.cells (errC 2) 40 (some 0))), ?_, err 2, hv.ge (hide_over (err 2) L), errC_rep _ _⟩
    have hwr := actwrong_ok w0 A2 v 2
    unfold errC at hwr ⊢
    refine call_E Try.enters36 Try.func36 rfl (Nat.le_of_ble_eq_true rfl) fun hw hbd => ?_
    simp (maxSteps := 1000000) (disch := (first | omega | (simp only [nx_alloc, nx_upd, len_cons, len_nil, List.length_set, List.length_map, List.length_append] <;> omega) | fail)) only [Nat.reduceAdd, Nat.reduceSub, Nat.reduceMul, Nat.reduceLT, Nat.reduceLeDiff, Nat.reduceEqDiff, ↓reduceIte, reduceCtorEq, Int.reduceAdd, Int.reduceSub, Int.reduceMul, Int.reduceLT, Int.reduceLE, Int.reduceEq, Int.reduceNe, Int.reduceToNat, Int.reduceNeg, go_sem, Try.ntmps36, Try.results36]
    rw [hA2]
    refine call1 hmay ?_
    simp (maxSteps := 1000000) (disch := (first | omega | (simp only [nx_alloc, nx_upd, len_cons, len_nil, List.length_set, List.length_map, List.length_append] <;> omega) | fail)) only [Nat.reduceAdd, Nat.reduceSub, Nat.reduceMul, Nat.reduceLT, Nat.reduceLeDiff, Nat.reduceEqDiff, ↓reduceIte, reduceCtorEq, Int.reduceAdd, Int.reduceSub, Int.reduceMul, Int.reduceLT, Int.reduceLE, Int.reduceEq, Int.reduceNe, Int.reduceToNat, Int.reduceNeg, go_sem, g1]
    refine call1 hpl ?_
    simp (maxSteps := 1000000) (disch := (first | omega | (simp only [nx_alloc, nx_upd, len_cons, len_nil, List.length_set, List.length_map, List.length_append] <;> omega) | fail)) only [Nat.reduceAdd, Nat.reduceSub, Nat.reduceMul, Nat.reduceLT, Nat.reduceLeDiff, Nat.reduceEqDiff, ↓reduceIte, reduceCtorEq, Int.reduceAdd, Int.reduceSub, Int.reduceMul, Int.reduceLT, Int.reduceLE, Int.reduceEq, Int.reduceNe, Int.reduceToNat, Int.reduceNeg, go_sem, hin', hlen, h8', gf]
    refine call1 hwr ?_
    simp (maxSteps := 1000000) (disch := (first | omega | (simp only [nx_alloc, nx_upd, len_cons, len_nil, List.length_set, List.length_map, List.length_append] <;> omega) | fail)) only [Nat.reduceAdd, Nat.reduceSub, Nat.reduceMul, Nat.reduceLT, Nat.reduceLeDiff, Nat.reduceEqDiff, ↓reduceIte, reduceCtorEq, Int.reduceAdd, Int.reduceSub, Int.reduceMul, Int.reduceLT, Int.reduceLE, Int.reduceEq, Int.reduceNe, Int.reduceToNat, Int.reduceNeg, go_sem, g2, Try.results36]
    exact gc_here ⟨rfl, rfl⟩
  rw [if_neg h8]
  have h8' : ¬ ((l.length : Int) ≥ 8) := by omega
  have o3 : Over A2 (A2.alloc (.cells [.int .u32 o.v.id, .slice x1 o.v.blocks.length x2, .slice x3 o.v.names.length x4, .slice x5 o.v.sizes.length x6] 28 (some 0))) := (Over.refl A2).alloc _
  have hv3 : VsV ((A2.alloc (.cells [.int .u32 o.v.id, .slice x1 o.v.blocks.length x2, .slice x3 o.v.names.length x4, .slice x5 o.v.sizes.length x6] 28 (some 0))).hide ((A.next + 1) :: L)) l v := hv2.ge (hide_over o3 _)
  obtain ⟨css, ha, hcl, hap⟩ := append_clip hv3 (get_alloc_same ..) rfl hl
  have hcl2 := clip_ok w0 A2 l v hv2'
  have hcl3 := clip_ok w0 (A2.alloc (.cells [.int .u32 o.v.id, .slice x1 o.v.blocks.length x2, .slice x3 o.v.names.length x4, .slice x5 o.v.sizes.length x6] 28 (some 0))) l v (hv3.ge (hide_ge _ _))
  generalize hA3 : A2.alloc (.cells [.int .u32 o.v.id, .slice x1 o.v.blocks.length x2, .slice x3 o.v.names.length x4, .slice x5 o.v.sizes.length x6] 28 (some 0)) = A3 at *
  have n3 : A3.next = A2.next + 1 := by rw [← hA3]; rfl
  generalize hA4 : A3.alloc (.cells (css.flatten ++ [.int .u32 o.v.id, .slice x1 o.v.blocks.length x2, .slice x3 o.v.names.length x4, .slice x5 o.v.sizes.length x6]) 28 (some 0)) = A4 at *
  have o4 : Over A3 A4 := by rw [← hA4]; exact (Over.refl A3).alloc _
  have n4 : A4.next = A3.next + 1 := by rw [← hA4]; rfl
  have g4 : A4.get (A.next + 1) = some (.cells (errC 0) 40 (some 0)) := by rw [o4.get _ (by omega), o3.get _ (by omega)]; exact g2
  have o5 : Over A (A4.upd (A.next + 1) (some (.cells (errC 0) 40 (some 0)))) := ((o2.trans o3).trans o4).upd (by omega) _
  have r5 : VRow (A4.upd (A.next + 1) (some (.cells (errC 0) 40 (some 0)))) A3.next (css ++ [[.int .u32 o.v.id, .slice x1 o.v.blocks.length x2, .slice x3 o.v.names.length x4, .slice x5 o.v.sizes.length x6]]) (.slice (some ⟨A3.next, 0, some 4⟩) (l.length + 1) (l.length + 1)) := by
    have hln := ha.length
    refine ⟨?_, .inr ⟨A3.next, some 4, by rw [List.length_append, hln]; rfl, .inr rfl, Nat.le_refl _, by simp only [nx_upd]; omega, ?_⟩⟩
    · rw [List.flatten_append, List.length_append, flat_len hcl, List.length_append]; simp; omega
    · rw [St.get_upd, if_neg (by omega), ← hA4, get_alloc_same, List.flatten_append]; simp
  refine ⟨.slice (some ⟨A3.next, 0, some 4⟩) (l.length + 1) (l.length + 1), errC 0, A4.upd (A.next + 1) (some (.cells (errC 0) 40 (some 0))), ?_, o5, r5.vs (All2.app (ha.imp (fun a cs h => h.ge (Ge.hide (by simp only [nx_upd]; omega) (fun x hx hxL => ⟨fun h => hxL (List.mem_cons_of_mem _ h), ?_⟩)))) (.cons (hvc0.ge (hide_over o5 L)) .nil)) (fun cs h => ?_) (fun b hb => by have := hL b hb; omega), errC_rep _ _⟩
  rotate_left
  · have hne : x ≠ A.next + 1 := fun e => hxL (by rw [e]; exact List.mem_cons_self ..)
    rw [St.get_upd, if_neg hne, o4.get x hx]
  · rcases List.mem_append.1 h with h | h
    · exact hcl cs h
    · simp at h; subst h; rfl
  unfold errC at g4 ⊢
  refine call_E Try.enters36 Try.func36 rfl (Nat.le_of_ble_eq_true rfl) fun hw hbd => ?_
  simp (maxSteps := 1000000) (disch := (first | omega | (simp only [nx_alloc, nx_upd, len_cons, len_nil, List.length_set, List.length_map, List.length_append] <;> omega) | fail)) only [Nat.reduceAdd, Nat.reduceSub, Nat.reduceMul, Nat.reduceLT, Nat.reduceLeDiff, Nat.reduceEqDiff, ↓reduceIte, reduceCtorEq, Int.reduceAdd, Int.reduceSub, Int.reduceMul, Int.reduceLT, Int.reduceLE, Int.reduceEq, Int.reduceNe, Int.reduceToNat, Int.reduceNeg, go_sem, Try.ntmps36, Try.results36]
  rw [hA2]
  refine call1 hmay ?_
  simp (maxSteps := 1000000) (disch := (first | omega | (simp only [nx_alloc, nx_upd, len_cons, len_nil, List.length_set, List.length_map, List.length_append] <;> omega) | fail)) only [Nat.reduceAdd, Nat.reduceSub, Nat.reduceMul, Nat.reduceLT, Nat.reduceLeDiff, Nat.reduceEqDiff, ↓reduceIte, reduceCtorEq, Int.reduceAdd, Int.reduceSub, Int.reduceMul, Int.reduceLT, Int.reduceLE, Int.reduceEq, Int.reduceNe, Int.reduceToNat, Int.reduceNeg, go_sem, g1]
  refine call1 hpl ?_
  simp (maxSteps := 1000000) (disch := (first | omega | (simp only [nx_alloc, nx_upd, len_cons, len_nil, List.length_set, List.length_map, List.length_append] <;> omega) | fail)) only [Nat.reduceAdd, Nat.reduceSub, Nat.reduceMul, Nat.reduceLT, Nat.reduceLeDiff, Nat.reduceEqDiff, ↓reduceIte, reduceCtorEq, Int.reduceAdd, Int.reduceSub, Int.reduceMul, Int.reduceLT, Int.reduceLE, Int.reduceEq, Int.reduceNe, Int.reduceToNat, Int.reduceNeg, go_sem, hin', hlen, h8']
  refine aw_draw2 [⟨false, [], [0, 1]⟩, ⟨false, [0], [0, 1]⟩, ⟨false, [], [0]⟩, ⟨false, [2], [0]⟩, ⟨true, [2, 3], [0]⟩, ⟨true, [0, 1, 2, 3, 4], [1]⟩, ⟨false, [], [0, 1, 2]⟩, ⟨false, [0, 1, 2, 3, 4, 5], [2]⟩, ⟨true, [0, 1, 2, 3, 4, 5, 6, 7], [2]⟩] [A2, A3, A4, A4.upd (A.next + 1) (some (.cells [.int .i64 0, .slice none 0 0, .int .u32 0, .slice none 0 0, .slice none 0 0, .slice none 0 0] 40 (some 0)))] 3 (by kernel_rfl) (by kernel_rfl) rfl ?_
  simp (maxSteps := 1000000) (disch := (first | omega | (simp only [nx_alloc, nx_upd, len_cons, len_nil, List.length_set, List.length_map, List.length_append] <;> omega) | fail)) only [Nat.reduceAdd, Nat.reduceSub, Nat.reduceMul, Nat.reduceLT, Nat.reduceLeDiff, Nat.reduceEqDiff, ↓reduceIte, reduceCtorEq, Int.reduceAdd, Int.reduceSub, Int.reduceMul, Int.reduceLT, Int.reduceLE, Int.reduceEq, Int.reduceNe, Int.reduceToNat, Int.reduceNeg, go_sem, g1]
  refine ⟨_, hcl2, ⟨_, hcl3, rfl⟩, ?_⟩
  simp (maxSteps := 1000000) (disch := (first | omega | (simp only [nx_alloc, nx_upd, len_cons, len_nil, List.length_set, List.length_map, List.length_append] <;> omega) | fail)) only [Nat.reduceAdd, Nat.reduceSub, Nat.reduceMul, Nat.reduceLT, Nat.reduceLeDiff, Nat.reduceEqDiff, ↓reduceIte, reduceCtorEq, Int.reduceAdd, Int.reduceSub, Int.reduceMul, Int.reduceLT, Int.reduceLE, Int.reduceEq, Int.reduceNe, Int.reduceToNat, Int.reduceNeg, go_sem, g1, hA3, hap, hA4, g4, Try.results36]
  exact gc_here ⟨rfl, rfl⟩
end Go.Fw
