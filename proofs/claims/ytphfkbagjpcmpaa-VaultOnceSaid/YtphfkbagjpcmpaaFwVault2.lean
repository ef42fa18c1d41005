import Derived.Test.YtphfkbagjpcmpaaFwVault1
set_option linter.unusedSimpArgs false
set_option linter.unusedVariables false
namespace Go.Fw
open Go.Proofs Go.RowKit
attribute [local go_sem] List.length_cons List.length_nil Nat.zero_add Nat.add_zero Nat.zero_mul Nat.mul_one Int.toNat_zero Int.toNat_natCast List.map_cons List.map_nil List.map_toArray List.toList_toArray List.append_toArray List.append_eq List.nil_append List.cons_append List.append_nil List.all_toArray List.all_cons List.all_nil Bool.and_true Bool.true_and Bool.and_self List.getElem?_toArray List.getElem?_cons_zero List.getElem?_cons_succ List.set_cons_zero List.set_cons_succ List.drop_zero List.drop_succ_cons List.take_zero List.take_succ_cons Option.bind_some Option.map_some id true_and and_true and_self St.next_alloc St.next_upd beq_self_eq_true Bool.not_true Bool.not_false Bool.false_eq_true false_implies true_implies Option.isNone_none Option.isNone_some Option.isSome_none Option.isSome_some ge_iff_le gt_iff_lt Nat.sub_zero Nat.add_assoc IntWalk.i64_in IntWalk.u64_in IntWalk.u8_in IntWalk.u32_in IntWalk.i32_in IntWalk.u16_in dec_not Bool.not_eq_true decide_true decide_false ne_eq not_true_eq_false not_false_eq_true Bool.true_or Bool.or_true Bool.or_false Bool.false_or Bool.and_false Bool.false_and upd_apply rd_eq ar_zero ar_succ ar_nil tm_size tm_getD tm_set E_tmps E_defers put_E put_none eval_tmp eval_const eval_func setArgs_0 setArgs_1 setArgs_2 append_lit stepV_some stepA_some guardO_true ifB_true ifB_false wantV_true wantV_false wantV_dec_t wantV_dec_f ifB_dec_t ifB_dec_f condV_bool dec_and dec_or isB_bool someB_t someB_f okO_tmp okO_func okO_int okO_bool okO_string okO_ptr0 okO_slice0 okO_nilFunc okO_nilIface okO_map0 okO_agg wanted_none wanted_some lookT_some aopsL_nil aopsL_cons wpA_skip wpA_label wpA_exit wpA_goto wpA_ret wpA_seq wpA_block wpA_region wpA_cond wpA_loop wpA_rangeFunc wpA_draw thenQ_normal thenQ_exit thenQ_ret thenQ_panic blockQ_normal blockQ_ret blockQ_panic blockQ_exit funQ_ret funQ_normal funQ_panic op_move op_assign pickV_or pickV_and pickV_t pickV_f pickV_true pickV_false op_pick allocV_some op_alloc op_box op_load op_nilCheck op_bin op_lookup bptr btype op_un op_convert op_makeInterface op_makeSlice op_fieldAddr op_field op_indexAddr op_index op_extract op_typeAssert storeV_some op_store op_makeMap op_mapUpdate op_slice00 op_slice10 op_slice01 op_slice11 op_slice111 op_slice011 op_makeFunc callV_true op_call op_builtin panicV_iface op_panic ACallV_func ACallF_false ACallF_true ACallV_yield afterCall_returned afterCall_panicked bin_add bin_sub bin_mul bin_and bin_or bin_xor bin_andNot bin_eql bin_neq bin_lss bin_leq bin_gtr bin_geq mval_some mval_none lookup_map lookU_map lookK_smap mapSet_map msetU_map msetK_int conv_to conv_from unsT_cells unsF_cells bin_same bin_nil bdata_nil bdata_some builtin_data builtin_str bin_quo bin_rem bin_shl bin_shr bin_sadd bin_seql bin_sneq bin_slss uB_bool bin_beql bin_bneq uP_pointer bin_peql bin_pneq uS_slice bin_leql bin_lneq bin_ieql bin_ineq un_neg un_xor un_not nilCheck_ptr nilCheck_func nilCheck_yield load_ptr loadC_one loadC_agg store_ptr slice_eq sliceU_string sliceU_slice sliceU_array sliceS_eq boundsS_some sliceL_eq boundsL_nil boundsL_exact boundsL_least boundsL_own boundsL_ownN bounds_11 bounds_10 bounds_01 bounds_00 builtin_len len_string len_array len_slice builtin_append builtin_copy pairA_some builtin_min builtin_max min_two max_two index_eq index_string index_array indexAddr_eq indexAddr_array indexAddr_slice fieldAddr_eq posO_some fAddr_some fieldAddr_struct partC_some field_eq field_struct part_eq partU_one partU_agg extract_tuple conv_eq conv_int conv_string u8O_u8 conv_bytes conv_text_nil conv_text_zero conv_text mkIface_eq get_upd_same consO_some finR_0 finR_1 finR_2 aresL_nil aresL_cons ares1_tmp ares1_cell retV_some aleave_nil aleave_coll bnd_int bnd_bool bnd_string bnd_nilIface bnd_slice0 bnd_iface bnd_slice bnd_ptr bnd_ptr0 bndL_nil bndL_cons bndA_lit bnd_tuple bnd_agg calm_same skipC_eq aopsC_nil aopsC_cons stepC_call stepC_move stepC_assign stepC_pick stepC_alloc stepC_box stepC_build stepC_buildSlice stepC_load stepC_store stepC_nilCheck stepC_binOp stepC_unOp stepC_convert stepC_makeInterface stepC_makeFunc stepC_makeSlice stepC_slice stepC_fieldAddr stepC_field stepC_indexAddr stepC_index stepC_extract stepC_typeAssert stepC_lookup stepC_mapUpdate stepC_makeMap stepC_builtin to_same sameA_eq aopsX_nil aopsX_cons stepX_heavy stepX_light lightK_eq allC_nil allC_cons hs_zero hs_succ stepT_call pure_call stepT_move pure_move stepT_assign pure_assign stepT_pick pure_pick stepT_alloc pure_alloc stepT_box pure_box stepT_build pure_build stepT_buildSlice pure_buildSlice stepT_load pure_load stepT_store pure_store stepT_nilCheck pure_nilCheck stepT_binOp pure_binOp stepT_unOp pure_unOp stepT_convert pure_convert stepT_makeInterface pure_makeInterface stepT_makeFunc pure_makeFunc stepT_makeSlice pure_makeSlice stepT_slice pure_slice stepT_fieldAddr pure_fieldAddr stepT_field pure_field stepT_indexAddr pure_indexAddr stepT_index pure_index stepT_extract pure_extract stepT_typeAssert pure_typeAssert stepT_lookup pure_lookup stepT_mapUpdate pure_mapUpdate stepT_makeMap pure_makeMap stepT_builtin pure_b_len pure_b_append pure_b_copy pure_b_min pure_b_max pure_b_unsafeSliceData pure_b_unsafeString leaveK_eq aleave_fn op_defer deferV_func resK_some defQ_ret defQ_normal storeC_int storeC_bool storeC_string storeC_slice storeC_func storeC_pointer len_cons len_nil cells_int cells_bool cells_string cells_slice cells_pointer cells_func cells_map cells_nilFunc cells_agg cell1_bool cell1_string cell1_slice cell1_pointer cell1_func cell1_i cell1_map cell1_nilFunc setList_nil setList_cons storeC_aggS fillP_nil fillP_cons fillAt_1 fillAt_n aggO_some sliceO_some places_0 places_s zerosR_0 zerosR_s thenElse_true evP_nil evP_cons okP_nil okP_cons op_buildL op_buildSliceL isBu_t isBu_f mk_E get_alloc_old get_alloc_new get_upd_old Try.agg1 Try.sz1 Try.byt1 Try.zero1 Try.agg2 Try.sz2 Try.byt2 Try.zero2 Try.agg3 Try.sz3 Try.byt3 Try.zero3 Try.agg4 Try.sz4 Try.byt4 Try.zero4 Try.agg5 Try.sz5 Try.byt5 Try.zero5 Try.agg6 Try.sz6 Try.byt6 Try.zero6 Try.agg7 Try.sz7 Try.byt7 Try.zero7 Try.agg8 Try.sz8 Try.byt8 Try.zero8 Try.agg9 Try.sz9 Try.byt9 Try.zero9 Try.agg10 Try.sz10 Try.byt10 Try.zero10 Try.agg11 Try.sz11 Try.byt11 Try.zero11 Try.agg12 Try.sz12 Try.byt12 Try.zero12 Try.agg13 Try.sz13 Try.byt13 Try.zero13 Try.agg14 Try.sz14 Try.byt14 Try.zero14 Try.agg15 Try.sz15 Try.byt15 Try.zero15 Try.agg16 Try.sz16 Try.byt16 Try.zero16 Try.agg17 Try.sz17 Try.byt17 Try.zero17 Try.agg18 Try.sz18 Try.byt18 Try.zero18 Try.agg19 Try.sz19 Try.byt19 Try.zero19 Try.agg20 Try.sz20 Try.byt20 Try.zero20 Try.agg21 Try.sz21 Try.byt21 Try.zero21 Try.agg22 Try.sz22 Try.byt22 Try.el22 Try.zero22 Try.agg23 Try.sz23 Try.byt23 Try.zero23 Try.agg24 Try.sz24 Try.byt24 Try.el24 Try.zero24 Try.agg25 Try.sz25 Try.byt25 Try.el25 Try.zero25 Try.agg26 Try.sz26 Try.byt26 Try.el26 Try.zero26 Try.agg27 Try.sz27 Try.byt27 Try.zero27 Try.agg28 Try.sz28 Try.byt28 Try.zero28 Try.agg29 Try.sz29 Try.byt29 Try.zero29 Try.agg30 Try.sz30 Try.byt30 Try.zero30 Try.agg31 Try.sz31 Try.byt31 Try.zero31 Try.agg32 Try.sz32 Try.byt32 Try.zero32 Try.agg33 Try.sz33 Try.byt33 Try.zero33 Try.agg34 Try.sz34 Try.byt34 Try.zero34 Try.agg35 Try.sz35 Try.byt35 Try.el35 Try.zero35 Try.agg36 Try.sz36 Try.byt36 Try.zero36 Try.agg37 Try.sz37 Try.byt37 Try.zero37 Try.agg38 Try.sz38 Try.byt38 Try.el38 Try.zero38 Try.agg39 Try.sz39 Try.byt39 Try.zero39 Try.agg40 Try.sz40 Try.byt40 Try.zero40 Try.agg41 Try.sz41 Try.byt41 Try.zero41 Try.agg42 Try.sz42 Try.byt42 Try.zero42 Try.agg43 Try.sz43 Try.byt43 Try.zero43 Try.agg44 Try.sz44 Try.byt44 Try.el44 Try.zero44 Try.agg46 Try.sz46 Try.byt46 Try.zero46 Try.agg48 Try.sz48 Try.byt48 Try.zero48 Try.agg49 Try.sz49 Try.byt49 Try.zero49 Try.agg50 Try.sz50 Try.byt50 Try.zero50 Try.agg51 Try.sz51 Try.byt51 Try.zero51 Try.agg52 Try.sz52 Try.byt52 Try.zero52 Try.agg53 Try.sz53 Try.byt53 Try.zero53 Try.agg54 Try.sz54 Try.byt54 Try.zero54 Try.agg55 Try.sz55 Try.byt55 Try.el55 Try.zero55 Try.agg56 Try.sz56 Try.byt56 Try.zero56 Try.agg57 Try.sz57 Try.byt57 Try.zero57 Try.agg58 Try.sz58 Try.byt58 Try.zero58 Try.agg59 Try.sz59 Try.byt59 Try.zero59 Try.agg60 Try.sz60 Try.byt60 Try.zero60 Try.agg61 Try.sz61 Try.byt61 Try.zero61 Try.agg62 Try.sz62 Try.byt62 Try.zero62 Try.agg64 Try.sz64 Try.byt64 Try.zero64 Try.agg65 Try.sz65 Try.byt65 Try.zero65 Try.agg66 Try.sz66 Try.byt66 Try.zero66 Try.agg68 Try.sz68 Try.byt68 Try.zero68 Try.agg69 Try.sz69 Try.byt69 Try.zero69 Try.agg71 Try.sz71 Try.byt71 Try.zero71 Try.agg72 Try.sz72 Try.byt72 Try.zero72 Try.agg73 Try.sz73 Try.byt73 Try.zero73 Try.agg74 Try.sz74 Try.byt74 Try.zero74 Try.agg75 Try.sz75 Try.byt75 Try.zero75 Try.agg76 Try.sz76 Try.byt76 Try.zero76 Try.agg77 Try.sz77 Try.byt77 Try.zero77 Try.agg78 Try.sz78 Try.byt78 Try.zero78 Try.agg79 Try.sz79 Try.byt79 Try.zero79 Try.agg80 Try.sz80 Try.byt80 Try.zero80 Try.agg81 Try.sz81 Try.byt81 Try.zero81 Try.agg82 Try.sz82 Try.byt82 Try.zero82 Try.agg83 Try.sz83 Try.byt83 Try.zero83 Try.agg84 Try.sz84 Try.byt84 Try.zero84 Try.agg85 Try.sz85 Try.byt85 Try.zero85 Try.agg86 Try.sz86 Try.byt86 Try.zero86 Try.agg87 Try.sz87 Try.byt87 Try.zero87 Try.agg88 Try.sz88 Try.byt88 Try.zero88 Try.agg89 Try.sz89 Try.byt89 Try.el89 Try.zero89 Try.agg90 Try.sz90 Try.byt90 Try.zero90 Try.agg91 Try.sz91 Try.byt91 Try.zero91 Try.agg92 Try.sz92 Try.byt92 Try.zero92 Try.agg93 Try.sz93 Try.byt93 Try.zero93 Try.agg94 Try.sz94 Try.byt94 Try.zero94 Try.agg95 Try.sz95 Try.byt95 Try.zero95 Try.agg96 Try.sz96 Try.byt96 Try.zero96 Try.agg97 Try.sz97 Try.byt97 Try.zero97 Try.agg98 Try.sz98 Try.byt98 Try.zero98 Try.agg99 Try.sz99 Try.byt99 Try.zero99 Try.agg100 Try.sz100 Try.byt100 Try.zero100 Try.agg101 Try.sz101 Try.byt101 Try.zero101 Try.agg102 Try.sz102 Try.byt102 Try.zero102 Try.agg103 Try.sz103 Try.byt103 Try.zero103 Try.agg104 Try.sz104 Try.byt104 Try.zero104 Try.agg105 Try.sz105 Try.byt105 Try.zero105 Try.agg106 Try.sz106 Try.byt106 Try.zero106 Try.agg107 Try.sz107 Try.byt107 Try.zero107 Try.agg108 Try.sz108 Try.byt108 Try.zero108 Try.agg109 Try.sz109 Try.byt109 Try.zero109 Try.agg110 Try.sz110 Try.byt110 Try.zero110 Try.agg111 Try.sz111 Try.byt111 Try.zero111 Try.agg112 Try.sz112 Try.byt112 Try.zero112 Try.agg113 Try.sz113 Try.byt113 Try.zero113 Try.agg114 Try.sz114 Try.byt114 Try.zero114 Try.agg115 Try.sz115 Try.byt115 Try.zero115 Try.agg116 Try.sz116 Try.byt116 Try.zero116 Try.body0 Try.body1 Try.body2 Try.body3 Try.body4 Try.body5 Try.body6 Try.body7 Try.body8 Try.body9 Try.body10 Try.body11 Try.body12 Try.body13 Try.body14 Try.body15 Try.body16 Try.body17 Try.body18 Try.body19 Try.body20 Try.body21 Try.body22 Try.body23 Try.body24 Try.body25 Try.body26 Try.body27 Try.body28 Try.body29 Try.body30 Try.body31 Try.body32 Try.body33 Try.body34 Try.body35 Try.body36 Try.body37 Try.body38 Try.body39 Try.body40 Try.body41 Try.body42 Try.body43 Try.body44 Try.body45 Try.body46 Try.body47 Try.body48 Try.body49 Try.body50 Try.body51 Try.body52 Try.body53 Try.body54 Try.body55 Try.body56 Try.body57 Try.body58 Try.body59 Try.body60 Try.body61 Try.body62 Try.body63 Try.body64 Try.body65 Try.body66 Try.body67 Try.body68 Try.body69 Try.body70 Try.body71 Try.body72 Try.body73 Try.body74 Try.body75 Try.body76 Try.body77 Try.body78 Try.body79 Try.build7 Try.build8 Try.build13 Try.build14 Try.build18 Try.build19 Try.bsl22 Try.bsl24 Try.bsl25 Try.bsl26 Try.build27 Try.build28 Try.build29 Try.build30 Try.build31 Try.build32 Try.bsl35 Try.bsl38 Try.build39 Try.build40 Try.build42 Try.build43 Try.bsl44 Try.build50 Try.bsl55 Try.bsl89 Try.build90 Try.build91 Try.build102 Try.build103 Try.build105 Try.build106 Try.build114 Try.build115 Try.underlying1 Try.underlying2 Try.underlying3 Try.underlying4 Try.underlying5 Try.underlying6 Try.underlying7 Try.underlying8 Try.underlying9 Try.underlying10 Try.underlying11 Try.underlying12 Try.underlying13 Try.underlying14 Try.underlying15 Try.underlying16 Try.underlying17 Try.underlying18 Try.underlying19 Try.underlying20 Try.underlying21 Try.underlying22 Try.underlying23 Try.underlying24 Try.underlying25 Try.underlying26 Try.underlying27 Try.underlying28 Try.underlying29 Try.underlying30 Try.underlying31 Try.underlying32 Try.underlying33 Try.underlying34 Try.underlying35 Try.underlying36 Try.underlying37 Try.underlying38 Try.underlying39 Try.underlying40 Try.underlying41 Try.underlying42 Try.underlying43 Try.underlying44 Try.underlying46 Try.underlying48 Try.underlying49 Try.underlying50 Try.underlying51 Try.underlying52 Try.underlying53 Try.underlying54 Try.underlying55 Try.underlying56 Try.underlying57 Try.underlying58 Try.underlying59 Try.underlying60 Try.underlying61 Try.underlying62 Try.underlying64 Try.underlying65 Try.underlying66 Try.underlying68 Try.underlying69 Try.underlying71 Try.underlying72 Try.underlying73 Try.underlying74 Try.underlying75 Try.underlying76 Try.underlying77 Try.underlying78 Try.underlying79 Try.underlying80 Try.underlying81 Try.underlying82 Try.underlying83 Try.underlying84 Try.underlying85 Try.underlying86 Try.underlying87 Try.underlying88 Try.underlying89 Try.underlying90 Try.underlying91 Try.underlying92 Try.underlying93 Try.underlying94 Try.underlying95 Try.underlying96 Try.underlying97 Try.underlying98 Try.underlying99 Try.underlying100 Try.underlying101 Try.underlying102 Try.underlying103 Try.underlying104 Try.underlying105 Try.underlying106 Try.underlying107 Try.underlying108 Try.underlying109 Try.underlying110 Try.underlying111 Try.underlying112 Try.underlying113 Try.underlying114 Try.underlying115 Try.underlying116
theorem Try.enters39 : Enters Try.prog 39 := enters_of Try.func39 rfl (by kernel_rfl)
theorem Try.enters42 : Enters Try.prog 42 := enters_of Try.func42 rfl (by kernel_rfl)
theorem Try.enters41 : Enters Try.prog 41 := enters_of Try.func41 rfl (by kernel_rfl)
theorem Try.enters44 : Enters Try.prog 44 := enters_of Try.func44 rfl (by kernel_rfl)
def clipV : Value → Value
  | .slice (some ⟨b, off, _⟩) n _ => .slice (some ⟨b, off, none⟩) n n
  | .slice none n _ => .slice none n n
  | v => v
theorem clip_ok (w0 : World) (A : St) (l : List VerT) (v : Value) (h : VsV A l v) : ACalls Try.prog w0 39 #[v] A (fin (clipV v) A) := by
  refine call_E Try.enters39 Try.func39 rfl (Nat.le_of_ble_eq_true rfl) fun hw hbd => ?_
  have hlen := NV.lenU (e := 28) h.1
  have hsl : sliceU (some (.slice 28)) (tsz Try.prog) v none (some (.int .i64 l.length)) (some (.int .i64 l.length)) = some (clipV v) := by
    obtain ⟨ad, c, rfl⟩ := h.sl
    obtain ⟨ad', n', c', e, h1, h2⟩ := h.2
    cases e
    rw [sliceU_slice, Try.sz28, Option.bind_some, sliceL_eq]
    have hb : abounds l.length c none (some (.int .i64 (l.length : Int))) (some (.int .i64 (l.length : Int))) = some (0, l.length, l.length) := by
      simp [abounds, abound1, h1]
    rw [hb]
    rcases h2 with ⟨rfl, _⟩ | ⟨b, off, sp, cells, e, m, rfl, h3, _⟩
    · rfl
    · rcases h3 with rfl | rfl <;> simp [boundsL, clipV]
  have hbn : Bnd A.next (clipV v) := by
    obtain ⟨ad, c, rfl⟩ := h.sl
    obtain ⟨ad', n', c', e, h1, h2⟩ := h.2
    cases e
    rcases h2 with ⟨rfl, rfl⟩ | ⟨b, off, sp, cells, e, m, rfl, h3, h4, _⟩
    · obtain h0 : l.length = 0 := by omega
      rw [h0]; exact .slice0 _ _
    · exact .slice _ _ _ h4
  simp (maxSteps := 1000000) (disch := (first | omega | (simp only [nx_alloc, nx_upd, len_cons, len_nil, List.length_set, List.length_map, List.length_append] <;> omega) | fail)) only [Nat.reduceAdd, Nat.reduceSub, Nat.reduceMul, Nat.reduceLT, Nat.reduceLeDiff, Nat.reduceEqDiff, ↓reduceIte, reduceCtorEq, Int.reduceAdd, Int.reduceSub, Int.reduceMul, Int.reduceLT, Int.reduceLE, Int.reduceEq, Int.reduceNe, Int.reduceToNat, Int.reduceNeg, go_sem, Try.ntmps39, Try.results39, hlen, hsl]
  exact gc_fin' hw (Over.refl _) rfl hbn
abbrev VRow (A : St) (lo : Nat) (css : List (List Value)) (v : Value) : Prop := Row A 28 4 lo css.flatten css.length v
theorem VRow.vs {A : St} {lo : Nat} {css : List (List Value)} {l : List VerT} {v : Value} {L : List Nat} (h : VRow A lo css v) (ha : All2 (VerC (A.hide L)) l css) (hl : ∀ cs ∈ css, cs.length = 4) (hL : ∀ b ∈ L, b < lo) : VsV (A.hide L) l v := by
  have hlen := ha.length
  refine ⟨⟨css, ha, hl, by rw [hlen]; exact Row.viewH h hL⟩, ?_⟩
  rcases h.2 with ⟨h0, rfl⟩ | ⟨b, sp, rfl, h1, h2, h3, h4⟩
  · exact ⟨_, _, _, rfl, Nat.le_refl _, .inl ⟨rfl, rfl⟩⟩
  · exact ⟨_, _, _, rfl, Nat.le_refl _, .inr ⟨b, 0, sp, _, _, _, rfl, h1, by rw [hide_next]; exact h3, by rw [hide_get, if_neg (fun hm => by have := hL b hm; omega)]; exact h4, Nat.zero_le _⟩⟩
theorem css_cell {A : St} {l : List VerT} {css : List (List Value)} (ha : All2 (VerC A) l css) : css.flatten.all cell1 = true := by
  induction ha with
  | nil => rfl
  | cons h _ ih => rw [List.flatten_cons, List.all_append, h.cell, ih]; rfl
theorem vs_push {A : St} {lo : Nat} {css new : List (List Value)} {v x : Value} (hr : VRow A lo css v) (hlo : lo ≤ A.next) (hx : View A 4 new.flatten new.length x) (hc : new.flatten.all cell1 = true) (hl : css.length + new.length ≤ 1048576) :
    ∃ v' A2, aappend Try.prog A 35 35 v x = some (v', A2) ∧ VRow A2 lo (css ++ new) v' ∧ A.next ≤ A2.next ∧ ∀ b, b < A.next → rowB v ≠ some b → A2.get b = A.get b := by
  obtain ⟨v', A2, h1, h2, h3, h4⟩ := row_app (P := Try.prog) (sT := 35) (xT := 35) Try.el35 Try.underlying35 (by intro k; exact TypeDesc.noConfusion) Try.sz28 Try.byt28 Try.zero28 rfl hr hlo hx (by omega) (by omega) hc
  exact ⟨v', A2, h1, by rw [VRow, List.flatten_append, List.length_append]; exact h2, h3, h4⟩
theorem buildVs0 (X : St) : abuildSlice Try.prog X 35 0 #[] = some (.slice (some ⟨X.next, 0, none⟩) 0 0, X.alloc (.cells [] 28 (some 0))) := buildSlice_zero Try.el35 Try.sz28 Try.zero28 (by decide)
set_option maxHeartbeats 1000000 in
theorem clone_ok (w0 : World) (A : St) (L : List Nat) (l : List VerT) (v : Value) (h : VsV (A.hide L) l v) (hl : l.length ≤ 1000000) :
    ∃ v' A' css, ACalls Try.prog w0 42 #[v] A (fin v' A') ∧ Over A A' ∧ All2 (VerC (A.hide L)) l css ∧ (∀ cs ∈ css, cs.length = 4) ∧ VRow A' A.next css v' := by
  have hlen := NV.lenU (e := 28) (NV.ge h.1 (hide_ge A L) (fun _ _ h => h))
  obtain ⟨css, ha, hcl, hv⟩ := h.1
  have hcs := ha.length
  by_cases hnil : ∃ n c, v = .slice none n c
  · obtain ⟨n, c, rfl⟩ := hnil
    obtain ⟨ad, c', e⟩ := h.sl
    cases e
    obtain ⟨ad', n', c', e, h1, h2⟩ := h.2
    cases e
    rcases h2 with ⟨_, rfl⟩ | ⟨_, _, _, _, _, _, e, _⟩
    rotate_left
    · cases e
    have h0 : css = [] := List.eq_nil_of_length_eq_zero (by omega)
    subst h0
    refine ⟨.slice none 0 0, A, [], ?_, Over.refl _, ha, hcl, Row.nil ..⟩
    refine call_E Try.enters42 Try.func42 rfl (Nat.le_of_ble_eq_true rfl) fun hw hbd => ?_
    simp (maxSteps := 1000000) (disch := (first | omega | (simp only [nx_alloc, nx_upd, len_cons, len_nil, List.length_set, List.length_map, List.length_append] <;> omega) | fail)) only [Nat.reduceAdd, Nat.reduceSub, Nat.reduceMul, Nat.reduceLT, Nat.reduceLeDiff, Nat.reduceEqDiff, ↓reduceIte, reduceCtorEq, Int.reduceAdd, Int.reduceSub, Int.reduceMul, Int.reduceLT, Int.reduceLE, Int.reduceEq, Int.reduceNe, Int.reduceToNat, Int.reduceNeg, go_sem, Try.ntmps42, Try.results42]
    exact gc_here ⟨rfl, rfl⟩
  · obtain ⟨ad, c, rfl⟩ := h.sl
    obtain ⟨⟨b, off, sp⟩, rfl⟩ : ∃ a, ad = some a := by
      cases ad with
      | none => exact absurd ⟨_, _, rfl⟩ hnil
      | some a => exact ⟨a, rfl⟩
    have o1 : Over A (A.alloc (.cells [] 28 (some 0))) := (Over.refl A).alloc _
    have r0 : VRow (A.alloc (.cells [] 28 (some 0))) A.next [] (.slice (some ⟨A.next, 0, none⟩) 0 0) := ⟨rfl, .inr ⟨A.next, none, rfl, .inl rfl, Nat.le_refl _, by simp only [nx_alloc]; omega, get_alloc_same ..⟩⟩
    obtain ⟨v', A2, hap, r2, n2, k2⟩ := vs_push r0 (by simp only [nx_alloc]; omega) (by rw [← hcs]; exact View.ge hv (hide_out o1 L)) (css_cell ha) (by simp only [List.length_nil]; omega)
    refine ⟨v', A2, css, ?_, ⟨by simp only [nx_alloc] at n2; omega, fun c hc => by rw [k2 c (by simp only [nx_alloc]; omega) (by simp [rowB]; omega), get_alloc_old hc]⟩, ha, hcl, r2⟩
    refine call_E Try.enters42 Try.func42 rfl (Nat.le_of_ble_eq_true rfl) fun hw hbd => ?_
    simp (maxSteps := 1000000) (disch := (first | omega | (simp only [nx_alloc, nx_upd, len_cons, len_nil, List.length_set, List.length_map, List.length_append] <;> omega) | fail)) only [Nat.reduceAdd, Nat.reduceSub, Nat.reduceMul, Nat.reduceLT, Nat.reduceLeDiff, Nat.reduceEqDiff, ↓reduceIte, reduceCtorEq, Int.reduceAdd, Int.reduceSub, Int.reduceMul, Int.reduceLT, Int.reduceLE, Int.reduceEq, Int.reduceNe, Int.reduceToNat, Int.reduceNeg, go_sem, Try.ntmps42, Try.results42, buildVs0, hap]
    exact gc_here ⟨rfl, rfl⟩
theorem append_in {P : Program} {A : St} {sT xT e bs sz b off len n cap k : Nat} {z x : Value} {sp : Option Nat} {cs new : List Value} {e' : TypeId} {ux : TypeDesc} (hel : telem P sT = some e) (hx : P.underlying xT = some ux) (hux : ∀ k, ux ≠ .int k) (hsz : tsz P e = some sz) (hb : tbytes P e = some bs) (hz : tzero P e = some z) (hzc : z.cells.size = sz) (hs0 : sz ≠ 0)
    (hsrc : srcCells A sz x = some (n, new)) (hc : len + n ≤ cap) (hn : n ≠ 0) (hA : A.get b = some (.cells cs e' (some k))) (h1 : k ≤ off + len * sz) (h2 : off + len * sz + new.length ≤ cs.length) (h3 : new.all cell1 = true) :
    aappend P A sT xT (.slice (some ⟨b, off, sp⟩) len cap) x = some (.slice (some ⟨b, off, sp⟩) (len + n) cap, A.upd b (some (.cells (setList cs (off + len * sz) new) e' (some k)))) := by
  have h4 : ¬ (sz = 0 ∨ z.cells.size ≠ sz) := by omega
  unfold aappend
  cases ux with
  | int k => exact absurd rfl (hux k)
  | _ => simp only [hel, hx, hsz, hb, hz, hsrc, if_neg h4, if_pos hc, if_neg hn, hA, if_pos (And.intro h1 (And.intro h2 h3))]
theorem append_in0 {P : Program} {A : St} {sT xT e bs sz len cap : Nat} {a : Addr} {z x : Value} {new : List Value} {ux : TypeDesc} (hel : telem P sT = some e) (hx : P.underlying xT = some ux) (hux : ∀ k, ux ≠ .int k) (hsz : tsz P e = some sz) (hb : tbytes P e = some bs) (hz : tzero P e = some z) (hzc : z.cells.size = sz) (hs0 : sz ≠ 0)
    (hsrc : srcCells A sz x = some (0, new)) (hc : len ≤ cap) :
    aappend P A sT xT (.slice (some a) len cap) x = some (.slice (some a) len cap, A) := by
  have h4 : ¬ (sz = 0 ∨ z.cells.size ≠ sz) := by omega
  unfold aappend
  cases ux with
  | int k => exact absurd rfl (hux k)
  | _ => simp only [hel, hx, hsz, hb, hz, hsrc, if_neg h4, Nat.add_zero, if_pos hc, if_true]
theorem setList_mid (a m r new : List Value) (h : new.length = m.length) : setList (a ++ (m ++ r)) a.length new = a ++ (new ++ r) := setList_at0 new a m r h
theorem drop_flat_get {css : List (List Value)} {i : Nat} (h : ∀ cs ∈ css, cs.length = 4) (hi : i < css.length) : ∃ c cl, c.length = 4 ∧ cl.length = 4 ∧ css.flatten = (css.take i).flatten ++ (c ++ (css.drop (i + 1)).flatten) ∧ c ++ (css.drop (i + 1)).flatten = ((c ++ (css.drop (i + 1)).flatten).take ((css.drop (i + 1)).length * 4)) ++ cl ∧ (css.take i).flatten ++ (c ++ (css.drop (i + 1)).flatten) = (css.take i).flatten ++ (((c ++ (css.drop (i + 1)).flatten).take ((css.drop (i + 1)).length * 4)) ++ cl) := by
  have hc : css[i].length = 4 := h _ (List.getElem_mem hi)
  have hd : (css.drop (i + 1)).flatten.length = (css.drop (i + 1)).length * 4 := flat_len (fun cs hcs => h cs (List.mem_of_mem_drop hcs))
  refine ⟨css[i], (css[i] ++ (css.drop (i + 1)).flatten).drop ((css.drop (i + 1)).length * 4), hc, by rw [List.length_drop, List.length_append]; omega, ?_, (List.take_append_drop ..).symm, by rw [List.take_append_drop]⟩
  rw [← List.flatten_cons, ← List.drop_eq_getElem_cons hi, ← List.flatten_append, List.take_append_drop]
def zVer : List Value := [.int .u32 0, .slice none 0 0, .slice none 0 0, .slice none 0 0]
theorem builtin_clear {P : Program} {A : St} (t : TypeId) (x : Value) : abuiltin P A .clear [t] [x] = (aclear P A t x).map fun A' => (.tuple #[], A') := Eq.trans rfl rfl
theorem clear_one {A : St} {b off c m : Nat} {sp : Option Nat} {cs : List Value} {e' : TypeId} (hA : A.get b = some (.cells cs e' (some m))) (h1 : m ≤ off) (h2 : off + 4 ≤ cs.length) : aclear Try.prog A 35 (.slice (some ⟨b, off, sp⟩) 1 c) = some (A.upd b (some (.cells (setList cs off zVer) e' (some m)))) := by
  unfold aclear
  simp only [Try.el35, Try.zero28, hA]
  have hz : Builtin.zeroCells (Value.cells (.agg #[.int .u32 0, .slice none 0 0, .slice none 0 0, .slice none 0 0])) 1 = zVer.toArray := by kernel_rfl
  rw [if_neg (by decide), hz, if_pos ⟨h1, by simpa [zVer] using h2, rfl⟩]
set_option maxHeartbeats 2000000 in
theorem delete_ok (w0 : World) (A : St) (lo : Nat) (css : List (List Value)) (v : Value) (h : VRow A lo css v) (hcs : ∀ cs ∈ css, cs.length = 4) (hcell : css.flatten.all cell1 = true) (i : Nat) (hi : i < css.length) (hl : css.length ≤ 1000000) :
    ∃ b c v' A' zl, ACalls Try.prog w0 41 #[v, .int .i64 i, .int .i64 (i + 1)] A (fin v' A') ∧ rowB v = some b ∧ lo ≤ b ∧ b < A.next ∧ A'.next = A.next ∧ (∀ x, x ≠ b → A'.get x = A.get x) ∧ A'.get b = some (.cells ((css.eraseIdx i).flatten ++ zl) 28 (some 0)) ∧
      ∃ sp, v' = .slice (some ⟨b, 0, sp⟩) (css.length - 1) c ∧ css.length - 1 ≤ c ∧ (sp = none ∨ sp = some 4) := by
  rcases h.2 with ⟨h0, _⟩ | ⟨b, sp, rfl, hsp, hlo, hlt, hg⟩
  · omega
  obtain ⟨cc, cl, e1, e2, e3, e4, e5⟩ := drop_flat_get hcs hi
  have hdl : (css.drop (i + 1)).length = css.length - (i + 1) := List.length_drop ..
  have hdf : (css.drop (i + 1)).flatten.length = (css.drop (i + 1)).length * 4 := flat_len (fun cs hc => hcs cs (List.mem_of_mem_drop hc))
  have htf : (css.take i).flatten.length = i * 4 := by rw [flat_len (fun cs hc => hcs cs (List.mem_of_mem_take hc)), List.length_take, Nat.min_eq_left (by omega)]
  have hfl : css.flatten.length = css.length * 4 := flat_len hcs
  have her : (css.eraseIdx i).flatten = (css.take i).flatten ++ (css.drop (i + 1)).flatten := by rw [List.eraseIdx_eq_take_drop_succ, List.flatten_append]
  have herl : (css.eraseIdx i).flatten.length = (css.length - 1) * 4 := by rw [her, List.length_append, htf, hdf, hdl]; omega
  have hb2 : ∀ (lo hi : Nat), lo ≤ hi → hi ≤ css.length → abounds css.length css.length (some (.int .i64 (lo : Int))) (some (.int .i64 (hi : Int))) none = some (lo, hi, css.length) := by
    intro lo hi h1 h2; simp [abounds, abound1, h1, h2]
  have hs0 : sliceU (some (.slice 28)) (tsz Try.prog) (.slice (some ⟨b, 0, sp⟩) css.length css.length) (some (.int .i64 (i : Int))) (some (.int .i64 ((i : Int) + 1))) (some (.int .i64 (css.length : Int))) = some (.slice (some ⟨b, 0 + i * 4, none⟩) (i + 1 - i) (css.length - i)) := by
    rw [sliceU_slice, Try.sz28, Option.bind_some, sliceL_eq]
    have : abounds css.length css.length (some (.int .i64 (i : Int))) (some (.int .i64 ((i : Int) + 1))) (some (.int .i64 (css.length : Int))) = some (i, i + 1, css.length) := by
      have a1 : (0 : Int) ≤ (i : Int) + 1 := by omega
      have a2 : (i : Int) + 1 ≤ (css.length : Int) := by omega
      have a3 : ((i : Int) + 1).toNat = i + 1 := by omega
      have a4 : (i : Int) ≤ ((i + 1 : Nat) : Int) := by omega
      simp [abounds, abound1, a1, a2, a3]
    rw [this]
    rcases hsp with rfl | rfl <;> simp [boundsL]
  have hs1 : sliceU (some (.slice 28)) (tsz Try.prog) (.slice (some ⟨b, 0, sp⟩) css.length css.length) none (some (.int .i64 (i : Int))) none = some (.slice (some ⟨b, 0, sp⟩) i css.length) := by
    rw [sliceU_slice, Try.sz28, Option.bind_some, sliceL_eq]
    have : abounds css.length css.length none (some (.int .i64 (i : Int))) none = some (0, i, css.length) := by
      have : i ≤ css.length := by omega
      simp [abounds, abound1, this]
    rw [this]
    rcases hsp with rfl | rfl <;> simp [boundsL]
  have hs2 : sliceU (some (.slice 28)) (tsz Try.prog) (.slice (some ⟨b, 0, sp⟩) css.length css.length) (some (.int .i64 ((i : Int) + 1))) none none = some (.slice (some ⟨b, 0 + (i + 1) * 4, sp⟩) (css.length - (i + 1)) (css.length - (i + 1))) := by
    rw [sliceU_slice, Try.sz28, Option.bind_some, sliceL_eq]
    have : abounds css.length css.length (some (.int .i64 ((i : Int) + 1))) none none = some (i + 1, css.length, css.length) := by
      have a1 : (0 : Int) ≤ (i : Int) + 1 := by omega
      have a2 : (i : Int) + 1 ≤ (css.length : Int) := by omega
      have a3 : ((i : Int) + 1).toNat = i + 1 := by omega
      simp [abounds, abound1, a1, a2, a3]
    rw [this]
    rcases hsp with rfl | rfl <;> simp [boundsL]
  have hs3 : sliceU (some (.slice 28)) (tsz Try.prog) (.slice (some ⟨b, 0, sp⟩) (css.length - 1) css.length) (some (.int .i64 ((css.length - 1 : Nat) : Int))) (some (.int .i64 (css.length : Int))) none = some (.slice (some ⟨b, 0 + (css.length - 1) * 4, sp⟩) 1 (css.length - (css.length - 1))) := by
    rw [sliceU_slice, Try.sz28, Option.bind_some, sliceL_eq]
    have : abounds (css.length - 1) css.length (some (.int .i64 ((css.length - 1 : Nat) : Int))) (some (.int .i64 (css.length : Int))) none = some (css.length - 1, css.length, css.length) := by
      simp [abounds, abound1]
    rw [this]
    have h1 : css.length - (css.length - 1) = 1 := by omega
    rcases hsp with rfl | rfl <;> simp [boundsL, h1]
  have hsrc : srcCells A 4 (.slice (some ⟨b, 0 + (i + 1) * 4, sp⟩) (css.length - (i + 1)) (css.length - (i + 1))) = some (css.length - (i + 1), (css.drop (i + 1)).flatten) := by
    have hd : (css.flatten.drop ((i + 1) * 4)).take ((css.length - (i + 1)) * 4) = (css.drop (i + 1)).flatten := by
      rw [flat_drop _ hcs, ← hdl, ← hdf, List.take_length]
    by_cases h0 : css.length - (i + 1) = 0
    · have h1 : css.drop (i + 1) = [] := List.eq_nil_of_length_eq_zero (by omega)
      rw [h0, h1]; rfl
    · rw [srcCells_slice h0 hg (by omega), Nat.zero_add, hd]
  have hux : ∀ k, (TypeDesc.slice 28) ≠ .int k := by intro k; exact TypeDesc.noConfusion
  obtain ⟨A1, hap, n1, g1, k1⟩ : ∃ A1, aappend Try.prog A 35 35 (.slice (some ⟨b, 0, sp⟩) i css.length) (.slice (some ⟨b, 0 + (i + 1) * 4, sp⟩) (css.length - (i + 1)) (css.length - (i + 1))) = some (.slice (some ⟨b, 0, sp⟩) (css.length - 1) css.length, A1) ∧ A1.next = A.next ∧ A1.get b = some (.cells ((css.eraseIdx i).flatten ++ cl) 28 (some 0)) ∧ ∀ x, x ≠ b → A1.get x = A.get x := by
    by_cases h0 : css.length - (i + 1) = 0
    · refine ⟨A, ?_, rfl, ?_, fun _ _ => rfl⟩
      · rw [h0] at hsrc ⊢
        rw [append_in0 Try.el35 Try.underlying35 hux Try.sz28 Try.byt28 Try.zero28 rfl (by decide) hsrc (by omega), show css.length - 1 = i by omega]
      · have h1 : css.drop (i + 1) = [] := List.eq_nil_of_length_eq_zero (by omega)
        rw [h1] at her e4 e3
        rw [hg, e3, her]
        simp only [List.flatten_nil, List.append_nil, List.length_nil, Nat.zero_mul, List.take_zero, List.nil_append] at e4 ⊢
        rw [e4]
    · refine ⟨A.upd b (some (.cells (setList css.flatten (0 + i * 4) (css.drop (i + 1)).flatten) 28 (some 0))), ?_, ?_, ?_, ?_⟩
      · rw [append_in Try.el35 Try.underlying35 hux Try.sz28 Try.byt28 Try.zero28 rfl (by decide) hsrc (by omega) h0 hg (Nat.zero_le _) (by rw [hdf, hdl]; omega) (by rw [e3, List.all_append, List.all_append] at hcell; simp only [Bool.and_eq_true] at hcell; exact hcell.2.2), show i + (css.length - (i + 1)) = css.length - 1 by omega]
      · rfl
      · rw [get_upd_same, Nat.zero_add, e3, e5]
        rw [show i * 4 = (css.take i).flatten.length from htf.symm, setList_mid _ _ _ _ (by rw [List.length_take, List.length_append, hdf, e1]; omega), her, List.append_assoc]
      · intro x hx; rw [St.get_upd, if_neg hx]
  refine ⟨b, css.length, .slice (some ⟨b, 0, sp⟩) (css.length - 1) css.length, A1.upd b (some (.cells ((css.eraseIdx i).flatten ++ zVer) 28 (some 0))), zVer, ?_, rfl, hlo, hlt, n1, fun x hx => by rw [St.get_upd, if_neg hx]; exact k1 x hx, get_upd_same .., sp, rfl, by omega, hsp⟩
  have hclr : aclear Try.prog A1 35 (.slice (some ⟨b, 0 + (css.length - 1) * 4, sp⟩) 1 (css.length - (css.length - 1))) = some (A1.upd b (some (.cells ((css.eraseIdx i).flatten ++ zVer) 28 (some 0)))) := by
    rw [clear_one g1 (Nat.zero_le _) (by rw [List.length_append, herl, e2]; omega), Nat.zero_add, ← herl]
    have := setList_mid (css.eraseIdx i).flatten cl [] zVer (by rw [e2]; rfl)
    rw [List.append_nil, List.append_nil] at this
    rw [this]
  refine call_E Try.enters41 Try.func41 rfl (Nat.le_of_ble_eq_true rfl) fun hw hbd => ?_
  have hne : ¬ ((i : Int) = i + 1) := by omega
  simp (maxSteps := 1000000) (disch := (first | omega | (simp only [nx_alloc, nx_upd, len_cons, len_nil, List.length_set, List.length_map, List.length_append] <;> omega) | fail)) only [Nat.reduceAdd, Nat.reduceSub, Nat.reduceMul, Nat.reduceLT, Nat.reduceLeDiff, Nat.reduceEqDiff, ↓reduceIte, reduceCtorEq, Int.reduceAdd, Int.reduceSub, Int.reduceMul, Int.reduceLT, Int.reduceLE, Int.reduceEq, Int.reduceNe, Int.reduceToNat, Int.reduceNeg, go_sem, Try.ntmps41, Try.results41, hs0, hne]
  refine aw_draw2 [⟨false, [], [0]⟩, ⟨false, [], [0]⟩, ⟨false, [0, 1], [0]⟩, ⟨false, [], [0]⟩, ⟨false, [], [0]⟩, ⟨false, [3, 4], [0]⟩, ⟨true, [0, 1, 2, 3, 4, 5], [0]⟩, ⟨false, [0, 1, 2, 3, 4, 5, 6], [1]⟩] [A, A1] 1 (by kernel_rfl) (by kernel_rfl) rfl ?_
  simp only [Nat.zero_add] at hap hclr hs3 hs2
  have hn1 : ((css.length - 1 : Nat) : Int) = ((css.length - 1 : Nat) : Int) := rfl
  simp (maxSteps := 1000000) (disch := (first | omega | (simp only [nx_alloc, nx_upd, len_cons, len_nil, List.length_set, List.length_map, List.length_append] <;> omega) | fail)) only [Nat.reduceAdd, Nat.reduceSub, Nat.reduceMul, Nat.reduceLT, Nat.reduceLeDiff, Nat.reduceEqDiff, ↓reduceIte, reduceCtorEq, Int.reduceAdd, Int.reduceSub, Int.reduceMul, Int.reduceLT, Int.reduceLE, Int.reduceEq, Int.reduceNe, Int.reduceToNat, Int.reduceNeg, go_sem, hs1, hs2, hap, hs3, builtin_clear, hclr, Try.results41]
  exact gc_here ⟨rfl, rfl⟩
theorem seq_exists {σ : Type} (Inv : Nat → σ → Prop) (R : Nat → σ → σ → Prop) (n : Nat) (s0 : σ) (h0 : Inv 0 s0) (hs : ∀ i s, i < n → Inv i s → ∃ s', R i s s' ∧ Inv (i + 1) s') : ∃ f : Nat → σ, f 0 = s0 ∧ (∀ i, i ≤ n → Inv i (f i)) ∧ ∀ i, i < n → R i (f i) (f (i + 1)) := by
  classical
  let f : Nat → σ := fun i => Nat.rec s0 (fun i s => if h : i < n ∧ Inv i s then Classical.choose (hs i s h.1 h.2) else s) i
  have hf : ∀ i, f (i + 1) = if h : i < n ∧ Inv i (f i) then Classical.choose (hs i (f i) h.1 h.2) else f i := fun i => rfl
  have hinv : ∀ i, i ≤ n → Inv i (f i) := by
    intro i
    induction i with
    | zero => intro _; exact h0
    | succ i ih =>
      intro hi
      have h1 : i < n ∧ Inv i (f i) := ⟨by omega, ih (by omega)⟩
      rw [hf, dif_pos h1]
      exact (Classical.choose_spec (hs i (f i) h1.1 h1.2)).2
  refine ⟨f, rfl, hinv, fun i hi => ?_⟩
  have h1 : i < n ∧ Inv i (f i) := ⟨hi, hinv i (by omega)⟩
  have h2 := hf i
  rw [dif_pos h1] at h2
  rw [h2]
  exact (Classical.choose_spec (hs i (f i) h1.1 h1.2)).1
def u32E (i : Int) : List Value := [.int .u32 i]
def IdView (A : St) (l : List Int) (v : Value) : Prop := View A 1 (l.flatMap u32E) l.length v
def IdRow (A : St) (lo : Nat) (l : List Int) (v : Value) : Prop := Row A 23 1 lo (l.flatMap u32E) l.length v
theorem id_push {A : St} {lo : Nat} {l : List Int} {v : Value} (h : IdRow A lo l v) (x : Int) (hlo : lo ≤ A.next) (hl : l.length ≤ 1073741824) :
    ∃ v' A', aappend Try.prog (A.alloc (.cells [.int .u32 x] 23 (some 0))) 38 38 v (.slice (some ⟨A.next, 0, none⟩) 1 1) = some (v', A') ∧ IdRow A' lo (l ++ [x]) v' ∧ A'.next = A.next + 2 ∧ rowB v' = some (A.next + 1) ∧ ∀ b, b < A.next → rowB v ≠ some b → A'.get b = A.get b := by
  obtain ⟨v', A2, hap, hr2, hn2, hrb, hf2⟩ := row_push (A := A) (sp := none) (c := 1) (xs := [.int .u32 x]) Try.el38 Try.underlying38 (by intro k; exact TypeDesc.noConfusion) Try.sz23 Try.byt23 Try.zero23 rfl h hlo (by omega) (by omega) rfl rfl
  refine ⟨v', A2, hap, ?_, hn2, hrb, hf2⟩
  unfold IdRow
  rw [List.flatMap_append, List.length_append]; exact hr2
set_option maxHeartbeats 4000000 in
theorem ids_ok (w0 : World) (A : St) (l : List VerT) (v : Value) (h : VsV A l v) (hl : l.length ≤ 1000000) :
    ∃ v' A', ACalls Try.prog w0 44 #[v] A (fin v' A') ∧ Over A A' ∧ IdRow A' A.next (l.map (·.id)) v' := by
  obtain ⟨css, ha, hcl, hv⟩ := h.1
  have hcs := ha.length
  obtain ⟨f, f0, finv, fst⟩ := seq_exists (σ := St × Value) (fun i s => Over A s.1 ∧ IdRow s.1 A.next ((l.take i).map (·.id)) s.2)
    (fun i s s' => ∃ V cs, l[i]? = some V ∧ css[i]? = some cs ∧ aappend Try.prog (((s.1.alloc (.cells zVer 28 (some 0))).upd s.1.next (some (.cells cs 28 (some 0)))).alloc (.cells [.int .u32 V.id] 23 (some 0))) 38 38 s.2 (.slice (some ⟨s.1.next + 1, 0, none⟩) 1 1) = some (s'.2, s'.1))
    l.length (A, .slice none 0 0) ⟨Over.refl _, Row.nil ..⟩ (fun i s hi hs => by
      obtain ⟨ho, hr⟩ := hs
      obtain ⟨V, hV⟩ : ∃ V, l[i]? = some V := ⟨_, List.getElem?_eq_getElem hi⟩
      obtain ⟨cs, hc, hvc⟩ := ha.get hV
      have o2 : Over s.1 ((s.1.alloc (.cells zVer 28 (some 0))).upd s.1.next (some (.cells cs 28 (some 0)))) := ((Over.refl _).alloc _).upd (Nat.le_refl _) _
      have hn := ho.next
      obtain ⟨v', A', h1, h2, h3, h4, h5⟩ := id_push (hr.over o2) V.id (by simp only [nx_upd, nx_alloc]; omega) (by rw [List.length_map, List.length_take]; omega)
      refine ⟨(A', v'), ⟨V, cs, hV, hc, h1⟩, ⟨by show A.next ≤ A'.next; simp only [nx_upd, nx_alloc] at h3; omega, fun b hb => ?_⟩, ?_⟩
      · have hrb : rowB s.2 ≠ some b := fun e => by
          have h6 : A.next ≤ b := (Row.rb hr b e).1
          omega
        have hlt : b < s.1.next := by omega
        rw [h5 b (by simp only [nx_upd, nx_alloc]; omega) hrb, o2.get b hlt, ho.get b hb]
      · rw [List.take_add_one, hV, List.map_append]; exact h2)
  refine ⟨(f l.length).2, (f l.length).1, ?_, (finv _ (Nat.le_refl _)).1, by have := (finv _ (Nat.le_refl _)).2; rwa [List.take_length] at this⟩
  refine call_E Try.enters44 Try.func44 rfl (Nat.le_of_ble_eq_true rfl) fun hw hbd => ?_
  have hlen := NV.lenU (e := 28) h.1
  simp (maxSteps := 1000000) (disch := (first | omega | (simp only [nx_alloc, nx_upd, len_cons, len_nil, List.length_set, List.length_map, List.length_append] <;> omega) | fail)) only [Nat.reduceAdd, Nat.reduceSub, Nat.reduceMul, Nat.reduceLT, Nat.reduceLeDiff, Nat.reduceEqDiff, ↓reduceIte, reduceCtorEq, Int.reduceAdd, Int.reduceSub, Int.reduceMul, Int.reduceLT, Int.reduceLE, Int.reduceEq, Int.reduceNe, Int.reduceToNat, Int.reduceNeg, go_sem, Try.ntmps44, Try.results44, hlen]
  refine aw_loop (fun k x A' => ∃ (ρ : Nat → Value) (i : Nat), x = E 18 ρ [] ∧ k = l.length - i ∧ i ≤ l.length ∧ A' = (f i).1 ∧ ρ 2 = (f i).2 ∧ ρ 5 = v ∧ ρ 6 = .int .i64 l.length ∧ ρ 7 = .int .i64 i) l.length
    ⟨_, 0, rfl, rfl, Nat.zero_le _, by rw [f0], by rw [f0]; rfl, rfl, rfl, rfl⟩ ?_
  rintro k x A' ⟨ρ, i, rfl, hk, hi, hA, g2, g5, g6, g7⟩
  refine aw_of ?_
  by_cases hend : i = l.length
  · have e1 : ¬ ((i : Int) < l.length) := by omega
    rw [hend] at g2 hA
    simp (maxSteps := 1000000) (disch := (first | omega | (simp only [nx_alloc, nx_upd, len_cons, len_nil, List.length_set, List.length_map, List.length_append] <;> omega) | fail)) only [Nat.reduceAdd, Nat.reduceSub, Nat.reduceMul, Nat.reduceLT, Nat.reduceLeDiff, Nat.reduceEqDiff, ↓reduceIte, reduceCtorEq, Int.reduceAdd, Int.reduceSub, Int.reduceMul, Int.reduceLT, Int.reduceLE, Int.reduceEq, Int.reduceNe, Int.reduceToNat, Int.reduceNeg, go_sem, g2, g5, g6, g7, Try.results44]
    exact gc_here ⟨rfl, hA⟩
  have e1 : ((i : Int) < l.length) := by omega
  obtain ⟨V, cs, hV, hc, hap⟩ := fst i (by omega)
  have ho := (finv i hi).1
  rw [← hA] at hap ho
  have hvc : VerC A V cs := by
    obtain ⟨cs', h1, h2⟩ := ha.get hV
    rw [hc] at h1; cases h1; exact h2
  obtain ⟨b, off, q1, q2, q3, cells, e', m, q4, q5, q6⟩ := (View.over hv ho).at (P := Try.prog) (e := 28) Try.sz28 (i := i) (by omega)
  rw [flat_elem hcl hc] at q6
  have hld := ld_agg (e' := e') (m := m) q5 q6
  obtain ⟨p, q, u, rfl, w1, w2, w3⟩ := hvc
  obtain ⟨_, _, rfl⟩ := View.sl0 w1
  obtain ⟨_, _, rfl⟩ := View.sl0 w2
  obtain ⟨_, _, rfl⟩ := View.sl0 w3
  unfold zVer at hap
  simp (maxSteps := 1000000) (disch := (first | omega | (simp only [nx_alloc, nx_upd, len_cons, len_nil, List.length_set, List.length_map, List.length_append] <;> omega) | fail)) only [Nat.reduceAdd, Nat.reduceSub, Nat.reduceMul, Nat.reduceLT, Nat.reduceLeDiff, Nat.reduceEqDiff, ↓reduceIte, reduceCtorEq, Int.reduceAdd, Int.reduceSub, Int.reduceMul, Int.reduceLT, Int.reduceLE, Int.reduceEq, Int.reduceNe, Int.reduceToNat, Int.reduceNeg, go_sem, g2, g5, g6, g7, q3, q4, hld]
  rw [hap]
  simp (maxSteps := 1000000) (disch := (first | omega | (simp only [nx_alloc, nx_upd, len_cons, len_nil, List.length_set, List.length_map, List.length_append] <;> omega) | fail)) only [Nat.reduceAdd, Nat.reduceSub, Nat.reduceMul, Nat.reduceLT, Nat.reduceLeDiff, Nat.reduceEqDiff, ↓reduceIte, reduceCtorEq, Int.reduceAdd, Int.reduceSub, Int.reduceMul, Int.reduceLT, Int.reduceLE, Int.reduceEq, Int.reduceNe, Int.reduceToNat, Int.reduceNeg, go_sem, g7]
  refine ⟨k - 1, by omega, _, i + 1, rfl, by omega, by omega, rfl, ?_, ?_, ?_, ?_⟩
  · simp (maxSteps := 1000000) (disch := (first | omega | (simp only [nx_alloc, nx_upd, len_cons, len_nil, List.length_set, List.length_map, List.length_append] <;> omega) | fail)) only [Nat.reduceAdd, Nat.reduceSub, Nat.reduceMul, Nat.reduceLT, Nat.reduceLeDiff, Nat.reduceEqDiff, ↓reduceIte, reduceCtorEq, Int.reduceAdd, Int.reduceSub, Int.reduceMul, Int.reduceLT, Int.reduceLE, Int.reduceEq, Int.reduceNe, Int.reduceToNat, Int.reduceNeg, go_sem]
  · simp (maxSteps := 1000000) (disch := (first | omega | (simp only [nx_alloc, nx_upd, len_cons, len_nil, List.length_set, List.length_map, List.length_append] <;> omega) | fail)) only [Nat.reduceAdd, Nat.reduceSub, Nat.reduceMul, Nat.reduceLT, Nat.reduceLeDiff, Nat.reduceEqDiff, ↓reduceIte, reduceCtorEq, Int.reduceAdd, Int.reduceSub, Int.reduceMul, Int.reduceLT, Int.reduceLE, Int.reduceEq, Int.reduceNe, Int.reduceToNat, Int.reduceNeg, go_sem, g5]
  · simp (maxSteps := 1000000) (disch := (first | omega | (simp only [nx_alloc, nx_upd, len_cons, len_nil, List.length_set, List.length_map, List.length_append] <;> omega) | fail)) only [Nat.reduceAdd, Nat.reduceSub, Nat.reduceMul, Nat.reduceLT, Nat.reduceLeDiff, Nat.reduceEqDiff, ↓reduceIte, reduceCtorEq, Int.reduceAdd, Int.reduceSub, Int.reduceMul, Int.reduceLT, Int.reduceLE, Int.reduceEq, Int.reduceNe, Int.reduceToNat, Int.reduceNeg, go_sem, g6]
  · simp (maxSteps := 1000000) (disch := (first | omega | (simp only [nx_alloc, nx_upd, len_cons, len_nil, List.length_set, List.length_map, List.length_append] <;> omega) | fail)) only [Nat.reduceAdd, Nat.reduceSub, Nat.reduceMul, Nat.reduceLT, Nat.reduceLeDiff, Nat.reduceEqDiff, ↓reduceIte, reduceCtorEq, Int.reduceAdd, Int.reduceSub, Int.reduceMul, Int.reduceLT, Int.reduceLE, Int.reduceEq, Int.reduceNe, Int.reduceToNat, Int.reduceNeg, go_sem]
    rfl
end Go.Fw
