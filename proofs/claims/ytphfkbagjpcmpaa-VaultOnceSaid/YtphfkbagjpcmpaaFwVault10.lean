import Derived.Test.YtphfkbagjpcmpaaFwVault9
import Derived.Test.YtphfkbagjpcmpaaFw36
set_option linter.unusedSimpArgs false
set_option linter.unusedVariables false
namespace Go.Fw
open Go.Proofs Go.RowKit
attribute [local go_sem] List.length_cons List.length_nil Nat.zero_add Nat.add_zero Nat.zero_mul Nat.mul_one Int.toNat_zero Int.toNat_natCast List.map_cons List.map_nil List.map_toArray List.toList_toArray List.append_toArray List.append_eq List.nil_append List.cons_append List.append_nil List.all_toArray List.all_cons List.all_nil Bool.and_true Bool.true_and Bool.and_self List.getElem?_toArray List.getElem?_cons_zero List.getElem?_cons_succ List.set_cons_zero List.set_cons_succ List.drop_zero List.drop_succ_cons List.take_zero List.take_succ_cons Option.bind_some Option.map_some id true_and and_true and_self St.next_alloc St.next_upd beq_self_eq_true Bool.not_true Bool.not_false Bool.false_eq_true false_implies true_implies Option.isNone_none Option.isNone_some Option.isSome_none Option.isSome_some ge_iff_le gt_iff_lt Nat.sub_zero Nat.add_assoc IntWalk.i64_in IntWalk.u64_in IntWalk.u8_in IntWalk.u32_in IntWalk.i32_in IntWalk.u16_in dec_not Bool.not_eq_true decide_true decide_false ne_eq not_true_eq_false not_false_eq_true Bool.true_or Bool.or_true Bool.or_false Bool.false_or Bool.and_false Bool.false_and upd_apply rd_eq ar_zero ar_succ ar_nil tm_size tm_getD tm_set E_tmps E_defers put_E put_none eval_tmp eval_const eval_func setArgs_0 setArgs_1 setArgs_2 append_lit stepV_some stepA_some guardO_true ifB_true ifB_false wantV_true wantV_false wantV_dec_t wantV_dec_f ifB_dec_t ifB_dec_f condV_bool dec_and dec_or isB_bool someB_t someB_f okO_tmp okO_func okO_int okO_bool okO_string okO_ptr0 okO_slice0 okO_nilFunc okO_nilIface okO_map0 okO_agg wanted_none wanted_some lookT_some aopsL_nil aopsL_cons wpA_skip wpA_label wpA_exit wpA_goto wpA_ret wpA_seq wpA_block wpA_region wpA_cond wpA_loop wpA_rangeFunc wpA_draw thenQ_normal thenQ_exit thenQ_ret thenQ_panic blockQ_normal blockQ_ret blockQ_panic blockQ_exit funQ_ret funQ_normal funQ_panic op_move op_assign pickV_or pickV_and pickV_t pickV_f pickV_true pickV_false op_pick allocV_some op_alloc op_box op_load op_nilCheck op_bin op_lookup bptr btype op_un op_convert op_makeInterface op_makeSlice op_fieldAddr op_field op_indexAddr op_index op_extract op_typeAssert storeV_some op_store op_makeMap op_mapUpdate op_slice00 op_slice10 op_slice01 op_slice11 op_slice111 op_slice011 op_makeFunc callV_true op_call op_builtin panicV_iface op_panic ACallV_func ACallF_false ACallF_true ACallV_yield afterCall_returned afterCall_panicked bin_add bin_sub bin_mul bin_and bin_or bin_xor bin_andNot bin_eql bin_neq bin_lss bin_leq bin_gtr bin_geq mval_some mval_none lookup_map lookU_map lookK_smap mapSet_map msetU_map msetK_int conv_to conv_from unsT_cells unsF_cells bin_same bin_nil bdata_nil bdata_some builtin_data builtin_str bin_quo bin_rem bin_shl bin_shr bin_sadd bin_seql bin_sneq bin_slss uB_bool bin_beql bin_bneq uP_pointer bin_peql bin_pneq uS_slice bin_leql bin_lneq bin_ieql bin_ineq un_neg un_xor un_not nilCheck_ptr nilCheck_func nilCheck_yield load_ptr loadC_one loadC_agg store_ptr slice_eq sliceU_string sliceU_slice sliceU_array sliceS_eq boundsS_some sliceL_eq boundsL_nil boundsL_exact boundsL_least boundsL_own boundsL_ownN bounds_11 bounds_10 bounds_01 bounds_00 builtin_len len_string len_array len_slice builtin_append builtin_copy pairA_some builtin_min builtin_max min_two max_two index_eq index_string index_array indexAddr_eq indexAddr_array indexAddr_slice fieldAddr_eq posO_some fAddr_some fieldAddr_struct partC_some field_eq field_struct part_eq partU_one partU_agg extract_tuple conv_eq conv_int conv_string u8O_u8 conv_bytes conv_text_nil conv_text_zero conv_text mkIface_eq get_upd_same consO_some finR_0 finR_1 finR_2 aresL_nil aresL_cons ares1_tmp ares1_cell retV_some aleave_nil aleave_coll bnd_int bnd_bool bnd_string bnd_nilIface bnd_slice0 bnd_iface bnd_slice bnd_ptr bnd_ptr0 bndL_nil bndL_cons bndA_lit bnd_tuple bnd_agg calm_same skipC_eq aopsC_nil aopsC_cons stepC_call stepC_move stepC_assign stepC_pick stepC_alloc stepC_box stepC_build stepC_buildSlice stepC_load stepC_store stepC_nilCheck stepC_binOp stepC_unOp stepC_convert stepC_makeInterface stepC_makeFunc stepC_makeSlice stepC_slice stepC_fieldAddr stepC_field stepC_indexAddr stepC_index stepC_extract stepC_typeAssert stepC_lookup stepC_mapUpdate stepC_makeMap stepC_builtin to_same sameA_eq aopsX_nil aopsX_cons stepX_heavy stepX_light lightK_eq allC_nil allC_cons hs_zero hs_succ stepT_call pure_call stepT_move pure_move stepT_assign pure_assign stepT_pick pure_pick stepT_alloc pure_alloc stepT_box pure_box stepT_build pure_build stepT_buildSlice pure_buildSlice stepT_load pure_load stepT_store pure_store stepT_nilCheck pure_nilCheck stepT_binOp pure_binOp stepT_unOp pure_unOp stepT_convert pure_convert stepT_makeInterface pure_makeInterface stepT_makeFunc pure_makeFunc stepT_makeSlice pure_makeSlice stepT_slice pure_slice stepT_fieldAddr pure_fieldAddr stepT_field pure_field stepT_indexAddr pure_indexAddr stepT_index pure_index stepT_extract pure_extract stepT_typeAssert pure_typeAssert stepT_lookup pure_lookup stepT_mapUpdate pure_mapUpdate stepT_makeMap pure_makeMap stepT_builtin pure_b_len pure_b_append pure_b_copy pure_b_min pure_b_max pure_b_unsafeSliceData pure_b_unsafeString leaveK_eq aleave_fn op_defer deferV_func resK_some defQ_ret defQ_normal storeC_int storeC_bool storeC_string storeC_slice storeC_func storeC_pointer len_cons len_nil cells_int cells_bool cells_string cells_slice cells_pointer cells_func cells_map cells_nilFunc cells_agg cell1_bool cell1_string cell1_slice cell1_pointer cell1_func cell1_i cell1_map cell1_nilFunc setList_nil setList_cons storeC_aggS fillP_nil fillP_cons fillAt_1 fillAt_n aggO_some sliceO_some places_0 places_s zerosR_0 zerosR_s thenElse_true evP_nil evP_cons okP_nil okP_cons op_buildL op_buildSliceL isBu_t isBu_f mk_E get_alloc_old get_alloc_new get_upd_old Try.agg1 Try.sz1 Try.byt1 Try.zero1 Try.agg2 Try.sz2 Try.byt2 Try.zero2 Try.agg3 Try.sz3 Try.byt3 Try.zero3 Try.agg4 Try.sz4 Try.byt4 Try.zero4 Try.agg5 Try.sz5 Try.byt5 Try.zero5 Try.agg6 Try.sz6 Try.byt6 Try.zero6 Try.agg7 Try.sz7 Try.byt7 Try.zero7 Try.agg8 Try.sz8 Try.byt8 Try.zero8 Try.agg9 Try.sz9 Try.byt9 Try.zero9 Try.agg10 Try.sz10 Try.byt10 Try.zero10 Try.agg11 Try.sz11 Try.byt11 Try.zero11 Try.agg12 Try.sz12 Try.byt12 Try.zero12 Try.agg13 Try.sz13 Try.byt13 Try.zero13 Try.agg14 Try.sz14 Try.byt14 Try.zero14 Try.agg15 Try.sz15 Try.byt15 Try.zero15 Try.agg16 Try.sz16 Try.byt16 Try.zero16 Try.agg17 Try.sz17 Try.byt17 Try.zero17 Try.agg18 Try.sz18 Try.byt18 Try.zero18 Try.agg19 Try.sz19 Try.byt19 Try.zero19 Try.agg20 Try.sz20 Try.byt20 Try.zero20 Try.agg21 Try.sz21 Try.byt21 Try.zero21 Try.agg22 Try.sz22 Try.byt22 Try.el22 Try.zero22 Try.agg23 Try.sz23 Try.byt23 Try.zero23 Try.agg24 Try.sz24 Try.byt24 Try.el24 Try.zero24 Try.agg25 Try.sz25 Try.byt25 Try.el25 Try.zero25 Try.agg26 Try.sz26 Try.byt26 Try.el26 Try.zero26 Try.agg27 Try.sz27 Try.byt27 Try.zero27 Try.agg28 Try.sz28 Try.byt28 Try.zero28 Try.agg29 Try.sz29 Try.byt29 Try.zero29 Try.agg30 Try.sz30 Try.byt30 Try.zero30 Try.agg31 Try.sz31 Try.byt31 Try.zero31 Try.agg32 Try.sz32 Try.byt32 Try.zero32 Try.agg33 Try.sz33 Try.byt33 Try.zero33 Try.agg34 Try.sz34 Try.byt34 Try.zero34 Try.agg35 Try.sz35 Try.byt35 Try.el35 Try.zero35 Try.agg36 Try.sz36 Try.byt36 Try.zero36 Try.agg37 Try.sz37 Try.byt37 Try.zero37 Try.agg38 Try.sz38 Try.byt38 Try.el38 Try.zero38 Try.agg39 Try.sz39 Try.byt39 Try.zero39 Try.agg40 Try.sz40 Try.byt40 Try.zero40 Try.agg41 Try.sz41 Try.byt41 Try.zero41 Try.agg42 Try.sz42 Try.byt42 Try.zero42 Try.agg43 Try.sz43 Try.byt43 Try.zero43 Try.agg44 Try.sz44 Try.byt44 Try.el44 Try.zero44 Try.agg46 Try.sz46 Try.byt46 Try.zero46 Try.agg48 Try.sz48 Try.byt48 Try.zero48 Try.agg49 Try.sz49 Try.byt49 Try.zero49 Try.agg50 Try.sz50 Try.byt50 Try.zero50 Try.agg51 Try.sz51 Try.byt51 Try.zero51 Try.agg52 Try.sz52 Try.byt52 Try.zero52 Try.agg53 Try.sz53 Try.byt53 Try.zero53 Try.agg54 Try.sz54 Try.byt54 Try.zero54 Try.agg55 Try.sz55 Try.byt55 Try.el55 Try.zero55 Try.agg56 Try.sz56 Try.byt56 Try.zero56 Try.agg57 Try.sz57 Try.byt57 Try.zero57 Try.agg58 Try.sz58 Try.byt58 Try.zero58 Try.agg59 Try.sz59 Try.byt59 Try.zero59 Try.agg60 Try.sz60 Try.byt60 Try.zero60 Try.agg61 Try.sz61 Try.byt61 Try.zero61 Try.agg62 Try.sz62 Try.byt62 Try.zero62 Try.agg64 Try.sz64 Try.byt64 Try.zero64 Try.agg65 Try.sz65 Try.byt65 Try.zero65 Try.agg66 Try.sz66 Try.byt66 Try.zero66 Try.agg68 Try.sz68 Try.byt68 Try.zero68 Try.agg69 Try.sz69 Try.byt69 Try.zero69 Try.agg71 Try.sz71 Try.byt71 Try.zero71 Try.agg72 Try.sz72 Try.byt72 Try.zero72 Try.agg73 Try.sz73 Try.byt73 Try.zero73 Try.agg74 Try.sz74 Try.byt74 Try.zero74 Try.agg75 Try.sz75 Try.byt75 Try.zero75 Try.agg76 Try.sz76 Try.byt76 Try.zero76 Try.agg77 Try.sz77 Try.byt77 Try.zero77 Try.agg78 Try.sz78 Try.byt78 Try.zero78 Try.agg79 Try.sz79 Try.byt79 Try.zero79 Try.agg80 Try.sz80 Try.byt80 Try.zero80 Try.agg81 Try.sz81 Try.byt81 Try.zero81 Try.agg82 Try.sz82 Try.byt82 Try.zero82 Try.agg83 Try.sz83 Try.byt83 Try.zero83 Try.agg84 Try.sz84 Try.byt84 Try.zero84 Try.agg85 Try.sz85 Try.byt85 Try.zero85 Try.agg86 Try.sz86 Try.byt86 Try.zero86 Try.agg87 Try.sz87 Try.byt87 Try.zero87 Try.agg88 Try.sz88 Try.byt88 Try.zero88 Try.agg89 Try.sz89 Try.byt89 Try.el89 Try.zero89 Try.agg90 Try.sz90 Try.byt90 Try.zero90 Try.agg91 Try.sz91 Try.byt91 Try.zero91 Try.agg92 Try.sz92 Try.byt92 Try.zero92 Try.agg93 Try.sz93 Try.byt93 Try.zero93 Try.agg94 Try.sz94 Try.byt94 Try.zero94 Try.agg95 Try.sz95 Try.byt95 Try.zero95 Try.agg96 Try.sz96 Try.byt96 Try.zero96 Try.agg97 Try.sz97 Try.byt97 Try.zero97 Try.agg98 Try.sz98 Try.byt98 Try.zero98 Try.agg99 Try.sz99 Try.byt99 Try.zero99 Try.agg100 Try.sz100 Try.byt100 Try.zero100 Try.agg101 Try.sz101 Try.byt101 Try.zero101 Try.agg102 Try.sz102 Try.byt102 Try.zero102 Try.agg103 Try.sz103 Try.byt103 Try.zero103 Try.agg104 Try.sz104 Try.byt104 Try.zero104 Try.agg105 Try.sz105 Try.byt105 Try.zero105 Try.agg106 Try.sz106 Try.byt106 Try.zero106 Try.agg107 Try.sz107 Try.byt107 Try.zero107 Try.agg108 Try.sz108 Try.byt108 Try.zero108 Try.agg109 Try.sz109 Try.byt109 Try.zero109 Try.agg110 Try.sz110 Try.byt110 Try.zero110 Try.agg111 Try.sz111 Try.byt111 Try.zero111 Try.agg112 Try.sz112 Try.byt112 Try.zero112 Try.agg113 Try.sz113 Try.byt113 Try.zero113 Try.agg114 Try.sz114 Try.byt114 Try.zero114 Try.agg115 Try.sz115 Try.byt115 Try.zero115 Try.agg116 Try.sz116 Try.byt116 Try.zero116 Try.body0 Try.body1 Try.body2 Try.body3 Try.body4 Try.body5 Try.body6 Try.body7 Try.body8 Try.body9 Try.body10 Try.body11 Try.body12 Try.body13 Try.body14 Try.body15 Try.body16 Try.body17 Try.body18 Try.body19 Try.body20 Try.body21 Try.body22 Try.body23 Try.body24 Try.body25 Try.body26 Try.body27 Try.body28 Try.body29 Try.body30 Try.body31 Try.body32 Try.body33 Try.body34 Try.body35 Try.body36 Try.body37 Try.body38 Try.body39 Try.body40 Try.body41 Try.body42 Try.body43 Try.body44 Try.body45 Try.body46 Try.body47 Try.body48 Try.body49 Try.body50 Try.body51 Try.body52 Try.body53 Try.body54 Try.body55 Try.body56 Try.body57 Try.body58 Try.body59 Try.body60 Try.body61 Try.body62 Try.body63 Try.body64 Try.body65 Try.body66 Try.body67 Try.body68 Try.body69 Try.body70 Try.body71 Try.body72 Try.body73 Try.body74 Try.body75 Try.body76 Try.body77 Try.body78 Try.body79 Try.build7 Try.build8 Try.build13 Try.build14 Try.build18 Try.build19 Try.bsl22 Try.bsl24 Try.bsl25 Try.bsl26 Try.build27 Try.build28 Try.build29 Try.build30 Try.build31 Try.build32 Try.bsl35 Try.bsl38 Try.build39 Try.build40 Try.build42 Try.build43 Try.bsl44 Try.build50 Try.bsl55 Try.bsl89 Try.build90 Try.build91 Try.build102 Try.build103 Try.build105 Try.build106 Try.build114 Try.build115 Try.underlying1 Try.underlying2 Try.underlying3 Try.underlying4 Try.underlying5 Try.underlying6 Try.underlying7 Try.underlying8 Try.underlying9 Try.underlying10 Try.underlying11 Try.underlying12 Try.underlying13 Try.underlying14 Try.underlying15 Try.underlying16 Try.underlying17 Try.underlying18 Try.underlying19 Try.underlying20 Try.underlying21 Try.underlying22 Try.underlying23 Try.underlying24 Try.underlying25 Try.underlying26 Try.underlying27 Try.underlying28 Try.underlying29 Try.underlying30 Try.underlying31 Try.underlying32 Try.underlying33 Try.underlying34 Try.underlying35 Try.underlying36 Try.underlying37 Try.underlying38 Try.underlying39 Try.underlying40 Try.underlying41 Try.underlying42 Try.underlying43 Try.underlying44 Try.underlying46 Try.underlying48 Try.underlying49 Try.underlying50 Try.underlying51 Try.underlying52 Try.underlying53 Try.underlying54 Try.underlying55 Try.underlying56 Try.underlying57 Try.underlying58 Try.underlying59 Try.underlying60 Try.underlying61 Try.underlying62 Try.underlying64 Try.underlying65 Try.underlying66 Try.underlying68 Try.underlying69 Try.underlying71 Try.underlying72 Try.underlying73 Try.underlying74 Try.underlying75 Try.underlying76 Try.underlying77 Try.underlying78 Try.underlying79 Try.underlying80 Try.underlying81 Try.underlying82 Try.underlying83 Try.underlying84 Try.underlying85 Try.underlying86 Try.underlying87 Try.underlying88 Try.underlying89 Try.underlying90 Try.underlying91 Try.underlying92 Try.underlying93 Try.underlying94 Try.underlying95 Try.underlying96 Try.underlying97 Try.underlying98 Try.underlying99 Try.underlying100 Try.underlying101 Try.underlying102 Try.underlying103 Try.underlying104 Try.underlying105 Try.underlying106 Try.underlying107 Try.underlying108 Try.underlying109 Try.underlying110 Try.underlying111 Try.underlying112 Try.underlying113 Try.underlying114 Try.underlying115 Try.underlying116
/-- What is known of a state that came of small requests. -/
def StT.sm8 (S : StT) : Prop := S.vers.length ≤ 8 ∧ S.seqs.length = 3 ∧ S.last.length = 3 ∧ (∀ V ∈ S.vers, V.small) ∧ ∀ R ∈ S.last, R.v.small ∧ R.ids.length ≤ 8
def ReplyT.sm (R : ReplyT) : Prop := R.v.small ∧ R.ids.length ≤ 8
theorem verN_small : verN.small := ⟨Nat.zero_le _, Nat.zero_le _, Nat.zero_le _⟩
theorem errR_sm (e : Int) : (errR e).sm := ⟨verN_small, Nat.zero_le _⟩
theorem getD_small {l : List VerT} (hl : ∀ V ∈ l, V.small) (i : Nat) : (l.getD i verN).small := by
  rw [List.getD_eq_getElem?_getD]
  cases h : l[i]? with
  | none => exact verN_small
  | some V => exact hl V (List.mem_of_getElem? h)
theorem doL_sm {l : List VerT} {o : VOp} (h8 : l.length ≤ 8) (hl : ∀ V ∈ l, V.small) (ho : o.v.small) : (∀ V ∈ (doL l o).1, V.small) ∧ (doL l o).2.sm := by
  unfold doL
  split
  · split
    · exact ⟨hl, errR_sm _⟩
    split
    · exact ⟨hl, errR_sm _⟩
    split
    · exact ⟨hl, errR_sm _⟩
    · refine ⟨fun V hV => ?_, errR_sm _⟩
      rcases List.mem_append.1 hV with hV | hV
      · exact hl V hV
      · rw [List.mem_singleton.1 hV]; exact ho
  split
  · split
    · exact ⟨hl, errR_sm _⟩
    · exact ⟨fun V hV => hl V (List.mem_of_mem_eraseIdx hV), errR_sm _⟩
  split
  · refine ⟨fun V hV => hl V (List.mem_of_mem_drop hV), verN_small, ?_⟩
    simp only [List.length_map, List.length_take]; omega
  split
  · refine ⟨hl, verN_small, ?_⟩
    simp only [List.length_map]; exact h8
  split
  · split
    · exact ⟨hl, errR_sm _⟩
    · exact ⟨hl, getD_small hl _, Nat.zero_le _⟩
  · exact ⟨hl, errR_sm _⟩
theorem applyS_sm {S : StT} {r : ReqT} (h : S.sm8) (ho : r.op.v.small) : (applyS S r).1.sm8 ∧ (applyS S r).2.sm := by
  obtain ⟨h1, h2, h3, h4, h5⟩ := h
  unfold applyS
  split
  · exact ⟨⟨h1, h2, h3, h4, h5⟩, errR_sm _⟩
  split
  · refine ⟨⟨h1, h2, h3, h4, h5⟩, ?_⟩
    rw [List.getD_eq_getElem?_getD]
    cases hx : S.last[r.client.toNat]? with
    | none => exact errR_sm _
    | some R => exact h5 R (List.mem_of_getElem? hx)
  split
  · exact ⟨⟨h1, h2, h3, h4, h5⟩, errR_sm _⟩
  · obtain ⟨d1, d2⟩ := doL_sm h1 h4 ho
    refine ⟨⟨doL_len _ h1, by simpa using h2, by simpa using h3, d1, fun R hR => ?_⟩, d2⟩
    rcases List.mem_or_eq_of_mem_set hR with hR | rfl
    · exact h5 R hR
    · exact d2
theorem S0_sm : S0.sm8 := ⟨Nat.zero_le _, rfl, rfl, fun V h => (by cases h), fun R h => by
  simp only [S0, List.mem_cons, List.not_mem_nil, or_false] at h
  rcases h with rfl | rfl | rfl <;> exact errR_sm _⟩
theorem allS_sm : ∀ (l : List ReqT), (∀ r ∈ l, r.op.v.small) → (allS l).1.sm8 ∧ ∀ R ∈ (allS l).2, R.sm := by
  intro l
  generalize hn : l.length = n
  induction n generalizing l with
  | zero =>
    intro _
    rw [List.eq_nil_of_length_eq_zero hn]
    exact ⟨S0_sm, fun R h => by cases h⟩
  | succ n ih =>
    intro h
    obtain ⟨m, r, rfl⟩ : ∃ m r, l = m ++ [r] := ⟨l.dropLast, l.getLast (by intro e; subst e; simp at hn), (List.dropLast_concat_getLast _).symm⟩
    have hm : m.length = n := by simp at hn; exact hn
    obtain ⟨i1, i2⟩ := ih m hm (fun r hr => h r (List.mem_append_left _ hr))
    rw [allS_snoc]
    obtain ⟨a1, a2⟩ := applyS_sm i1 (h r (List.mem_append_right _ (List.mem_singleton.2 rfl)))
    refine ⟨a1, fun R hR => ?_⟩
    rcases List.mem_append.1 hR with hR | hR
    · exact i2 R hR
    · rw [List.mem_singleton.1 hR]; exact a2
theorem StT.sm8.sm {S : StT} (h : S.sm8) : S.sm := ⟨by have := h.1; omega, h.2.2.2.1, fun R hR => ⟨(h.2.2.2.2 R hR).1, by have := (h.2.2.2.2 R hR).2; omega⟩⟩
/-- The reply to each request is what applying it comes to. -/
theorem allS_at (l : List ReqT) : ∀ (i : Nat) (r : ReqT), l[i]? = some r → (allS l).2[i]? = some (applyS (allS (l.take i)).1 r).2 := by
  generalize hn : l.length = n
  induction n generalizing l with
  | zero => intro i r h; rw [List.eq_nil_of_length_eq_zero hn] at h; simp at h
  | succ n ih =>
    intro i r h
    obtain ⟨m, q, rfl⟩ : ∃ m r, l = m ++ [r] := ⟨l.dropLast, l.getLast (by intro e; subst e; simp at hn), (List.dropLast_concat_getLast _).symm⟩
    have hm : m.length = n := by simp at hn; exact hn
    rw [allS_snoc]
    have hlen := (allS_len m).2
    by_cases hi : i < m.length
    · rw [List.getElem?_append_left hi] at h
      rw [List.getElem?_append_left (by omega), ih m hm i r h, List.take_append_of_le_length (by omega)]
    · have hlt : i < (m ++ [q]).length := (List.getElem?_eq_some_iff.1 h).1
      have hi' : i = m.length := by simp at hlt; omega
      subst hi'
      rw [List.getElem?_append_right (by omega), Nat.sub_self] at h
      cases h
      simp only
      rw [List.getElem?_append_right (by omega), hlen, Nat.sub_self, List.take_left']
      · rfl
      · rfl
/-- Requests that were read. -/
theorem ok_of {l : List ReqT} (h : ∀ r ∈ l, r.okA) (hs : ∀ r ∈ l, r.op.v.small) : ∀ r ∈ l, r.ok := fun r hr => ⟨(h r hr).1, (h r hr).2.1, (h r hr).2.2.1, (h r hr).2.2.2.1, hs r hr⟩
theorem NV.pre {α : Type} {P : Program} {A : St} {sz k e : Nat} {ik : IntKind} {E : α → List Value → Prop} {l : List α} {v : Value} (h : NV A sz E l v) (hs : SlOk sz v) (hsz : tsz P e = some sz) (h0 : 0 < sz) (hk : k ≤ l.length) : ∃ v', sliceU (some (.slice e)) (tsz P) v none (some (.int ik (k : Int))) none = some v' ∧ NV A sz E (l.take k) v' ∧ SlOk sz v' := by
  obtain ⟨css, ha, hl, hv⟩ := h
  obtain ⟨v', h1, h2, h3, _⟩ := View.pre (P := P) (e := e) (ik := ik) hv hs hsz h0 hk
  refine ⟨v', h1, ⟨css.take k, ha.take k, fun cs hc => hl cs (List.mem_of_mem_take hc), ?_⟩, h3⟩
  rw [← flat_take k hl, List.length_take, Nat.min_eq_left hk]; exact h2
/-- A state's variable, newly laid. -/
theorem one_st (B : St) {cs : List Value} (h1 : cs.length = 22 ∧ cs.all cell1 = true) : ∃ C, storeC (B.alloc (.cells [.slice none 0 0, .int .u32 0, .int .u32 0, .int .u32 0, .int .i64 0, .slice none 0 0, .int .u32 0, .slice none 0 0, .slice none 0 0, .slice none 0 0, .int .i64 0, .slice none 0 0, .int .u32 0, .slice none 0 0, .slice none 0 0, .slice none 0 0, .int .i64 0, .slice none 0 0, .int .u32 0, .slice none 0 0, .slice none 0 0, .slice none 0 0] 43 (some 0))) (some 22) (some (.cells [.slice none 0 0, .int .u32 0, .int .u32 0, .int .u32 0, .int .i64 0, .slice none 0 0, .int .u32 0, .slice none 0 0, .slice none 0 0, .slice none 0 0, .int .i64 0, .slice none 0 0, .int .u32 0, .slice none 0 0, .slice none 0 0, .slice none 0 0, .int .i64 0, .slice none 0 0, .int .u32 0, .slice none 0 0, .slice none 0 0, .slice none 0 0] 43 (some 0))) B.next 0 (.agg cs.toArray) = some C ∧ Over B C ∧ C.next = B.next + 1 ∧ C.get B.next = some (.cells cs 43 (some 0)) :=
  ⟨_, stN (n := 22) rfl h1.1 h1.2, ((Over.refl B).alloc _).upd (Nat.le_refl _) _, rfl, get_upd_same ..⟩
theorem one_stR (B : St) {cs : List Value} (h1 : cs.length = 6) (h2 : cs.all cell1 = true) : ∃ C, storeC (B.alloc (.cells [.int .i64 0, .slice none 0 0, .int .u32 0, .slice none 0 0, .slice none 0 0, .slice none 0 0] 40 (some 0))) (some 6) (some (.cells [.int .i64 0, .slice none 0 0, .int .u32 0, .slice none 0 0, .slice none 0 0, .slice none 0 0] 40 (some 0))) B.next 0 (.agg cs.toArray) = some C ∧ Over B C ∧ C.next = B.next + 1 ∧ C.get B.next = some (.cells cs 40 (some 0)) :=
  ⟨_, stN (n := 6) rfl h1 h2, ((Over.refl B).alloc _).upd (Nat.le_refl _) _, rfl, get_upd_same ..⟩
/-- A state's variable and a reply's, newly laid. -/
theorem two_st (B : St) {cs rc : List Value} (h1 : cs.length = 22 ∧ cs.all cell1 = true) (h2 : rc.length = 6) (h3 : rc.all cell1 = true) : ∃ C1 C, storeC ((B.alloc (.cells [.slice none 0 0, .int .u32 0, .int .u32 0, .int .u32 0, .int .i64 0, .slice none 0 0, .int .u32 0, .slice none 0 0, .slice none 0 0, .slice none 0 0, .int .i64 0, .slice none 0 0, .int .u32 0, .slice none 0 0, .slice none 0 0, .slice none 0 0, .int .i64 0, .slice none 0 0, .int .u32 0, .slice none 0 0, .slice none 0 0, .slice none 0 0] 43 (some 0))).alloc (.cells [.int .i64 0, .slice none 0 0, .int .u32 0, .slice none 0 0, .slice none 0 0, .slice none 0 0] 40 (some 0))) (some 22) (some (.cells [.slice none 0 0, .int .u32 0, .int .u32 0, .int .u32 0, .int .i64 0, .slice none 0 0, .int .u32 0, .slice none 0 0, .slice none 0 0, .slice none 0 0, .int .i64 0, .slice none 0 0, .int .u32 0, .slice none 0 0, .slice none 0 0, .slice none 0 0, .int .i64 0, .slice none 0 0, .int .u32 0, .slice none 0 0, .slice none 0 0, .slice none 0 0] 43 (some 0))) B.next 0 (.agg cs.toArray) = some C1 ∧
    C1.get (B.next + 1) = some (.cells [.int .i64 0, .slice none 0 0, .int .u32 0, .slice none 0 0, .slice none 0 0, .slice none 0 0] 40 (some 0)) ∧ storeC C1 (some 6) (some (.cells [.int .i64 0, .slice none 0 0, .int .u32 0, .slice none 0 0, .slice none 0 0, .slice none 0 0] 40 (some 0))) (B.next + 1) 0 (.agg rc.toArray) = some C ∧ Over B C ∧ C.next = B.next + 2 ∧ C.get B.next = some (.cells cs 43 (some 0)) ∧ C.get (B.next + 1) = some (.cells rc 40 (some 0)) :=
  ⟨_, _, stN (n := 22) rfl h1.1 h1.2, by rw [St.get_upd, if_neg (by omega)]; exact get_alloc_same .., stN (n := 6) rfl h2 h3, ((((Over.refl B).alloc _).alloc _).upd (Nat.le_refl _) _).upd (by omega) _, rfl, by rw [St.get_upd, if_neg (by omega), get_upd_same], get_upd_same ..⟩
/-- What stands behind a hidden block. -/
theorem hide_past {A A' : St} (g : Ge A A') {b : Nat} (h : A.next ≤ b) : Ge A (A'.hide [b]) := ⟨by rw [hide_next]; exact g.next, fun c B h1 h2 => by rw [hide_get, if_neg (by simp only [List.mem_cons, List.not_mem_nil, or_false]; omega)]; exact g.get c B h1 h2⟩
theorem StC.vers {A A' : St} {S : StT} {v : Value} {tl : List Value} (h : StC A S (v :: tl)) (g : Ge A A') {l' : List VerT} {v' : Value} (hv : VsV A' l' v') : StC A' ⟨l', S.seqs, S.last⟩ (v' :: tl) := by
  obtain ⟨v0, rs, e, h2, h3, h4, h5⟩ := h.ge g
  obtain ⟨rfl, rfl⟩ := List.cons.inj e
  exact ⟨v', rs, rfl, hv, h3, h4, h5⟩
theorem StC.parts {A : St} {S : StT} {cs : List Value} (h : StC A S cs) : ∃ v tl, cs = v :: tl ∧ VsV A S.vers v ∧ tl.length = 21 ∧ tl.all cell1 = true ∧ (∃ sq rs, tl = sq ++ rs ∧ sq = S.seqs.map (Value.int .u32 ·) ∧ sq.length = 3 ∧ rs.length = 18) := by
  have hl := h.len
  obtain ⟨v, rs, rfl, h2, h3, h4, h5⟩ := h
  obtain ⟨h6, h7⟩ := reps_cell h3
  have h8 : rs.length = 3 := by rw [← h3.length]; exact h5
  refine ⟨v, _, rfl, h2, by have := hl.1; simpa using this, ?_, _, _, rfl, rfl, by rw [List.length_map]; exact h4, by rw [flat_len h7, h8]⟩
  have := hl.2; rw [List.all_cons, Bool.and_eq_true] at this; exact this.2
theorem rq_one {A : St} {r : ReqT} {rc : List Value} (h : ReqC A r rc) {b : Nat} (hb : b < A.next) {e : TypeId} {m : Option Nat} (hg : A.get b = some (.cells rc e m)) : RqV A [r] (.slice (some ⟨b, 0, none⟩) 1 1) := by
  have hl := h.len
  refine ⟨[rc], .cons h .nil, fun cs hc => by rw [List.mem_singleton.1 hc]; exact hl, by simp [hl], .inr ⟨b, 0, none, 1, rc, e, m, rfl, hb, hg, by simp [hl], ?_⟩⟩
  rw [List.drop_zero, List.take_of_length_le (by simp [hl])]; simp
theorem RqA.over {A A' : St} {l : List ReqT} {v : Value} (h : RqA A l v) (o : Over A A') : RqA A' l v := ⟨h.1.ge o.ge, h.2⟩
theorem ReqV.over {A A' : St} {r : ReqT} {v : Value} (h : ReqV A r v) (o : Over A A') : ReqV A' r v := by
  obtain ⟨rc, rfl, h⟩ := h; exact ⟨rc, rfl, h.ge o.ge⟩
theorem VOpV.over {A A' : St} {r : VOp} {v : Value} (h : VOpV A r v) (o : Over A A') : VOpV A' r v := by
  obtain ⟨rc, rfl, h⟩ := h; exact ⟨rc, rfl, h.ge o.ge⟩
end Go.Fw
