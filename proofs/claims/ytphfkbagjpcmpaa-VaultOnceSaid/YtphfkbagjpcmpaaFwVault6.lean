import Derived.Test.YtphfkbagjpcmpaaFwVault5
set_option linter.unusedSimpArgs false
set_option linter.unusedVariables false
namespace Go.Fw
open Go.Proofs Go.RowKit
attribute [local go_sem] List.length_cons List.length_nil Nat.zero_add Nat.add_zero Nat.zero_mul Nat.mul_one Int.toNat_zero Int.toNat_natCast List.map_cons List.map_nil List.map_toArray List.toList_toArray List.append_toArray List.append_eq List.nil_append List.cons_append List.append_nil List.all_toArray List.all_cons List.all_nil Bool.and_true Bool.true_and Bool.and_self List.getElem?_toArray List.getElem?_cons_zero List.getElem?_cons_succ List.set_cons_zero List.set_cons_succ List.drop_zero List.drop_succ_cons List.take_zero List.take_succ_cons Option.bind_some Option.map_some id true_and and_true and_self St.next_alloc St.next_upd beq_self_eq_true Bool.not_true Bool.not_false Bool.false_eq_true false_implies true_implies Option.isNone_none Option.isNone_some Option.isSome_none Option.isSome_some ge_iff_le gt_iff_lt Nat.sub_zero Nat.add_assoc IntWalk.i64_in IntWalk.u64_in IntWalk.u8_in IntWalk.u32_in IntWalk.i32_in IntWalk.u16_in dec_not Bool.not_eq_true decide_true decide_false ne_eq not_true_eq_false not_false_eq_true Bool.true_or Bool.or_true Bool.or_false Bool.false_or Bool.and_false Bool.false_and upd_apply rd_eq ar_zero ar_succ ar_nil tm_size tm_getD tm_set E_tmps E_defers put_E put_none eval_tmp eval_const eval_func setArgs_0 setArgs_1 setArgs_2 append_lit stepV_some stepA_some guardO_true ifB_true ifB_false wantV_true wantV_false wantV_dec_t wantV_dec_f ifB_dec_t ifB_dec_f condV_bool dec_and dec_or isB_bool someB_t someB_f okO_tmp okO_func okO_int okO_bool okO_string okO_ptr0 okO_slice0 okO_nilFunc okO_nilIface okO_map0 okO_agg wanted_none wanted_some lookT_some aopsL_nil aopsL_cons wpA_skip wpA_label wpA_exit wpA_goto wpA_ret wpA_seq wpA_block wpA_region wpA_cond wpA_loop wpA_rangeFunc wpA_draw thenQ_normal thenQ_exit thenQ_ret thenQ_panic blockQ_normal blockQ_ret blockQ_panic blockQ_exit funQ_ret funQ_normal funQ_panic op_move op_assign pickV_or pickV_and pickV_t pickV_f pickV_true pickV_false op_pick allocV_some op_alloc op_box op_load op_nilCheck op_bin op_lookup bptr btype op_un op_convert op_makeInterface op_makeSlice op_fieldAddr op_field op_indexAddr op_index op_extract op_typeAssert storeV_some op_store op_makeMap op_mapUpdate op_slice00 op_slice10 op_slice01 op_slice11 op_slice111 op_slice011 op_makeFunc callV_true op_call op_builtin panicV_iface op_panic ACallV_func ACallF_false ACallF_true ACallV_yield afterCall_returned afterCall_panicked bin_add bin_sub bin_mul bin_and bin_or bin_xor bin_andNot bin_eql bin_neq bin_lss bin_leq bin_gtr bin_geq mval_some mval_none lookup_map lookU_map lookK_smap mapSet_map msetU_map msetK_int conv_to conv_from unsT_cells unsF_cells bin_same bin_nil bdata_nil bdata_some builtin_data builtin_str bin_quo bin_rem bin_shl bin_shr bin_sadd bin_seql bin_sneq bin_slss uB_bool bin_beql bin_bneq uP_pointer bin_peql bin_pneq uS_slice bin_leql bin_lneq bin_ieql bin_ineq un_neg un_xor un_not nilCheck_ptr nilCheck_func nilCheck_yield load_ptr loadC_one loadC_agg store_ptr slice_eq sliceU_string sliceU_slice sliceU_array sliceS_eq boundsS_some sliceL_eq boundsL_nil boundsL_exact boundsL_least boundsL_own boundsL_ownN bounds_11 bounds_10 bounds_01 bounds_00 builtin_len len_string len_array len_slice builtin_append builtin_copy pairA_some builtin_min builtin_max min_two max_two index_eq index_string index_array indexAddr_eq indexAddr_array indexAddr_slice fieldAddr_eq posO_some fAddr_some fieldAddr_struct partC_some field_eq field_struct part_eq partU_one partU_agg extract_tuple conv_eq conv_int conv_string u8O_u8 conv_bytes conv_text_nil conv_text_zero conv_text mkIface_eq get_upd_same consO_some finR_0 finR_1 finR_2 aresL_nil aresL_cons ares1_tmp ares1_cell retV_some aleave_nil aleave_coll bnd_int bnd_bool bnd_string bnd_nilIface bnd_slice0 bnd_iface bnd_slice bnd_ptr bnd_ptr0 bndL_nil bndL_cons bndA_lit bnd_tuple bnd_agg calm_same skipC_eq aopsC_nil aopsC_cons stepC_call stepC_move stepC_assign stepC_pick stepC_alloc stepC_box stepC_build stepC_buildSlice stepC_load stepC_store stepC_nilCheck stepC_binOp stepC_unOp stepC_convert stepC_makeInterface stepC_makeFunc stepC_makeSlice stepC_slice stepC_fieldAddr stepC_field stepC_indexAddr stepC_index stepC_extract stepC_typeAssert stepC_lookup stepC_mapUpdate stepC_makeMap stepC_builtin to_same sameA_eq aopsX_nil aopsX_cons stepX_heavy stepX_light lightK_eq allC_nil allC_cons hs_zero hs_succ stepT_call pure_call stepT_move pure_move stepT_assign pure_assign stepT_pick pure_pick stepT_alloc pure_alloc stepT_box pure_box stepT_build pure_build stepT_buildSlice pure_buildSlice stepT_load pure_load stepT_store pure_store stepT_nilCheck pure_nilCheck stepT_binOp pure_binOp stepT_unOp pure_unOp stepT_convert pure_convert stepT_makeInterface pure_makeInterface stepT_makeFunc pure_makeFunc stepT_makeSlice pure_makeSlice stepT_slice pure_slice stepT_fieldAddr pure_fieldAddr stepT_field pure_field stepT_indexAddr pure_indexAddr stepT_index pure_index stepT_extract pure_extract stepT_typeAssert pure_typeAssert stepT_lookup pure_lookup stepT_mapUpdate pure_mapUpdate stepT_makeMap pure_makeMap stepT_builtin pure_b_len pure_b_append pure_b_copy pure_b_min pure_b_max pure_b_unsafeSliceData pure_b_unsafeString leaveK_eq aleave_fn op_defer deferV_func resK_some defQ_ret defQ_normal storeC_int storeC_bool storeC_string storeC_slice storeC_func storeC_pointer len_cons len_nil cells_int cells_bool cells_string cells_slice cells_pointer cells_func cells_map cells_nilFunc cells_agg cell1_bool cell1_string cell1_slice cell1_pointer cell1_func cell1_i cell1_map cell1_nilFunc setList_nil setList_cons storeC_aggS fillP_nil fillP_cons fillAt_1 fillAt_n aggO_some sliceO_some places_0 places_s zerosR_0 zerosR_s thenElse_true evP_nil evP_cons okP_nil okP_cons op_buildL op_buildSliceL isBu_t isBu_f mk_E get_alloc_old get_alloc_new get_upd_old Try.agg1 Try.sz1 Try.byt1 Try.zero1 Try.agg2 Try.sz2 Try.byt2 Try.zero2 Try.agg3 Try.sz3 Try.byt3 Try.zero3 Try.agg4 Try.sz4 Try.byt4 Try.zero4 Try.agg5 Try.sz5 Try.byt5 Try.zero5 Try.agg6 Try.sz6 Try.byt6 Try.zero6 Try.agg7 Try.sz7 Try.byt7 Try.zero7 Try.agg8 Try.sz8 Try.byt8 Try.zero8 Try.agg9 Try.sz9 Try.byt9 Try.zero9 Try.agg10 Try.sz10 Try.byt10 Try.zero10 Try.agg11 Try.sz11 Try.byt11 Try.zero11 Try.agg12 Try.sz12 Try.byt12 Try.zero12 Try.agg13 Try.sz13 Try.byt13 Try.zero13 Try.agg14 Try.sz14 Try.byt14 Try.zero14 Try.agg15 Try.sz15 Try.byt15 Try.zero15 Try.agg16 Try.sz16 Try.byt16 Try.zero16 Try.agg17 Try.sz17 Try.byt17 Try.zero17 Try.agg18 Try.sz18 Try.byt18 Try.zero18 Try.agg19 Try.sz19 Try.byt19 Try.zero19 Try.agg20 Try.sz20 Try.byt20 Try.zero20 Try.agg21 Try.sz21 Try.byt21 Try.zero21 Try.agg22 Try.sz22 Try.byt22 Try.el22 Try.zero22 Try.agg23 Try.sz23 Try.byt23 Try.zero23 Try.agg24 Try.sz24 Try.byt24 Try.el24 Try.zero24 Try.agg25 Try.sz25 Try.byt25 Try.el25 Try.zero25 Try.agg26 Try.sz26 Try.byt26 Try.el26 Try.zero26 Try.agg27 Try.sz27 Try.byt27 Try.zero27 Try.agg28 Try.sz28 Try.byt28 Try.zero28 Try.agg29 Try.sz29 Try.byt29 Try.zero29 Try.agg30 Try.sz30 Try.byt30 Try.zero30 Try.agg31 Try.sz31 Try.byt31 Try.zero31 Try.agg32 Try.sz32 Try.byt32 Try.zero32 Try.agg33 Try.sz33 Try.byt33 Try.zero33 Try.agg34 Try.sz34 Try.byt34 Try.zero34 Try.agg35 Try.sz35 Try.byt35 Try.el35 Try.zero35 Try.agg36 Try.sz36 Try.byt36 Try.zero36 Try.agg37 Try.sz37 Try.byt37 Try.zero37 Try.agg38 Try.sz38 Try.byt38 Try.el38 Try.zero38 Try.agg39 Try.sz39 Try.byt39 Try.zero39 Try.agg40 Try.sz40 Try.byt40 Try.zero40 Try.agg41 Try.sz41 Try.byt41 Try.zero41 Try.agg42 Try.sz42 Try.byt42 Try.zero42 Try.agg43 Try.sz43 Try.byt43 Try.zero43 Try.agg44 Try.sz44 Try.byt44 Try.el44 Try.zero44 Try.agg46 Try.sz46 Try.byt46 Try.zero46 Try.agg48 Try.sz48 Try.byt48 Try.zero48 Try.agg49 Try.sz49 Try.byt49 Try.zero49 Try.agg50 Try.sz50 Try.byt50 Try.zero50 Try.agg51 Try.sz51 Try.byt51 Try.zero51 Try.agg52 Try.sz52 Try.byt52 Try.zero52 Try.agg53 Try.sz53 Try.byt53 Try.zero53 Try.agg54 Try.sz54 Try.byt54 Try.zero54 Try.agg55 Try.sz55 Try.byt55 Try.el55 Try.zero55 Try.agg56 Try.sz56 Try.byt56 Try.zero56 Try.agg57 Try.sz57 Try.byt57 Try.zero57 Try.agg58 Try.sz58 Try.byt58 Try.zero58 Try.agg59 Try.sz59 Try.byt59 Try.zero59 Try.agg60 Try.sz60 Try.byt60 Try.zero60 Try.agg61 Try.sz61 Try.byt61 Try.zero61 Try.agg62 Try.sz62 Try.byt62 Try.zero62 Try.agg64 Try.sz64 Try.byt64 Try.zero64 Try.agg65 Try.sz65 Try.byt65 Try.zero65 Try.agg66 Try.sz66 Try.byt66 Try.zero66 Try.agg68 Try.sz68 Try.byt68 Try.zero68 Try.agg69 Try.sz69 Try.byt69 Try.zero69 Try.agg71 Try.sz71 Try.byt71 Try.zero71 Try.agg72 Try.sz72 Try.byt72 Try.zero72 Try.agg73 Try.sz73 Try.byt73 Try.zero73 Try.agg74 Try.sz74 Try.byt74 Try.zero74 Try.agg75 Try.sz75 Try.byt75 Try.zero75 Try.agg76 Try.sz76 Try.byt76 Try.zero76 Try.agg77 Try.sz77 Try.byt77 Try.zero77 Try.agg78 Try.sz78 Try.byt78 Try.zero78 Try.agg79 Try.sz79 Try.byt79 Try.zero79 Try.agg80 Try.sz80 Try.byt80 Try.zero80 Try.agg81 Try.sz81 Try.byt81 Try.zero81 Try.agg82 Try.sz82 Try.byt82 Try.zero82 Try.agg83 Try.sz83 Try.byt83 Try.zero83 Try.agg84 Try.sz84 Try.byt84 Try.zero84 Try.agg85 Try.sz85 Try.byt85 Try.zero85 Try.agg86 Try.sz86 Try.byt86 Try.zero86 Try.agg87 Try.sz87 Try.byt87 Try.zero87 Try.agg88 Try.sz88 Try.byt88 Try.zero88 Try.agg89 Try.sz89 Try.byt89 Try.el89 Try.zero89 Try.agg90 Try.sz90 Try.byt90 Try.zero90 Try.agg91 Try.sz91 Try.byt91 Try.zero91 Try.agg92 Try.sz92 Try.byt92 Try.zero92 Try.agg93 Try.sz93 Try.byt93 Try.zero93 Try.agg94 Try.sz94 Try.byt94 Try.zero94 Try.agg95 Try.sz95 Try.byt95 Try.zero95 Try.agg96 Try.sz96 Try.byt96 Try.zero96 Try.agg97 Try.sz97 Try.byt97 Try.zero97 Try.agg98 Try.sz98 Try.byt98 Try.zero98 Try.agg99 Try.sz99 Try.byt99 Try.zero99 Try.agg100 Try.sz100 Try.byt100 Try.zero100 Try.agg101 Try.sz101 Try.byt101 Try.zero101 Try.agg102 Try.sz102 Try.byt102 Try.zero102 Try.agg103 Try.sz103 Try.byt103 Try.zero103 Try.agg104 Try.sz104 Try.byt104 Try.zero104 Try.agg105 Try.sz105 Try.byt105 Try.zero105 Try.agg106 Try.sz106 Try.byt106 Try.zero106 Try.agg107 Try.sz107 Try.byt107 Try.zero107 Try.agg108 Try.sz108 Try.byt108 Try.zero108 Try.agg109 Try.sz109 Try.byt109 Try.zero109 Try.agg110 Try.sz110 Try.byt110 Try.zero110 Try.agg111 Try.sz111 Try.byt111 Try.zero111 Try.agg112 Try.sz112 Try.byt112 Try.zero112 Try.agg113 Try.sz113 Try.byt113 Try.zero113 Try.agg114 Try.sz114 Try.byt114 Try.zero114 Try.agg115 Try.sz115 Try.byt115 Try.zero115 Try.agg116 Try.sz116 Try.byt116 Try.zero116 Try.body0 Try.body1 Try.body2 Try.body3 Try.body4 Try.body5 Try.body6 Try.body7 Try.body8 Try.body9 Try.body10 Try.body11 Try.body12 Try.body13 Try.body14 Try.body15 Try.body16 Try.body17 Try.body18 Try.body19 Try.body20 Try.body21 Try.body22 Try.body23 Try.body24 Try.body25 Try.body26 Try.body27 Try.body28 Try.body29 Try.body30 Try.body31 Try.body32 Try.body33 Try.body34 Try.body35 Try.body36 Try.body37 Try.body38 Try.body39 Try.body40 Try.body41 Try.body42 Try.body43 Try.body44 Try.body45 Try.body46 Try.body47 Try.body48 Try.body49 Try.body50 Try.body51 Try.body52 Try.body53 Try.body54 Try.body55 Try.body56 Try.body57 Try.body58 Try.body59 Try.body60 Try.body61 Try.body62 Try.body63 Try.body64 Try.body65 Try.body66 Try.body67 Try.body68 Try.body69 Try.body70 Try.body71 Try.body72 Try.body73 Try.body74 Try.body75 Try.body76 Try.body77 Try.body78 Try.body79 Try.build7 Try.build8 Try.build13 Try.build14 Try.build18 Try.build19 Try.bsl22 Try.bsl24 Try.bsl25 Try.bsl26 Try.build27 Try.build28 Try.build29 Try.build30 Try.build31 Try.build32 Try.bsl35 Try.bsl38 Try.build39 Try.build40 Try.build42 Try.build43 Try.bsl44 Try.build50 Try.bsl55 Try.bsl89 Try.build90 Try.build91 Try.build102 Try.build103 Try.build105 Try.build106 Try.build114 Try.build115 Try.underlying1 Try.underlying2 Try.underlying3 Try.underlying4 Try.underlying5 Try.underlying6 Try.underlying7 Try.underlying8 Try.underlying9 Try.underlying10 Try.underlying11 Try.underlying12 Try.underlying13 Try.underlying14 Try.underlying15 Try.underlying16 Try.underlying17 Try.underlying18 Try.underlying19 Try.underlying20 Try.underlying21 Try.underlying22 Try.underlying23 Try.underlying24 Try.underlying25 Try.underlying26 Try.underlying27 Try.underlying28 Try.underlying29 Try.underlying30 Try.underlying31 Try.underlying32 Try.underlying33 Try.underlying34 Try.underlying35 Try.underlying36 Try.underlying37 Try.underlying38 Try.underlying39 Try.underlying40 Try.underlying41 Try.underlying42 Try.underlying43 Try.underlying44 Try.underlying46 Try.underlying48 Try.underlying49 Try.underlying50 Try.underlying51 Try.underlying52 Try.underlying53 Try.underlying54 Try.underlying55 Try.underlying56 Try.underlying57 Try.underlying58 Try.underlying59 Try.underlying60 Try.underlying61 Try.underlying62 Try.underlying64 Try.underlying65 Try.underlying66 Try.underlying68 Try.underlying69 Try.underlying71 Try.underlying72 Try.underlying73 Try.underlying74 Try.underlying75 Try.underlying76 Try.underlying77 Try.underlying78 Try.underlying79 Try.underlying80 Try.underlying81 Try.underlying82 Try.underlying83 Try.underlying84 Try.underlying85 Try.underlying86 Try.underlying87 Try.underlying88 Try.underlying89 Try.underlying90 Try.underlying91 Try.underlying92 Try.underlying93 Try.underlying94 Try.underlying95 Try.underlying96 Try.underlying97 Try.underlying98 Try.underlying99 Try.underlying100 Try.underlying101 Try.underlying102 Try.underlying103 Try.underlying104 Try.underlying105 Try.underlying106 Try.underlying107 Try.underlying108 Try.underlying109 Try.underlying110 Try.underlying111 Try.underlying112 Try.underlying113 Try.underlying114 Try.underlying115 Try.underlying116
theorem Try.enters12 : Enters Try.prog 12 := enters_of Try.func12 rfl (by kernel_rfl)
def S0 : StT := ⟨[], [0, 0, 0], [errR 0, errR 0, errR 0]⟩
theorem S0_c (A : St) : StC A S0 zState := ⟨.slice none 0 0, [errC 0, errC 0, errC 0], rfl, VsV.nil A, .cons (errC_rep A 0) (.cons (errC_rep A 0) (.cons (errC_rep A 0) .nil)), rfl, rfl⟩
def allS (l : List ReqT) : StT × List ReplyT := l.foldl (fun s r => ((applyS s.1 r).1, s.2 ++ [(applyS s.1 r).2])) (S0, [])
theorem allS_snoc (l : List ReqT) (r : ReqT) : allS (l ++ [r]) = ((applyS (allS l).1 r).1, (allS l).2 ++ [(applyS (allS l).1 r).2]) := by
  unfold allS; rw [List.foldl_append]; rfl
theorem doL_len {l : List VerT} (o : VOp) (h : l.length ≤ 8) : (doL l o).1.length ≤ 8 := by
  unfold doL
  split
  · split
    · exact h
    · split
      · exact h
      · split
        · exact h
        · simp; omega
  · split
    · split
      · exact h
      · exact Nat.le_trans (List.length_eraseIdx_le ..) h
    · split
      · simp only [List.length_drop]; omega
      · split
        · exact h
        · split
          · split
            · exact h
            · exact h
          · exact h
theorem applyS_len {S : StT} (r : ReqT) (h : S.vers.length ≤ 8) : (applyS S r).1.vers.length ≤ 8 := by
  unfold applyS
  split
  · exact h
  · split
    · exact h
    · split
      · exact h
      · exact doL_len _ h
theorem foldS_len : ∀ (l : List ReqT) (s : StT × List ReplyT), s.1.vers.length ≤ 8 → (l.foldl (fun s r => ((applyS s.1 r).1, s.2 ++ [(applyS s.1 r).2])) s).1.vers.length ≤ 8 ∧ (l.foldl (fun s r => ((applyS s.1 r).1, s.2 ++ [(applyS s.1 r).2])) s).2.length = s.2.length + l.length
  | [], s, h => ⟨h, rfl⟩
  | r :: l, s, h => by
    have := foldS_len l ((applyS s.1 r).1, s.2 ++ [(applyS s.1 r).2]) (applyS_len r h)
    refine ⟨this.1, ?_⟩
    rw [List.foldl_cons, this.2]; simp; omega
theorem allS_len (l : List ReqT) : (allS l).1.vers.length ≤ 8 ∧ (allS l).2.length = l.length := by
  have := foldS_len l (S0, []) (Nat.zero_le _)
  exact ⟨this.1, by rw [allS, this.2]; simp⟩
def rbL (v : Value) : List Nat := (rowB v).toList
theorem mem_rbL {v : Value} {b : Nat} : b ∈ rbL v ↔ rowB v = some b := by
  unfold rbL; cases rowB v <;> simp [eq_comm]
def RsV (A : St) (l : List ReplyT) (v : Value) : Prop := NV A 6 (RepC A) l v
def RqV (A : St) (l : List ReqT) (v : Value) : Prop := NV A 8 (ReqC A) l v
theorem RqV.ge {A A' : St} {l : List ReqT} {v : Value} (h : RqV A l v) (g : Ge A A') : RqV A' l v := NV.ge h g (fun _ _ h => h.ge g)
theorem RsV.ge {A A' : St} {l : List ReplyT} {v : Value} (h : RsV A l v) (g : Ge A A') : RsV A' l v := NV.ge h g (fun _ _ h => h.ge g)
abbrev RpRow (A : St) (lo : Nat) (css : List (List Value)) (v : Value) : Prop := Row A 40 6 lo css.flatten css.length v
theorem rp_push {A : St} {lo : Nat} {css : List (List Value)} {v : Value} (h : RpRow A lo css v) (rc : List Value) (h6 : rc.length = 6) (hc : rc.all cell1 = true) (hlo : lo ≤ A.next) (hl : css.length ≤ 1048576) :
    ∃ v' A', aappend Try.prog (A.alloc (.cells rc 40 (some 0))) 44 44 v (.slice (some ⟨A.next, 0, none⟩) 1 1) = some (v', A') ∧ RpRow A' lo (css ++ [rc]) v' ∧ A'.next = A.next + 2 ∧ rowB v' = some (A.next + 1) ∧ ∀ b, b < A.next → rowB v ≠ some b → A'.get b = A.get b := by
  obtain ⟨v', A2, hap, hr2, hn2, hrb, hf2⟩ := row_push (A := A) (sp := none) (c := 1) (xs := rc) Try.el44 Try.underlying44 (by intro k; exact TypeDesc.noConfusion) Try.sz40 Try.byt40 Try.zero40 rfl h hlo (by omega) (by omega) hc h6
  refine ⟨v', A2, hap, ?_, hn2, hrb, hf2⟩
  rw [RpRow, List.flatten_append, List.length_append]; simpa using hr2
def AllPost (A : St) (L : List Nat) (l : List ReqT) (e : Ending) (A' : St) : Prop := ∃ cs v, e = .returned (.tuple #[.agg cs.toArray, v]) ∧ Over A A' ∧ StC (A'.hide L) (allS l).1 cs ∧ RsV (A'.hide L) (allS l).2 v
set_option maxHeartbeats 8000000 in
theorem all_ok (w0 : World) (A : St) (L : List Nat) (hL : ∀ b ∈ L, b < A.next) (l : List ReqT) (v : Value) (hv : RqV (A.hide L) l v) (hok : ∀ r ∈ l, r.ok) (hl : l.length ≤ 100000) :
    ACalls Try.prog w0 12 #[v] A (AllPost A L l) := by
  refine call_E Try.enters12 Try.func12 rfl (Nat.le_of_ble_eq_true rfl) fun hw hbd => ?_
  have oA1 : Over A (A.alloc (.cells zState 43 (some 0))) := (Over.refl A).alloc _
  have hlen := NV.lenU (e := 32) (hv.ge (hide_out oA1 L))
  have inv0 : StC ((A.alloc (.cells zState 43 (some 0))).hide (A.next :: (rbL (.slice none 0 0) ++ L))) S0 zState := S0_c _
  unfold zState at hlen inv0 oA1
  simp (maxSteps := 1000000) (disch := (first | omega | (simp only [nx_alloc, nx_upd, len_cons, len_nil, List.length_set, List.length_map, List.length_append] <;> omega) | fail)) only [Nat.reduceAdd, Nat.reduceSub, Nat.reduceMul, Nat.reduceLT, Nat.reduceLeDiff, Nat.reduceEqDiff, ↓reduceIte, reduceCtorEq, Int.reduceAdd, Int.reduceSub, Int.reduceMul, Int.reduceLT, Int.reduceLE, Int.reduceEq, Int.reduceNe, Int.reduceToNat, Int.reduceNeg, go_sem, Try.ntmps12, Try.results12, hlen]
  refine aw_loop (fun k x A' => ∃ (ρ : Nat → Value) (i : Nat) (cs : List Value) (css : List (List Value)) (u : Value), x = E 26 ρ [] ∧ k = l.length - i ∧ i ≤ l.length ∧ Over A A' ∧ A.next + 1 ≤ A'.next ∧ A'.get A.next = some (.cells cs 43 (some 0)) ∧ StC (A'.hide (A.next :: (rbL u ++ L))) (allS (l.take i)).1 cs ∧ All2 (RepC (A'.hide (A.next :: (rbL u ++ L)))) (allS (l.take i)).2 css ∧ RpRow A' (A.next + 1) css u ∧
      ρ 2 = .pointer (some ⟨A.next, 0, none⟩) ∧ ρ 3 = u ∧ ρ 7 = v ∧ ρ 8 = .int .i64 l.length ∧ ρ 9 = .int .i64 i) l.length
    ⟨_, 0, _, [], _, rfl, rfl, Nat.zero_le _, oA1, Nat.le_refl _, get_alloc_same .., inv0, .nil, Row.nil .., rfl, rfl, rfl, rfl, rfl⟩ ?_
  rintro k x A' ⟨ρ, i, cs, css, u, rfl, hk, hi, ho, hlo, hg, hS, hR, hrow, g2, g3, g7, g8, g9⟩
  refine aw_of ?_
  have hcsl := hR.length
  rw [(allS_len _).2, List.length_take, Nat.min_eq_left hi] at hcsl
  obtain ⟨hs22, hsc⟩ := hS.len
  have htk : cs.take 22 = cs := List.take_of_length_le (by omega)
  have hrbu : ∀ b, rowB u = some b → A.next + 1 ≤ b ∧ b < A'.next := fun b hb => Row.rb hrow b hb
  by_cases hend : i = l.length
  · have e1 : ¬ ((i : Int) < l.length) := by omega
    have hst := stN (n := 22) (X := A') (b := A.next) (z := cs) (e := 43) hs22 hs22 hsc
    rw [hend, List.take_length] at hS hR
    simp (maxSteps := 1000000) (disch := (first | omega | (simp only [nx_alloc, nx_upd, len_cons, len_nil, List.length_set, List.length_map, List.length_append] <;> omega) | fail)) only [Nat.reduceAdd, Nat.reduceSub, Nat.reduceMul, Nat.reduceLT, Nat.reduceLeDiff, Nat.reduceEqDiff, ↓reduceIte, reduceCtorEq, Int.reduceAdd, Int.reduceSub, Int.reduceMul, Int.reduceLT, Int.reduceLE, Int.reduceEq, Int.reduceNe, Int.reduceToNat, Int.reduceNeg, go_sem, g2, g3, g7, g8, g9, hg, htk, hst, Try.results12]
    have gF : Ge (A'.hide (A.next :: (rbL u ++ L))) ((A'.upd A.next (some (.cells cs 43 (some 0)))).hide L) := by
      refine Ge.hide (Nat.le_refl _) (fun b hb hbL => ?_)
      simp only [List.mem_cons, List.mem_append, not_or] at hbL
      exact ⟨hbL.2.2, by rw [St.get_upd, if_neg hbL.1]⟩
    have r5 : RpRow (A'.upd A.next (some (.cells cs 43 (some 0)))) (A.next + 1) css u := Row.keep hrow (Nat.le_refl _) (fun b _ h1 _ => by rw [St.get_upd, if_neg (by omega)]) (Nat.le_refl _)
    refine gc_here ⟨cs, u, rfl, ho.upd (Nat.le_refl _) _, hS.ge gF, css, hR.imp (fun _ _ h => h.ge gF), (reps_cell hR).2, ?_⟩
    have hvw := Row.viewH r5 (L := L) (fun b hb => by have := hL b hb; omega)
    rw [hR.length]
    exact hvw
  have e1 : ((i : Int) < l.length) := by omega
  obtain ⟨r, hr⟩ : ∃ r, l[i]? = some r := ⟨l[i]'(by omega), List.getElem?_eq_getElem (by omega)⟩
  have hrok := hok r (List.mem_of_getElem? hr)
  obtain ⟨b, off, qc, q1, q2, q3, q4, cells, e', m, q5, q6, q7⟩ := hv.at (P := Try.prog) (e := 32) Try.sz32 hr
  have hqb := (hide_out ho L).get b _ q1 q5
  rw [hide_next] at q1
  have hldq := ld_agg (e' := e') (m := m) q6 q7
  have hqcell := q3.cell
  have hbne : b ≠ A.next := by omega
  have hq8 := q3.len
  have hqtk : qc.take 8 = qc := List.take_of_length_le (by omega)
  have hstq := stN (n := 8) (X := A'.alloc (.cells [.int .i64 0, .int .u32 0, .int .i64 0, .int .u32 0, .int .u32 0, .slice none 0 0, .slice none 0 0, .slice none 0 0] 32 (some 0))) (b := A'.next) (z := [.int .i64 0, .int .u32 0, .int .i64 0, .int .u32 0, .int .u32 0, .slice none 0 0, .slice none 0 0, .slice none 0 0]) (e := 32) rfl hq8 hqcell
  generalize hC : ((A'.alloc (.cells [.int .i64 0, .int .u32 0, .int .i64 0, .int .u32 0, .int .u32 0, .slice none 0 0, .slice none 0 0, .slice none 0 0] 32 (some 0))).upd A'.next (some (.cells qc 32 (some 0)))).alloc (.cells zReply 40 (some 0)) = C
  have oC : Over A' C := by rw [← hC]; exact (((Over.refl A').alloc _).upd (Nat.le_refl _) _).alloc _
  have nC : C.next = A'.next + 2 := by rw [← hC]; rfl
  have c6 : C.get (A'.next + 1) = some (.cells zReply 40 (some 0)) := by rw [← hC]; simp (disch := (first | omega | (simp only [nx_alloc, nx_upd, len_cons, len_nil, List.length_set, List.length_map, List.length_append] <;> omega) | fail)) only [St.get_upd, St.get_alloc, St.next_alloc, St.next_upd, ↓reduceIte, natF_lt, natF_gt, natF_ne, Nat.add_assoc, Nat.reduceAdd, Nat.reduceEqDiff, Nat.add_left_cancel_iff]
  unfold zReply at hC c6
  have oAC := ho.trans oC
  have hgC : Ge (A'.hide (A.next :: (rbL u ++ L))) (C.hide ((A'.next + 1) :: A.next :: (rbL u ++ L))) := Ge.hide oC.next (fun b hb hbL => ⟨by rw [List.mem_cons, not_or]; exact ⟨by omega, hbL⟩, oC.get b hb⟩)
  have hgA : Ge (A.hide L) (C.hide ((A'.next + 1) :: A.next :: (rbL u ++ L))) := Ge.hide oAC.next (fun b hb hbL => ⟨by
    simp only [List.mem_cons, List.mem_append, not_or]
    exact ⟨by omega, by omega, fun h => by have := (hrbu b (mem_rbL.1 h)).1; omega, hbL⟩, oAC.get b hb⟩)
  have hap := apply_ok w0 C ((A'.next + 1) :: A.next :: (rbL u ++ L)) (fun b hb => by
    simp only [List.mem_cons, List.mem_append] at hb
    rcases hb with rfl | rfl | hb | hb
    · omega
    · omega
    · have := (hrbu b (mem_rbL.1 hb)).2; omega
    · have := hL b hb; omega) (allS (l.take i)).1 cs r qc (hS.ge hgC) (q3.ge hgA) hrok (by have := (allS_len (l.take i)).1; omega)
  simp (maxSteps := 1000000) (disch := (first | omega | (simp only [nx_alloc, nx_upd, len_cons, len_nil, List.length_set, List.length_map, List.length_append] <;> omega) | fail)) only [Nat.reduceAdd, Nat.reduceSub, Nat.reduceMul, Nat.reduceLT, Nat.reduceLeDiff, Nat.reduceEqDiff, ↓reduceIte, reduceCtorEq, Int.reduceAdd, Int.reduceSub, Int.reduceMul, Int.reduceLT, Int.reduceLE, Int.reduceEq, Int.reduceNe, Int.reduceToNat, Int.reduceNeg, go_sem, g2, g3, g7, g8, g9, q2, hqb, hldq, hstq]
  simp (maxSteps := 1000000) (disch := (first | omega | (simp only [nx_alloc, nx_upd, len_cons, len_nil, List.length_set, List.length_map, List.length_append] <;> omega) | fail)) only [Nat.reduceAdd, Nat.reduceSub, Nat.reduceMul, Nat.reduceLT, Nat.reduceLeDiff, Nat.reduceEqDiff, ↓reduceIte, reduceCtorEq, Int.reduceAdd, Int.reduceSub, Int.reduceMul, Int.reduceLT, Int.reduceLE, Int.reduceEq, Int.reduceNe, Int.reduceToNat, Int.reduceNeg, go_sem, hg, htk, hqtk]
  rw [hC]
  refine hap.mono ?_
  rintro _ A2 ⟨cs', rc', rfl, o2, hS2, hR2⟩
  have n2 := o2.next
  have d0 : A2.get A.next = some (.cells cs 43 (some 0)) := by rw [o2.get _ (by omega), oC.get _ (by omega)]; exact hg
  have d6 : A2.get (A'.next + 1) = some (.cells zReply 40 (some 0)) := by rw [o2.get _ (by omega)]; exact c6
  obtain ⟨hs22', hsc'⟩ := hS2.len
  have r6 := hR2.len
  have rcell := hR2.cell
  have hst1 := stN (n := 22) (X := A2) (b := A.next) (z := cs) (e := 43) hs22 hs22' hsc'
  have hst2 := stN (n := 6) (X := A2.upd A.next (some (.cells cs' 43 (some 0)))) (b := A'.next + 1) (z := zReply) (e := 40) rfl r6 rcell
  have hldr := ldN (n := 6) (e := 40) (m := some 0) r6
  have hsetr := set_all zReply rc' (by rw [r6]; rfl)
  obtain ⟨A3, hA3⟩ : ∃ A3, A3 = (A2.upd A.next (some (.cells cs' 43 (some 0)))).upd (A'.next + 1) (some (.cells rc' 40 (some 0))) := ⟨_, rfl⟩
  have n3 : A3.next = A2.next := by rw [hA3]; rfl
  have kx : ∀ b, b ≠ A.next → b ≠ A'.next + 1 → A3.get b = A2.get b := fun b x0 x1 => by rw [hA3, St.get_upd, if_neg x1, St.get_upd, if_neg x0]
  have k0 : A3.get A.next = some (.cells cs' 43 (some 0)) := by rw [hA3, St.get_upd, if_neg (by omega), get_upd_same]
  have k6 : A3.get (A'.next + 1) = some (.cells rc' 40 (some 0)) := by rw [hA3, get_upd_same]
  have hrow3 : RpRow A3 (A.next + 1) css u := Row.keep hrow (by omega) (fun b _ x1 x2 => by rw [kx b (by omega) (by omega), o2.get b (by omega), oC.get b x2]) (Nat.le_refl _)
  obtain ⟨u', A4, hpush, hrow4, n4, hrb4, k4⟩ := rp_push hrow3 rc' r6 rcell (by omega) (by omega)
  unfold zReply at hst2 hsetr d6
  simp (maxSteps := 1000000) (disch := (first | omega | (simp only [nx_alloc, nx_upd, len_cons, len_nil, List.length_set, List.length_map, List.length_append] <;> omega) | fail)) only [Nat.reduceAdd, Nat.reduceSub, Nat.reduceMul, Nat.reduceLT, Nat.reduceLeDiff, Nat.reduceEqDiff, ↓reduceIte, reduceCtorEq, Int.reduceAdd, Int.reduceSub, Int.reduceMul, Int.reduceLT, Int.reduceLE, Int.reduceEq, Int.reduceNe, Int.reduceToNat, Int.reduceNeg, go_sem, g2, d0, d6, hst1, hst2]
  rw [← hA3]
  have htk6 : rc'.take 6 = rc' := List.take_of_length_le (by omega)
  simp (maxSteps := 1000000) (disch := (first | omega | (simp only [nx_alloc, nx_upd, len_cons, len_nil, List.length_set, List.length_map, List.length_append] <;> omega) | fail)) only [Nat.reduceAdd, Nat.reduceSub, Nat.reduceMul, Nat.reduceLT, Nat.reduceLeDiff, Nat.reduceEqDiff, ↓reduceIte, reduceCtorEq, Int.reduceAdd, Int.reduceSub, Int.reduceMul, Int.reduceLT, Int.reduceLE, Int.reduceEq, Int.reduceNe, Int.reduceToNat, Int.reduceNeg, go_sem, g3, k6, hldr, htk6, hsetr, rcell, r6, n3]
  rw [n3] at hpush
  rw [hpush]
  simp (maxSteps := 1000000) (disch := (first | omega | (simp only [nx_alloc, nx_upd, len_cons, len_nil, List.length_set, List.length_map, List.length_append] <;> omega) | fail)) only [Nat.reduceAdd, Nat.reduceSub, Nat.reduceMul, Nat.reduceLT, Nat.reduceLeDiff, Nat.reduceEqDiff, ↓reduceIte, reduceCtorEq, Int.reduceAdd, Int.reduceSub, Int.reduceMul, Int.reduceLT, Int.reduceLE, Int.reduceEq, Int.reduceNe, Int.reduceToNat, Int.reduceNeg, go_sem, g9]
  have j0 : A4.get A.next = some (.cells cs' 43 (some 0)) := by rw [k4 _ (by omega) (fun e => by have := (hrbu _ e).1; omega)]; exact k0
  have hall : allS (l.take (i + 1)) = ((applyS (allS (l.take i)).1 r).1, (allS (l.take i)).2 ++ [(applyS (allS (l.take i)).1 r).2]) := by
    rw [List.take_add_one, hr]; exact allS_snoc _ _
  have gx : Ge (A2.hide ((A'.next + 1) :: A.next :: (rbL u ++ L))) (A4.hide (A.next :: (rbL u' ++ L))) := Ge.hide (by omega) (fun b hb hbL => by
    simp only [List.mem_cons, List.mem_append, not_or] at hbL ⊢
    obtain ⟨x6, x0, xu, xL⟩ := hbL
    refine ⟨⟨x0, fun h => by rw [mem_rbL, hrb4] at h; have := Option.some.inj h; omega, xL⟩, ?_⟩
    rw [k4 b (by omega) (fun h => xu (mem_rbL.2 h)), kx b x0 x6])
  have gr : Ge (A'.hide (A.next :: (rbL u ++ L))) (A4.hide (A.next :: (rbL u' ++ L))) := (hgC.trans (hide_over o2 _)).trans gx
  refine ⟨k - 1, by omega, _, i + 1, cs', css ++ [rc'], u', rfl, by omega, by omega, ⟨by omega, fun b hb => ?_⟩, by omega, j0, by rw [hall]; exact hS2.ge gx, by rw [hall]; exact All2.app (hR.imp (fun _ _ h => h.ge gr)) (.cons (hR2.ge gx) .nil), hrow4, ?_, ?_, ?_, ?_, ?_⟩
  · rw [k4 b (by omega) (fun e => by have := (hrbu _ e).1; omega), kx b (by omega) (by omega), o2.get b (by omega), oC.get b (by omega), ho.get b hb]
  · simp (maxSteps := 1000000) (disch := (first | omega | (simp only [nx_alloc, nx_upd, len_cons, len_nil, List.length_set, List.length_map, List.length_append] <;> omega) | fail)) only [Nat.reduceAdd, Nat.reduceSub, Nat.reduceMul, Nat.reduceLT, Nat.reduceLeDiff, Nat.reduceEqDiff, ↓reduceIte, reduceCtorEq, Int.reduceAdd, Int.reduceSub, Int.reduceMul, Int.reduceLT, Int.reduceLE, Int.reduceEq, Int.reduceNe, Int.reduceToNat, Int.reduceNeg, go_sem, g2]
  · simp (maxSteps := 1000000) (disch := (first | omega | (simp only [nx_alloc, nx_upd, len_cons, len_nil, List.length_set, List.length_map, List.length_append] <;> omega) | fail)) only [Nat.reduceAdd, Nat.reduceSub, Nat.reduceMul, Nat.reduceLT, Nat.reduceLeDiff, Nat.reduceEqDiff, ↓reduceIte, reduceCtorEq, Int.reduceAdd, Int.reduceSub, Int.reduceMul, Int.reduceLT, Int.reduceLE, Int.reduceEq, Int.reduceNe, Int.reduceToNat, Int.reduceNeg, go_sem]
  · simp (maxSteps := 1000000) (disch := (first | omega | (simp only [nx_alloc, nx_upd, len_cons, len_nil, List.length_set, List.length_map, List.length_append] <;> omega) | fail)) only [Nat.reduceAdd, Nat.reduceSub, Nat.reduceMul, Nat.reduceLT, Nat.reduceLeDiff, Nat.reduceEqDiff, ↓reduceIte, reduceCtorEq, Int.reduceAdd, Int.reduceSub, Int.reduceMul, Int.reduceLT, Int.reduceLE, Int.reduceEq, Int.reduceNe, Int.reduceToNat, Int.reduceNeg, go_sem, g7]
  · simp (maxSteps := 1000000) (disch := (first | omega | (simp only [nx_alloc, nx_upd, len_cons, len_nil, List.length_set, List.length_map, List.length_append] <;> omega) | fail)) only [Nat.reduceAdd, Nat.reduceSub, Nat.reduceMul, Nat.reduceLT, Nat.reduceLeDiff, Nat.reduceEqDiff, ↓reduceIte, reduceCtorEq, Int.reduceAdd, Int.reduceSub, Int.reduceMul, Int.reduceLT, Int.reduceLE, Int.reduceEq, Int.reduceNe, Int.reduceToNat, Int.reduceNeg, go_sem, g8]
  · simp (maxSteps := 1000000) (disch := (first | omega | (simp only [nx_alloc, nx_upd, len_cons, len_nil, List.length_set, List.length_map, List.length_append] <;> omega) | fail)) only [Nat.reduceAdd, Nat.reduceSub, Nat.reduceMul, Nat.reduceLT, Nat.reduceLeDiff, Nat.reduceEqDiff, ↓reduceIte, reduceCtorEq, Int.reduceAdd, Int.reduceSub, Int.reduceMul, Int.reduceLT, Int.reduceLE, Int.reduceEq, Int.reduceNe, Int.reduceToNat, Int.reduceNeg, go_sem]
    rfl
end Go.Fw
