import Derived.Test.YtphfkbagjpcmpaaFwVault10
import Derived.Test.YtphfkbagjpcmpaaFwA
set_option linter.unusedSimpArgs false
set_option linter.unusedVariables false
namespace Go.Fw
open Go.Proofs Go.RowKit
attribute [local go_sem] List.length_cons List.length_nil Nat.zero_add Nat.add_zero Nat.zero_mul Nat.mul_one Int.toNat_zero Int.toNat_natCast List.map_cons List.map_nil List.map_toArray List.toList_toArray List.append_toArray List.append_eq List.nil_append List.cons_append List.append_nil List.all_toArray List.all_cons List.all_nil Bool.and_true Bool.true_and Bool.and_self List.getElem?_toArray List.getElem?_cons_zero List.getElem?_cons_succ List.set_cons_zero List.set_cons_succ List.drop_zero List.drop_succ_cons List.take_zero List.take_succ_cons Option.bind_some Option.map_some id true_and and_true and_self St.next_alloc St.next_upd beq_self_eq_true Bool.not_true Bool.not_false Bool.false_eq_true false_implies true_implies Option.isNone_none Option.isNone_some Option.isSome_none Option.isSome_some ge_iff_le gt_iff_lt Nat.sub_zero Nat.add_assoc IntWalk.i64_in IntWalk.u64_in IntWalk.u8_in IntWalk.u32_in IntWalk.i32_in IntWalk.u16_in dec_not Bool.not_eq_true decide_true decide_false ne_eq not_true_eq_false not_false_eq_true Bool.true_or Bool.or_true Bool.or_false Bool.false_or Bool.and_false Bool.false_and upd_apply rd_eq ar_zero ar_succ ar_nil tm_size tm_getD tm_set E_tmps E_defers put_E put_none eval_tmp eval_const eval_func setArgs_0 setArgs_1 setArgs_2 append_lit stepV_some stepA_some guardO_true ifB_true ifB_false wantV_true wantV_false wantV_dec_t wantV_dec_f ifB_dec_t ifB_dec_f condV_bool dec_and dec_or isB_bool someB_t someB_f okO_tmp okO_func okO_int okO_bool okO_string okO_ptr0 okO_slice0 okO_nilFunc okO_nilIface okO_map0 okO_agg wanted_none wanted_some lookT_some aopsL_nil aopsL_cons wpA_skip wpA_label wpA_exit wpA_goto wpA_ret wpA_seq wpA_block wpA_region wpA_cond wpA_loop wpA_rangeFunc wpA_draw thenQ_normal thenQ_exit thenQ_ret thenQ_panic blockQ_normal blockQ_ret blockQ_panic blockQ_exit funQ_ret funQ_normal funQ_panic op_move op_assign pickV_or pickV_and pickV_t pickV_f pickV_true pickV_false op_pick allocV_some op_alloc op_box op_load op_nilCheck op_bin op_lookup bptr btype op_un op_convert op_makeInterface op_makeSlice op_fieldAddr op_field op_indexAddr op_index op_extract op_typeAssert storeV_some op_store op_makeMap op_mapUpdate op_slice00 op_slice10 op_slice01 op_slice11 op_slice111 op_slice011 op_makeFunc callV_true op_call op_builtin panicV_iface op_panic ACallV_func ACallF_false ACallF_true ACallV_yield afterCall_returned afterCall_panicked bin_add bin_sub bin_mul bin_and bin_or bin_xor bin_andNot bin_eql bin_neq bin_lss bin_leq bin_gtr bin_geq mval_some mval_none lookup_map lookU_map lookK_smap mapSet_map msetU_map msetK_int conv_to conv_from unsT_cells unsF_cells bin_same bin_nil bdata_nil bdata_some builtin_data builtin_str bin_quo bin_rem bin_shl bin_shr bin_sadd bin_seql bin_sneq bin_slss uB_bool bin_beql bin_bneq uP_pointer bin_peql bin_pneq uS_slice bin_leql bin_lneq bin_ieql bin_ineq un_neg un_xor un_not nilCheck_ptr nilCheck_func nilCheck_yield load_ptr loadC_one loadC_agg store_ptr slice_eq sliceU_string sliceU_slice sliceU_array sliceS_eq boundsS_some sliceL_eq boundsL_nil boundsL_exact boundsL_least boundsL_own boundsL_ownN bounds_11 bounds_10 bounds_01 bounds_00 builtin_len len_string len_array len_slice builtin_append builtin_copy pairA_some builtin_min builtin_max min_two max_two index_eq index_string index_array indexAddr_eq indexAddr_array indexAddr_slice fieldAddr_eq posO_some fAddr_some fieldAddr_struct partC_some field_eq field_struct part_eq partU_one partU_agg extract_tuple conv_eq conv_int conv_string u8O_u8 conv_bytes conv_text_nil conv_text_zero conv_text mkIface_eq get_upd_same consO_some finR_0 finR_1 finR_2 aresL_nil aresL_cons ares1_tmp ares1_cell retV_some aleave_nil aleave_coll bnd_int bnd_bool bnd_string bnd_nilIface bnd_slice0 bnd_iface bnd_slice bnd_ptr bnd_ptr0 bndL_nil bndL_cons bndA_lit bnd_tuple bnd_agg calm_same skipC_eq aopsC_nil aopsC_cons stepC_call stepC_move stepC_assign stepC_pick stepC_alloc stepC_box stepC_build stepC_buildSlice stepC_load stepC_store stepC_nilCheck stepC_binOp stepC_unOp stepC_convert stepC_makeInterface stepC_makeFunc stepC_makeSlice stepC_slice stepC_fieldAddr stepC_field stepC_indexAddr stepC_index stepC_extract stepC_typeAssert stepC_lookup stepC_mapUpdate stepC_makeMap stepC_builtin to_same sameA_eq aopsX_nil aopsX_cons stepX_heavy stepX_light lightK_eq allC_nil allC_cons hs_zero hs_succ stepT_call pure_call stepT_move pure_move stepT_assign pure_assign stepT_pick pure_pick stepT_alloc pure_alloc stepT_box pure_box stepT_build pure_build stepT_buildSlice pure_buildSlice stepT_load pure_load stepT_store pure_store stepT_nilCheck pure_nilCheck stepT_binOp pure_binOp stepT_unOp pure_unOp stepT_convert pure_convert stepT_makeInterface pure_makeInterface stepT_makeFunc pure_makeFunc stepT_makeSlice pure_makeSlice stepT_slice pure_slice stepT_fieldAddr pure_fieldAddr stepT_field pure_field stepT_indexAddr pure_indexAddr stepT_index pure_index stepT_extract pure_extract stepT_typeAssert pure_typeAssert stepT_lookup pure_lookup stepT_mapUpdate pure_mapUpdate stepT_makeMap pure_makeMap stepT_builtin pure_b_len pure_b_append pure_b_copy pure_b_min pure_b_max pure_b_unsafeSliceData pure_b_unsafeString leaveK_eq aleave_fn op_defer deferV_func resK_some defQ_ret defQ_normal storeC_int storeC_bool storeC_string storeC_slice storeC_func storeC_pointer len_cons len_nil cells_int cells_bool cells_string cells_slice cells_pointer cells_func cells_map cells_nilFunc cells_agg cell1_bool cell1_string cell1_slice cell1_pointer cell1_func cell1_i cell1_map cell1_nilFunc setList_nil setList_cons storeC_aggS fillP_nil fillP_cons fillAt_1 fillAt_n aggO_some sliceO_some places_0 places_s zerosR_0 zerosR_s thenElse_true evP_nil evP_cons okP_nil okP_cons op_buildL op_buildSliceL isBu_t isBu_f mk_E get_alloc_old get_alloc_new get_upd_old Try.agg1 Try.sz1 Try.byt1 Try.zero1 Try.agg2 Try.sz2 Try.byt2 Try.zero2 Try.agg3 Try.sz3 Try.byt3 Try.zero3 Try.agg4 Try.sz4 Try.byt4 Try.zero4 Try.agg5 Try.sz5 Try.byt5 Try.zero5 Try.agg6 Try.sz6 Try.byt6 Try.zero6 Try.agg7 Try.sz7 Try.byt7 Try.zero7 Try.agg8 Try.sz8 Try.byt8 Try.zero8 Try.agg9 Try.sz9 Try.byt9 Try.zero9 Try.agg10 Try.sz10 Try.byt10 Try.zero10 Try.agg11 Try.sz11 Try.byt11 Try.zero11 Try.agg12 Try.sz12 Try.byt12 Try.zero12 Try.agg13 Try.sz13 Try.byt13 Try.zero13 Try.agg14 Try.sz14 Try.byt14 Try.zero14 Try.agg15 Try.sz15 Try.byt15 Try.zero15 Try.agg16 Try.sz16 Try.byt16 Try.zero16 Try.agg17 Try.sz17 Try.byt17 Try.zero17 Try.agg18 Try.sz18 Try.byt18 Try.zero18 Try.agg19 Try.sz19 Try.byt19 Try.zero19 Try.agg20 Try.sz20 Try.byt20 Try.zero20 Try.agg21 Try.sz21 Try.byt21 Try.zero21 Try.agg22 Try.sz22 Try.byt22 Try.el22 Try.zero22 Try.agg23 Try.sz23 Try.byt23 Try.zero23 Try.agg24 Try.sz24 Try.byt24 Try.el24 Try.zero24 Try.agg25 Try.sz25 Try.byt25 Try.el25 Try.zero25 Try.agg26 Try.sz26 Try.byt26 Try.el26 Try.zero26 Try.agg27 Try.sz27 Try.byt27 Try.zero27 Try.agg28 Try.sz28 Try.byt28 Try.zero28 Try.agg29 Try.sz29 Try.byt29 Try.zero29 Try.agg30 Try.sz30 Try.byt30 Try.zero30 Try.agg31 Try.sz31 Try.byt31 Try.zero31 Try.agg32 Try.sz32 Try.byt32 Try.zero32 Try.agg33 Try.sz33 Try.byt33 Try.zero33 Try.agg34 Try.sz34 Try.byt34 Try.zero34 Try.agg35 Try.sz35 Try.byt35 Try.el35 Try.zero35 Try.agg36 Try.sz36 Try.byt36 Try.zero36 Try.agg37 Try.sz37 Try.byt37 Try.zero37 Try.agg38 Try.sz38 Try.byt38 Try.el38 Try.zero38 Try.agg39 Try.sz39 Try.byt39 Try.zero39 Try.agg40 Try.sz40 Try.byt40 Try.zero40 Try.agg41 Try.sz41 Try.byt41 Try.zero41 Try.agg42 Try.sz42 Try.byt42 Try.zero42 Try.agg43 Try.sz43 Try.byt43 Try.zero43 Try.agg44 Try.sz44 Try.byt44 Try.el44 Try.zero44 Try.agg46 Try.sz46 Try.byt46 Try.zero46 Try.agg48 Try.sz48 Try.byt48 Try.zero48 Try.agg49 Try.sz49 Try.byt49 Try.zero49 Try.agg50 Try.sz50 Try.byt50 Try.zero50 Try.agg51 Try.sz51 Try.byt51 Try.zero51 Try.agg52 Try.sz52 Try.byt52 Try.zero52 Try.agg53 Try.sz53 Try.byt53 Try.zero53 Try.agg54 Try.sz54 Try.byt54 Try.zero54 Try.agg55 Try.sz55 Try.byt55 Try.el55 Try.zero55 Try.agg56 Try.sz56 Try.byt56 Try.zero56 Try.agg57 Try.sz57 Try.byt57 Try.zero57 Try.agg58 Try.sz58 Try.byt58 Try.zero58 Try.agg59 Try.sz59 Try.byt59 Try.zero59 Try.agg60 Try.sz60 Try.byt60 Try.zero60 Try.agg61 Try.sz61 Try.byt61 Try.zero61 Try.agg62 Try.sz62 Try.byt62 Try.zero62 Try.agg64 Try.sz64 Try.byt64 Try.zero64 Try.agg65 Try.sz65 Try.byt65 Try.zero65 Try.agg66 Try.sz66 Try.byt66 Try.zero66 Try.agg68 Try.sz68 Try.byt68 Try.zero68 Try.agg69 Try.sz69 Try.byt69 Try.zero69 Try.agg71 Try.sz71 Try.byt71 Try.zero71 Try.agg72 Try.sz72 Try.byt72 Try.zero72 Try.agg73 Try.sz73 Try.byt73 Try.zero73 Try.agg74 Try.sz74 Try.byt74 Try.zero74 Try.agg75 Try.sz75 Try.byt75 Try.zero75 Try.agg76 Try.sz76 Try.byt76 Try.zero76 Try.agg77 Try.sz77 Try.byt77 Try.zero77 Try.agg78 Try.sz78 Try.byt78 Try.zero78 Try.agg79 Try.sz79 Try.byt79 Try.zero79 Try.agg80 Try.sz80 Try.byt80 Try.zero80 Try.agg81 Try.sz81 Try.byt81 Try.zero81 Try.agg82 Try.sz82 Try.byt82 Try.zero82 Try.agg83 Try.sz83 Try.byt83 Try.zero83 Try.agg84 Try.sz84 Try.byt84 Try.zero84 Try.agg85 Try.sz85 Try.byt85 Try.zero85 Try.agg86 Try.sz86 Try.byt86 Try.zero86 Try.agg87 Try.sz87 Try.byt87 Try.zero87 Try.agg88 Try.sz88 Try.byt88 Try.zero88 Try.agg89 Try.sz89 Try.byt89 Try.el89 Try.zero89 Try.agg90 Try.sz90 Try.byt90 Try.zero90 Try.agg91 Try.sz91 Try.byt91 Try.zero91 Try.agg92 Try.sz92 Try.byt92 Try.zero92 Try.agg93 Try.sz93 Try.byt93 Try.zero93 Try.agg94 Try.sz94 Try.byt94 Try.zero94 Try.agg95 Try.sz95 Try.byt95 Try.zero95 Try.agg96 Try.sz96 Try.byt96 Try.zero96 Try.agg97 Try.sz97 Try.byt97 Try.zero97 Try.agg98 Try.sz98 Try.byt98 Try.zero98 Try.agg99 Try.sz99 Try.byt99 Try.zero99 Try.agg100 Try.sz100 Try.byt100 Try.zero100 Try.agg101 Try.sz101 Try.byt101 Try.zero101 Try.agg102 Try.sz102 Try.byt102 Try.zero102 Try.agg103 Try.sz103 Try.byt103 Try.zero103 Try.agg104 Try.sz104 Try.byt104 Try.zero104 Try.agg105 Try.sz105 Try.byt105 Try.zero105 Try.agg106 Try.sz106 Try.byt106 Try.zero106 Try.agg107 Try.sz107 Try.byt107 Try.zero107 Try.agg108 Try.sz108 Try.byt108 Try.zero108 Try.agg109 Try.sz109 Try.byt109 Try.zero109 Try.agg110 Try.sz110 Try.byt110 Try.zero110 Try.agg111 Try.sz111 Try.byt111 Try.zero111 Try.agg112 Try.sz112 Try.byt112 Try.zero112 Try.agg113 Try.sz113 Try.byt113 Try.zero113 Try.agg114 Try.sz114 Try.byt114 Try.zero114 Try.agg115 Try.sz115 Try.byt115 Try.zero115 Try.agg116 Try.sz116 Try.byt116 Try.zero116 Try.body0 Try.body1 Try.body2 Try.body3 Try.body4 Try.body5 Try.body6 Try.body7 Try.body8 Try.body9 Try.body10 Try.body11 Try.body12 Try.body13 Try.body14 Try.body15 Try.body16 Try.body17 Try.body18 Try.body19 Try.body20 Try.body21 Try.body22 Try.body23 Try.body24 Try.body25 Try.body26 Try.body27 Try.body28 Try.body29 Try.body30 Try.body31 Try.body32 Try.body33 Try.body34 Try.body35 Try.body36 Try.body37 Try.body38 Try.body39 Try.body40 Try.body41 Try.body42 Try.body43 Try.body44 Try.body45 Try.body46 Try.body47 Try.body48 Try.body49 Try.body50 Try.body51 Try.body52 Try.body53 Try.body54 Try.body55 Try.body56 Try.body57 Try.body58 Try.body59 Try.body60 Try.body61 Try.body62 Try.body63 Try.body64 Try.body65 Try.body66 Try.body67 Try.body68 Try.body69 Try.body70 Try.body71 Try.body72 Try.body73 Try.body74 Try.body75 Try.body76 Try.body77 Try.body78 Try.body79 Try.build7 Try.build8 Try.build13 Try.build14 Try.build18 Try.build19 Try.bsl22 Try.bsl24 Try.bsl25 Try.bsl26 Try.build27 Try.build28 Try.build29 Try.build30 Try.build31 Try.build32 Try.bsl35 Try.bsl38 Try.build39 Try.build40 Try.build42 Try.build43 Try.bsl44 Try.build50 Try.bsl55 Try.bsl89 Try.build90 Try.build91 Try.build102 Try.build103 Try.build105 Try.build106 Try.build114 Try.build115 Try.underlying1 Try.underlying2 Try.underlying3 Try.underlying4 Try.underlying5 Try.underlying6 Try.underlying7 Try.underlying8 Try.underlying9 Try.underlying10 Try.underlying11 Try.underlying12 Try.underlying13 Try.underlying14 Try.underlying15 Try.underlying16 Try.underlying17 Try.underlying18 Try.underlying19 Try.underlying20 Try.underlying21 Try.underlying22 Try.underlying23 Try.underlying24 Try.underlying25 Try.underlying26 Try.underlying27 Try.underlying28 Try.underlying29 Try.underlying30 Try.underlying31 Try.underlying32 Try.underlying33 Try.underlying34 Try.underlying35 Try.underlying36 Try.underlying37 Try.underlying38 Try.underlying39 Try.underlying40 Try.underlying41 Try.underlying42 Try.underlying43 Try.underlying44 Try.underlying46 Try.underlying48 Try.underlying49 Try.underlying50 Try.underlying51 Try.underlying52 Try.underlying53 Try.underlying54 Try.underlying55 Try.underlying56 Try.underlying57 Try.underlying58 Try.underlying59 Try.underlying60 Try.underlying61 Try.underlying62 Try.underlying64 Try.underlying65 Try.underlying66 Try.underlying68 Try.underlying69 Try.underlying71 Try.underlying72 Try.underlying73 Try.underlying74 Try.underlying75 Try.underlying76 Try.underlying77 Try.underlying78 Try.underlying79 Try.underlying80 Try.underlying81 Try.underlying82 Try.underlying83 Try.underlying84 Try.underlying85 Try.underlying86 Try.underlying87 Try.underlying88 Try.underlying89 Try.underlying90 Try.underlying91 Try.underlying92 Try.underlying93 Try.underlying94 Try.underlying95 Try.underlying96 Try.underlying97 Try.underlying98 Try.underlying99 Try.underlying100 Try.underlying101 Try.underlying102 Try.underlying103 Try.underlying104 Try.underlying105 Try.underlying106 Try.underlying107 Try.underlying108 Try.underlying109 Try.underlying110 Try.underlying111 Try.underlying112 Try.underlying113 Try.underlying114 Try.underlying115 Try.underlying116
theorem Try.enters5 : Enters Try.prog 5 := enters_of Try.func5 rfl (by kernel_rfl)
def u8E (i : Int) : List Value := [.int .u8 i]
theorem u8E_len (i : Int) : (u8E i).length = 1 := rfl
theorem u8E_pl (i : Int) : (u8E i).all plainV = true := rfl
def u8Ok (i : Int) : Prop := 0 ≤ i ∧ i ≤ 255
theorem u8E_dec {H : Type} {enc : TypeId × Value → H} {w : World} {held : Bool} (n : Nat) (cs : List Value) (y : DataW H × List MemPlace) (h : DataW.trod enc Try.prog w 0 (fun _ => true) held n 5 cs = some y) : ∃ a, cs = u8E a ∧ u8Ok a := by
  obtain ⟨a, e0, _, w0⟩ := DataW.trod_int Try.underlying5 h
  refine ⟨a, e0, ?_⟩
  have := w0
  simp [Lit.wf, IntKind.min, IntKind.max, IntKind.bits, IntKind.signed] at this
  unfold u8Ok
  omega
theorem u8E_at (l : List Int) (i : Nat) (x : Int) (h : l[i]? = some x) : (l.flatMap u8E)[i]? = some (.int .u8 x) := by
  have := flatMap_at (encE := u8E) (sz := 1) l (fun y _ => rfl) i 0 (by decide)
  rw [Nat.mul_one, Nat.add_zero, h] at this
  exact this
/-- Versions of which only the Id is told. -/
def vI (w : List Int) : List VerT := w.map fun i => ⟨i, [], [], []⟩
theorem vI_len (w : List Int) : (vI w).length = w.length := by simp [vI]
theorem vI_at {w : List Int} {k : Nat} {V : VerT} (h : (vI w)[k]? = some V) : ∃ i, w[k]? = some i ∧ V = ⟨i, [], [], []⟩ := by
  unfold vI at h
  rw [List.getElem?_map] at h
  obtain ⟨i, h1, h2⟩ := Option.map_eq_some_iff.1 h
  exact ⟨i, h1, h2.symm⟩
theorem placeN_cases (l : List VerT) (id : Int) : ∀ m i, l.length - i ≤ m → (placeN l id i = -1 ∧ ∀ k V, i ≤ k → l[k]? = some V → V.id ≠ id) ∨ ∃ (j : Nat) (V : VerT), i ≤ j ∧ l[j]? = some V ∧ V.id = id ∧ placeN l id i = j ∧ ∀ k V', i ≤ k → k < j → l[k]? = some V' → V'.id ≠ id
  | m, i, hm => by
    by_cases hi : i < l.length
    · have hg : l[i]? = some l[i] := List.getElem?_eq_getElem hi
      rw [placeN_at hg]
      by_cases he : l[i].id = id
      · rw [if_pos he]
        exact .inr ⟨i, _, Nat.le_refl _, hg, he, rfl, fun k V' h1 h2 => by omega⟩
      · rw [if_neg he]
        match m, hm with
        | m + 1, hm =>
          rcases placeN_cases l id m (i + 1) (by omega) with ⟨h1, h2⟩ | ⟨j, V, h1, h2, h3, h4, h5⟩
          · refine .inl ⟨h1, fun k V hk hV => ?_⟩
            by_cases hki : k = i
            · subst hki; rw [hg] at hV; cases hV; exact he
            · exact h2 k V (by omega) hV
          · refine .inr ⟨j, V, by omega, h2, h3, h4, fun k V' hk hkj hV => ?_⟩
            by_cases hki : k = i
            · subst hki; rw [hg] at hV; cases hV; exact he
            · exact h5 k V' (by omega) hkj hV
        | 0, hm => omega
    · exact .inl ⟨placeN_end (by omega), fun k V hk hV => by have := (List.getElem?_eq_some_iff.1 hV).1; omega⟩
theorem place_vI (w : List Int) (id : Int) : (placeL (vI w) id = -1 ∧ id ∉ w) ∨ ∃ j : Nat, w[j]? = some id ∧ placeL (vI w) id = j ∧ ∀ k i, k < j → w[k]? = some i → i ≠ id := by
  rcases placeN_cases (vI w) id (vI w).length 0 (by omega) with ⟨h1, h2⟩ | ⟨j, V, h1, h2, h3, h4, h5⟩
  · refine .inl ⟨h1, fun hm => ?_⟩
    obtain ⟨k, hk⟩ := List.getElem?_of_mem hm
    exact h2 k ⟨id, [], [], []⟩ (Nat.zero_le _) (by unfold vI; rw [List.getElem?_map, hk]; rfl) rfl
  · obtain ⟨i, hi, rfl⟩ := vI_at h2
    simp only at h3
    subst h3
    refine .inr ⟨j, hi, h4, fun k i' hk hi' => ?_⟩
    exact h5 k ⟨i', [], [], []⟩ (Nat.zero_le _) hk (by unfold vI; rw [List.getElem?_map, hi']; rfl)
def wst (w : List Int) (id : Int) : List Int := if id ∈ w then w else if 8 ≤ w.length then w else w ++ [id]
def wsE (w : List Int) (id : Int) : Int := if id ∈ w then 4 else if 8 ≤ w.length then 2 else 0
theorem doL_wst (w : List Int) (id : Int) : doL (vI w) ⟨1, 0, ⟨id, [], [], []⟩⟩ = (vI (wst w id), errR (wsE w id)) := by
  unfold doL wst wsE
  rw [if_pos rfl, if_neg (by rw [may_empty]; decide), vI_len]
  rcases place_vI w id with ⟨h1, h2⟩ | ⟨j, h1, h2, _⟩
  · simp only [h1, h2, if_neg, if_false, show ¬ (0 : Int) ≤ -1 by decide]
    by_cases h8 : 8 ≤ w.length
    · simp [h8]
    · simp [h8, vI]
  · have hm : id ∈ w := List.mem_of_getElem? h1
    simp [h2, hm]
theorem wst_nodup {w : List Int} (h : w.Nodup) (id : Int) : (wst w id).Nodup := by
  unfold wst
  split
  · exact h
  · split
    · exact h
    · rename_i h1 _
      rw [List.nodup_append]
      exact ⟨h, by simp, fun a ha b hb => by rw [List.mem_singleton.1 hb]; intro e; exact h1 (e ▸ ha)⟩
theorem wst_len {w : List Int} (h : w.length ≤ 8) (id : Int) : (wst w id).length ≤ 8 := by
  unfold wst
  split
  · exact h
  · split
    · exact h
    · simp; omega
def leftL (w : List Int) (id : Int) : List Int := w.filter (fun x => decide (x ≠ id))
theorem erase_left {w : List Int} (hn : w.Nodup) {id : Int} {j : Nat} (h : w[j]? = some id) : w.eraseIdx j = leftL w id := by
  obtain ⟨hj, e⟩ := List.getElem?_eq_some_iff.1 h
  have hw : w = w.take j ++ id :: w.drop (j + 1) := by
    conv => lhs; rw [← List.take_append_drop j w, List.drop_eq_getElem_cons hj, e]
  have hn2 := hn
  rw [hw, List.nodup_append] at hn2
  obtain ⟨_, h2, h3⟩ := hn2
  have h4 := (List.nodup_cons.1 h2).1
  rw [List.eraseIdx_eq_take_drop_succ]
  unfold leftL
  conv => rhs; rw [hw]
  rw [List.filter_append, List.filter_cons_of_neg (by simp)]
  rw [List.filter_eq_self.2, List.filter_eq_self.2]
  · intro a ha; simp only [decide_eq_true_eq]; intro e; exact h4 (e ▸ ha)
  · intro a ha; simp only [decide_eq_true_eq]; exact h3 a ha id (List.mem_cons_self ..)
theorem left_none {w : List Int} {id : Int} (h : id ∉ w) : leftL w id = w := List.filter_eq_self.2 fun a ha => by simp only [decide_eq_true_eq]; intro e; exact h (e ▸ ha)
theorem left_mem {w : List Int} {id : Int} : id ∉ leftL w id := fun h => by simp [leftL] at h
theorem left_lt {w : List Int} {id : Int} : (leftL w id).length < w.length ↔ id ∈ w := by
  constructor
  · intro h
    apply Classical.byContradiction
    intro hn
    rw [left_none hn] at h; omega
  · intro h
    apply Classical.byContradiction
    intro hn
    have h1 : (leftL w id).length = w.length := by have := List.length_filter_le (fun x => decide (x ≠ id)) w; unfold leftL at hn ⊢; omega
    have h2 := List.length_filter_eq_length_iff.1 h1 id h
    simp at h2
theorem doL_del {w : List Int} (hn : w.Nodup) (id : Int) (v : VerT) : doL (vI w) ⟨2, id, v⟩ = (vI (leftL w id), errR (if id ∈ w then 0 else 3)) := by
  unfold doL
  rw [if_neg (show ¬ (2 : Int) = 1 by decide), if_pos rfl]
  rcases place_vI w id with ⟨h1, h2⟩ | ⟨j, h1, h2, _⟩
  · simp only [h1]
    rw [if_pos (by decide), if_neg h2, left_none h2]
  · have hm : id ∈ w := List.mem_of_getElem? h1
    simp only [h2]
    rw [if_neg (by omega), if_pos hm, Int.toNat_natCast, ← erase_left hn h1]
    unfold vI
    rw [List.eraseIdx_eq_take_drop_succ, List.eraseIdx_eq_take_drop_succ, List.map_append, List.map_take, List.map_drop]
theorem doL_list (w : List Int) (v : VerT) (i : Int) : doL (vI w) ⟨4, i, v⟩ = (vI w, ⟨0, w, verN⟩) := by
  unfold doL
  rw [if_neg (show ¬ (4 : Int) = 1 by decide), if_neg (show ¬ (4 : Int) = 2 by decide), if_neg (show ¬ (4 : Int) = 3 by decide), if_pos rfl]
  have : (vI w).map (·.id) = w := by unfold vI; rw [List.map_map]; simp [Function.comp_def]
  rw [this]
theorem doL_gone {w : List Int} {id : Int} (h : id ∉ w) (v : VerT) : doL (vI w) ⟨5, id, v⟩ = (vI w, errR 3) := by
  unfold doL
  rw [if_neg (show ¬ (5 : Int) = 1 by decide), if_neg (show ¬ (5 : Int) = 2 by decide), if_neg (show ¬ (5 : Int) = 3 by decide), if_neg (show ¬ (5 : Int) = 4 by decide), if_pos rfl]
  rcases place_vI w id with ⟨h1, h2⟩ | ⟨j, h1, h2, _⟩
  · simp only [h1]; rw [if_pos (by decide)]
  · exact absurd (List.mem_of_getElem? h1) h
theorem doL_got {w : List Int} {id : Int} (h : id ∈ w) (v : VerT) : doL (vI w) ⟨5, id, v⟩ = (vI w, ⟨0, [], ⟨id, [], [], []⟩⟩) := by
  unfold doL
  rw [if_neg (show ¬ (5 : Int) = 1 by decide), if_neg (show ¬ (5 : Int) = 2 by decide), if_neg (show ¬ (5 : Int) = 3 by decide), if_neg (show ¬ (5 : Int) = 4 by decide), if_pos rfl]
  rcases place_vI w id with ⟨h1, h2⟩ | ⟨j, h1, h2, _⟩
  · exact absurd h h2
  · simp only [h2]
    rw [if_neg (by omega), Int.toNat_natCast, List.getD_eq_getElem?_getD]
    unfold vI
    rw [List.getElem?_map, h1]; rfl
theorem emp_c' (A : St) (id : Int) : VerC A ⟨id, [], [], []⟩ [.int .u32 id, .slice none 0 0, .slice none 0 0, .slice none 0 0] := ⟨_, _, _, rfl, View.nil .., View.nil .., View.nil ..⟩
theorem emp_small' (id : Int) : VerT.small ⟨id, [], [], []⟩ := ⟨Nat.zero_le _, Nat.zero_le _, Nat.zero_le _⟩
def wants (l : List Int) : List Int := l.foldl (fun w x => wst w (x % 12)) []
theorem wants_snoc (l : List Int) (x : Int) : wants (l ++ [x]) = wst (wants l) (x % 12) := by unfold wants; rw [List.foldl_append]; rfl
theorem wants_ok : ∀ (l : List Int) (w : List Int), w.Nodup → w.length ≤ 8 → (l.foldl (fun w x => wst w (x % 12)) w).Nodup ∧ (l.foldl (fun w x => wst w (x % 12)) w).length ≤ 8
  | [], w, h, h' => ⟨h, h'⟩
  | x :: l, w, h, h' => wants_ok l _ (wst_nodup h _) (wst_len h' _)
theorem wants_nodup (l : List Int) : (wants l).Nodup ∧ (wants l).length ≤ 8 := wants_ok l [] List.nodup_nil (Nat.zero_le _)
theorem wst_mem {w : List Int} {id y : Int} (h : y ∈ wst w id) : y ∈ w ∨ y = id := by
  unfold wst at h
  split at h
  · exact .inl h
  · split at h
    · exact .inl h
    · simpa using h
theorem wants_rng' : ∀ (l : List Int) (w : List Int), (∀ y ∈ w, 0 ≤ y ∧ y < 12) → ∀ y ∈ l.foldl (fun w x => wst w (x % 12)) w, 0 ≤ y ∧ y < 12
  | [], w, h => h
  | x :: l, w, h => wants_rng' l _ fun y hy => by
    rcases wst_mem hy with h1 | h1
    · exact h y h1
    · omega
theorem wants_rng (l : List Int) : ∀ y ∈ wants l, 0 ≤ y ∧ y < 12 := wants_rng' l [] (fun y h => by cases h)
set_option maxHeartbeats 16000000 in
theorem puts_all (w0 : World) (A : St) (iv : Value) (l : List Int) (gone : Int) (hv : View A 1 (l.flatMap u8E) l.length iv) (okl : ∀ y ∈ l, u8Ok y) (hgone : 0 ≤ gone ∧ gone ≤ 255) : ACalls Try.prog w0 5 #[iv, .int .u8 gone] A (fin (.bool true) A) := by
  refine call_E Try.enters5 Try.func5 rfl (Nat.le_of_ble_eq_true rfl) fun hw hbd => ?_
  have hlen := View.lenU (e := 5) hv
  by_cases h30 : 30 < l.length
  · have h30' : (l.length : Int) > 30 := by omega
    simp (maxSteps := 1000000) (disch := (first | omega | (simp only [nx_alloc, nx_upd, len_cons, len_nil, List.length_set, List.length_map, List.length_append] <;> omega) | fail)) only [Nat.reduceAdd, Nat.reduceSub, Nat.reduceMul, Nat.reduceLT, Nat.reduceLeDiff, Nat.reduceEqDiff, ↓reduceIte, reduceCtorEq, Int.reduceAdd, Int.reduceSub, Int.reduceMul, Int.reduceLT, Int.reduceLE, Int.reduceEq, Int.reduceNe, Int.reduceToNat, Int.reduceNeg, go_sem, Try.ntmps5, Try.results5, hlen]
    refine call1 (shown_ok w0 A) ?_
    simp (maxSteps := 1000000) (disch := (first | omega | (simp only [nx_alloc, nx_upd, len_cons, len_nil, List.length_set, List.length_map, List.length_append] <;> omega) | fail)) only [Nat.reduceAdd, Nat.reduceSub, Nat.reduceMul, Nat.reduceLT, Nat.reduceLeDiff, Nat.reduceEqDiff, ↓reduceIte, reduceCtorEq, Int.reduceAdd, Int.reduceSub, Int.reduceMul, Int.reduceLT, Int.reduceLE, Int.reduceEq, Int.reduceNe, Int.reduceToNat, Int.reduceNeg, go_sem, Try.results5]
    exact gc_fin' hw (Over.refl _) rfl (.bool _)
  have h30' : ¬ (l.length : Int) > 30 := by omega
  simp (maxSteps := 1000000) (disch := (first | omega | (simp only [nx_alloc, nx_upd, len_cons, len_nil, List.length_set, List.length_map, List.length_append] <;> omega) | fail)) only [Nat.reduceAdd, Nat.reduceSub, Nat.reduceMul, Nat.reduceLT, Nat.reduceLeDiff, Nat.reduceEqDiff, ↓reduceIte, reduceCtorEq, Int.reduceAdd, Int.reduceSub, Int.reduceMul, Int.reduceLT, Int.reduceLE, Int.reduceEq, Int.reduceNe, Int.reduceToNat, Int.reduceNeg, go_sem, Try.ntmps5, Try.results5, hlen]
  refine call1 (shown_ok w0 A) ?_
  obtain ⟨A1, st1, o1, n1, g1⟩ := one_st A (cs := .slice none 0 0 :: [.int .u32 0, .int .u32 0, .int .u32 0, .int .i64 0, .slice none 0 0, .int .u32 0, .slice none 0 0, .slice none 0 0, .slice none 0 0, .int .i64 0, .slice none 0 0, .int .u32 0, .slice none 0 0, .slice none 0 0, .slice none 0 0, .int .i64 0, .slice none 0 0, .int .u32 0, .slice none 0 0, .slice none 0 0, .slice none 0 0]) ⟨rfl, rfl⟩
  obtain ⟨b5, hb5⟩ : ∃ b, b = A.next := ⟨_, rfl⟩
  obtain ⟨A2, hA2⟩ : ∃ A2, A2 = A1.alloc (.cells [] 23 (some 0)) := ⟨_, rfl⟩
  have o2 : Over A1 A2 := hA2 ▸ (Over.refl _).alloc _
  have n2 : A2.next = A.next + 2 := by rw [hA2, nx_alloc, n1]
  have g5 : A2.get b5 = some (.cells (.slice none 0 0 :: [.int .u32 0, .int .u32 0, .int .u32 0, .int .i64 0, .slice none 0 0, .int .u32 0, .slice none 0 0, .slice none 0 0, .slice none 0 0, .int .i64 0, .slice none 0 0, .int .u32 0, .slice none 0 0, .slice none 0 0, .slice none 0 0, .int .i64 0, .slice none 0 0, .int .u32 0, .slice none 0 0, .slice none 0 0, .slice none 0 0]) 43 (some 0)) := by rw [o2.get _ (by omega), hb5]; exact g1
  have hrow0 : IdRow A2 (A.next + 1) [] (.slice (some ⟨A1.next, 0, none⟩) 0 0) := ⟨rfl, .inr ⟨A1.next, none, rfl, .inl rfl, by omega, by omega, by rw [hA2]; exact get_alloc_same ..⟩⟩
  simp (maxSteps := 1000000) (disch := (first | omega | (simp only [nx_alloc, nx_upd, len_cons, len_nil, List.length_set, List.length_map, List.length_append] <;> omega) | fail)) only [Nat.reduceAdd, Nat.reduceSub, Nat.reduceMul, Nat.reduceLT, Nat.reduceLeDiff, Nat.reduceEqDiff, ↓reduceIte, reduceCtorEq, Int.reduceAdd, Int.reduceSub, Int.reduceMul, Int.reduceLT, Int.reduceLE, Int.reduceEq, Int.reduceNe, Int.reduceToNat, Int.reduceNeg, go_sem, st1]
  rw [← hA2, ← hb5]
  refine aw_loop (fun k x A' => ∃ (ρ : Nat → Value) (i : Nat) (v u : Value), x = E 190 ρ [] ∧ k = l.length - i ∧ i ≤ l.length ∧ Over A A' ∧ A.next + 1 ≤ A'.next ∧ A'.get b5 = some (.cells (v :: [.int .u32 0, .int .u32 0, .int .u32 0, .int .i64 0, .slice none 0 0, .int .u32 0, .slice none 0 0, .slice none 0 0, .slice none 0 0, .int .i64 0, .slice none 0 0, .int .u32 0, .slice none 0 0, .slice none 0 0, .slice none 0 0, .int .i64 0, .slice none 0 0, .int .u32 0, .slice none 0 0, .slice none 0 0, .slice none 0 0]) 43 (some 0)) ∧ VsV (A'.hide (b5 :: rbL u)) (vI (wants (l.take i))) v ∧ IdRow A' (A.next + 1) (wants (l.take i)) u ∧
      ρ 0 = iv ∧ ρ 1 = .int .u8 gone ∧ ρ 5 = .pointer (some ⟨b5, 0, none⟩) ∧ ρ 6 = u ∧ ρ 7 = .int .i64 i) l.length
    ⟨_, 0, _, _, rfl, rfl, Nat.zero_le _, o1.trans o2, by omega, g5, VsV.nil _, hrow0, rfl, rfl, rfl, rfl, rfl⟩ ?_
  clear g5 hrow0 hA2 g1 st1 n1 n2 o1 o2
  rintro k x A' ⟨ρ, i, v, u, rfl, hk, hi, ho, hlo, hg, hV, hrow, r0, r1, r5, r6, r7⟩
  refine aw_of ?_
  have hlen' := View.lenU (e := 5) (View.over hv ho)
  obtain ⟨hnd, hw8⟩ := wants_nodup (l.take i)
  have hrbu : ∀ b, rowB u = some b → A.next + 1 ≤ b ∧ b < A'.next := fun b hb => Row.rb hrow b hb
  by_cases hend : i = l.length
  · have e1 : ¬ ((i : Int) < l.length) := by omega
    have hti : l.take i = l := by rw [hend, List.take_length]
    rw [hti] at hV hrow hnd hw8
    obtain ⟨w, hwq⟩ : ∃ w, w = wants l := ⟨_, rfl⟩
    have hrng := wants_rng l
    rw [← hwq] at hV hrow hnd hw8 hrng
    have hV' : VsV A' (vI w) v := hV.ge (hide_ge _ _)
    have hrem : gone.tmod 12 = gone % 12 := Int.tmod_eq_emod_of_nonneg hgone.1
    have hr1 : 0 ≤ gone % 12 := by omega
    have hr2 : gone % 12 < 12 := by omega
    obtain ⟨id, hid⟩ : ∃ id, id = gone % 12 := ⟨_, rfl⟩
    rw [← hid] at hrem hr1 hr2
    have hdo := do_ok w0 A' [] (fun b hb => by cases hb) (vI w) v [.int .u32 0, .int .u32 0, .int .u32 0, .int .i64 0, .slice none 0 0, .int .u32 0, .slice none 0 0, .slice none 0 0, .slice none 0 0, .int .i64 0, .slice none 0 0, .int .u32 0, .slice none 0 0, .slice none 0 0, .slice none 0 0, .int .i64 0, .slice none 0 0, .int .u32 0, .slice none 0 0, .slice none 0 0, .slice none 0 0] ⟨2, id, verN⟩ _ hV' ⟨_, rfl, verN_c _⟩ (by rw [vI_len]; omega) rfl rfl ⟨hr1, by simp only; omega⟩ verN_small
    unfold DoPost at hdo
    rw [doL_del hnd] at hdo
    simp (maxSteps := 1000000) (disch := (first | omega | (simp only [nx_alloc, nx_upd, len_cons, len_nil, List.length_set, List.length_map, List.length_append] <;> omega) | fail)) only [Nat.reduceAdd, Nat.reduceSub, Nat.reduceMul, Nat.reduceLT, Nat.reduceLeDiff, Nat.reduceEqDiff, ↓reduceIte, reduceCtorEq, Int.reduceAdd, Int.reduceSub, Int.reduceMul, Int.reduceLT, Int.reduceLE, Int.reduceEq, Int.reduceNe, Int.reduceToNat, Int.reduceNeg, go_sem, r0, r1, r5, r6, r7, hlen', hrem, hg]
    refine hdo.mono ?_
    rintro _ A3 ⟨v2, rc2, rfl, o3, hv2, hr2'⟩
    change VsV A3 _ _ at hv2
    have n3 := o3.next
    have hcx : (v2 :: [.int .u32 0, .int .u32 0, .int .u32 0, .int .i64 0, .slice none 0 0, .int .u32 0, .slice none 0 0, .slice none 0 0, .slice none 0 0, .int .i64 0, .slice none 0 0, .int .u32 0, .slice none 0 0, .slice none 0 0, .slice none 0 0, .int .i64 0, .slice none 0 0, .int .u32 0, .slice none 0 0, .slice none 0 0, .slice none 0 0]).length = 22 ∧ (v2 :: [.int .u32 0, .int .u32 0, .int .u32 0, .int .i64 0, .slice none 0 0, .int .u32 0, .slice none 0 0, .slice none 0 0, .slice none 0 0, .int .i64 0, .slice none 0 0, .int .u32 0, .slice none 0 0, .slice none 0 0, .slice none 0 0, .int .i64 0, .slice none 0 0, .int .u32 0, .slice none 0 0, .slice none 0 0, .slice none 0 0]).all cell1 = true := ⟨rfl, by obtain ⟨_, _, rfl⟩ := hv2.sl; rfl⟩
    obtain ⟨C1, A4, st7, gC1, st8, o4, n4, g15, g16⟩ := two_st A3 hcx hr2'.len hr2'.cell
    obtain ⟨A5, hA5⟩ : ∃ A5, A5 = A4.alloc (.cells [] 23 (some 0)) := ⟨_, rfl⟩
    have o5 : Over A4 A5 := hA5 ▸ (Over.refl _).alloc _
    have n5 : A5.next = A4.next + 1 := by rw [hA5, nx_alloc]
    have o04 : Over A A4 := ho.trans (o3.trans o4)
    have hrow4 : IdRow A4 (A.next + 1) w u := Row.over hrow (o3.trans o4)
    have hrw0 : IdRow A5 A4.next (leftL (w.take 0) id) (.slice (some ⟨A4.next, 0, none⟩) 0 0) := ⟨rfl, .inr ⟨A4.next, none, rfl, .inl rfl, Nat.le_refl _, by omega, by rw [hA5]; exact get_alloc_same ..⟩⟩
    have hv24 : VsV A4 (vI (leftL w id)) v2 := hv2.ge o4.ge
    have hwn : w.length ≤ 1000 := by omega
    have hle : (leftL w id).length ≤ w.length := List.length_filter_le _ _
    obtain ⟨rw2, rvs2, rfl, _, _⟩ := hr2'
    simp (maxSteps := 1000000) (disch := (first | omega | (simp only [nx_alloc, nx_upd, len_cons, len_nil, List.length_set, List.length_map, List.length_append] <;> omega) | fail)) only [Nat.reduceAdd, Nat.reduceSub, Nat.reduceMul, Nat.reduceLT, Nat.reduceLeDiff, Nat.reduceEqDiff, ↓reduceIte, reduceCtorEq, Int.reduceAdd, Int.reduceSub, Int.reduceMul, Int.reduceLT, Int.reduceLE, Int.reduceEq, Int.reduceNe, Int.reduceToNat, Int.reduceNeg, go_sem, st7, gC1, st8]
    rw [← hA5]
    clear hg hV hdo st7 gC1 st8 hrow hV' hA5
    refine aw_loop (fun k2 y A6 => ∃ (ρ : Nat → Value) (j : Nat) (u2 : Value), y = E 190 ρ [] ∧ k2 = w.length - j ∧ j ≤ w.length ∧ Over A4 A6 ∧ A4.next + 1 ≤ A6.next ∧ IdRow A6 A4.next (leftL (w.take j) id) u2 ∧ ρ 18 = .int .i64 j ∧ ρ 17 = u2 ∧
        ρ 6 = u ∧ ρ 14 = .int .u32 id ∧ ρ 15 = .pointer (some ⟨A3.next, 0, none⟩) ∧ ρ 16 = .pointer (some ⟨A3.next + 1, 0, none⟩)) w.length
      ⟨_, 0, _, rfl, rfl, Nat.zero_le _, o5, by omega, hrw0, rfl, rfl, r6, rfl, rfl, rfl⟩ ?_
    clear r0 r1 r5 r6 r7
    rintro k2 y A6 ⟨ρ, j, u2, rfl, hk2, hj, o6, n6, hrow6, r18, r17, r6, r14, r15, r16⟩
    refine aw_of ?_
    have hlw := View.lenU (e := 23) (Row.view (Row.over hrow4 o6))
    by_cases hjend : j = w.length
    rotate_left
    · have e2 : ((j : Int) < w.length) := by omega
      obtain ⟨y, hy⟩ : ∃ y, w[j]? = some y := ⟨_, List.getElem?_eq_getElem (by omega)⟩
      obtain ⟨yb, yo, y1, y2, y3, ycl, ye, ym, y4, y5⟩ := View.at1 (P := Try.prog) (e := 23) (Row.view (Row.over hrow4 o6)) Try.sz23 (u32E_at' _ j y hy)
      have htk : w.take (j + 1) = w.take j ++ [y] := by rw [List.take_add_one, hy]; rfl
      have hlj : (leftL (w.take j) id).length ≤ 1073741824 := by
        have : (leftL (w.take j) id).length ≤ (w.take j).length := List.length_filter_le _ _
        rw [List.length_take] at this; omega
      by_cases hyid : y = id
      · have hsame : leftL (w.take (j + 1)) id = leftL (w.take j) id := by rw [htk, hyid]; unfold leftL; rw [List.filter_append]; simp
        simp (maxSteps := 1000000) (disch := (first | omega | (simp only [nx_alloc, nx_upd, len_cons, len_nil, List.length_set, List.length_map, List.length_append] <;> omega) | fail)) only [Nat.reduceAdd, Nat.reduceSub, Nat.reduceMul, Nat.reduceLT, Nat.reduceLeDiff, Nat.reduceEqDiff, ↓reduceIte, reduceCtorEq, Int.reduceAdd, Int.reduceSub, Int.reduceMul, Int.reduceLT, Int.reduceLE, Int.reduceEq, Int.reduceNe, Int.reduceToNat, Int.reduceNeg, go_sem, r6, r14, r15, r16, r17, r18, hlw, y3, y4, y5, hyid]
        refine ⟨k2 - 1, by omega, _, j + 1, u2, rfl, by omega, by omega, o6, n6, by rw [hsame]; exact hrow6, ?_, ?_, ?_, ?_, ?_, ?_⟩
        · simp (maxSteps := 1000000) (disch := (first | omega | (simp only [nx_alloc, nx_upd, len_cons, len_nil, List.length_set, List.length_map, List.length_append] <;> omega) | fail)) only [Nat.reduceAdd, Nat.reduceSub, Nat.reduceMul, Nat.reduceLT, Nat.reduceLeDiff, Nat.reduceEqDiff, ↓reduceIte, reduceCtorEq, Int.reduceAdd, Int.reduceSub, Int.reduceMul, Int.reduceLT, Int.reduceLE, Int.reduceEq, Int.reduceNe, Int.reduceToNat, Int.reduceNeg, go_sem]
          rfl
        · simp (maxSteps := 1000000) (disch := (first | omega | (simp only [nx_alloc, nx_upd, len_cons, len_nil, List.length_set, List.length_map, List.length_append] <;> omega) | fail)) only [Nat.reduceAdd, Nat.reduceSub, Nat.reduceMul, Nat.reduceLT, Nat.reduceLeDiff, Nat.reduceEqDiff, ↓reduceIte, reduceCtorEq, Int.reduceAdd, Int.reduceSub, Int.reduceMul, Int.reduceLT, Int.reduceLE, Int.reduceEq, Int.reduceNe, Int.reduceToNat, Int.reduceNeg, go_sem, r17]
        · simp (maxSteps := 1000000) (disch := (first | omega | (simp only [nx_alloc, nx_upd, len_cons, len_nil, List.length_set, List.length_map, List.length_append] <;> omega) | fail)) only [Nat.reduceAdd, Nat.reduceSub, Nat.reduceMul, Nat.reduceLT, Nat.reduceLeDiff, Nat.reduceEqDiff, ↓reduceIte, reduceCtorEq, Int.reduceAdd, Int.reduceSub, Int.reduceMul, Int.reduceLT, Int.reduceLE, Int.reduceEq, Int.reduceNe, Int.reduceToNat, Int.reduceNeg, go_sem, r6]
        · simp (maxSteps := 1000000) (disch := (first | omega | (simp only [nx_alloc, nx_upd, len_cons, len_nil, List.length_set, List.length_map, List.length_append] <;> omega) | fail)) only [Nat.reduceAdd, Nat.reduceSub, Nat.reduceMul, Nat.reduceLT, Nat.reduceLeDiff, Nat.reduceEqDiff, ↓reduceIte, reduceCtorEq, Int.reduceAdd, Int.reduceSub, Int.reduceMul, Int.reduceLT, Int.reduceLE, Int.reduceEq, Int.reduceNe, Int.reduceToNat, Int.reduceNeg, go_sem, r14]
        · simp (maxSteps := 1000000) (disch := (first | omega | (simp only [nx_alloc, nx_upd, len_cons, len_nil, List.length_set, List.length_map, List.length_append] <;> omega) | fail)) only [Nat.reduceAdd, Nat.reduceSub, Nat.reduceMul, Nat.reduceLT, Nat.reduceLeDiff, Nat.reduceEqDiff, ↓reduceIte, reduceCtorEq, Int.reduceAdd, Int.reduceSub, Int.reduceMul, Int.reduceLT, Int.reduceLE, Int.reduceEq, Int.reduceNe, Int.reduceToNat, Int.reduceNeg, go_sem, r15]
        · simp (maxSteps := 1000000) (disch := (first | omega | (simp only [nx_alloc, nx_upd, len_cons, len_nil, List.length_set, List.length_map, List.length_append] <;> omega) | fail)) only [Nat.reduceAdd, Nat.reduceSub, Nat.reduceMul, Nat.reduceLT, Nat.reduceLeDiff, Nat.reduceEqDiff, ↓reduceIte, reduceCtorEq, Int.reduceAdd, Int.reduceSub, Int.reduceMul, Int.reduceLT, Int.reduceLE, Int.reduceEq, Int.reduceNe, Int.reduceToNat, Int.reduceNeg, go_sem, r16]
      · have hsn : leftL (w.take (j + 1)) id = leftL (w.take j) id ++ [y] := by rw [htk]; unfold leftL; rw [List.filter_append]; simp [hyid]
        obtain ⟨u3, A7, hpush, hrow7, n7, hrb7, k7⟩ := id_push hrow6 y (by omega) hlj
        simp (maxSteps := 1000000) (disch := (first | omega | (simp only [nx_alloc, nx_upd, len_cons, len_nil, List.length_set, List.length_map, List.length_append] <;> omega) | fail)) only [Nat.reduceAdd, Nat.reduceSub, Nat.reduceMul, Nat.reduceLT, Nat.reduceLeDiff, Nat.reduceEqDiff, ↓reduceIte, reduceCtorEq, Int.reduceAdd, Int.reduceSub, Int.reduceMul, Int.reduceLT, Int.reduceLE, Int.reduceEq, Int.reduceNe, Int.reduceToNat, Int.reduceNeg, go_sem, r6, r14, r15, r16, r17, r18, hlw, y3, y4, y5, hyid]
        rw [hpush]
        simp (maxSteps := 1000000) (disch := (first | omega | (simp only [nx_alloc, nx_upd, len_cons, len_nil, List.length_set, List.length_map, List.length_append] <;> omega) | fail)) only [Nat.reduceAdd, Nat.reduceSub, Nat.reduceMul, Nat.reduceLT, Nat.reduceLeDiff, Nat.reduceEqDiff, ↓reduceIte, reduceCtorEq, Int.reduceAdd, Int.reduceSub, Int.reduceMul, Int.reduceLT, Int.reduceLE, Int.reduceEq, Int.reduceNe, Int.reduceToNat, Int.reduceNeg, go_sem, r18]
        refine ⟨k2 - 1, by omega, _, j + 1, u3, rfl, by omega, by omega, Row.push_over (by omega) (fun b hb => (Row.rb hrow6 b hb).1) (by omega) k7 o6 (Nat.le_refl _), by omega, by rw [hsn]; exact hrow7, ?_, ?_, ?_, ?_, ?_, ?_⟩
        · simp (maxSteps := 1000000) (disch := (first | omega | (simp only [nx_alloc, nx_upd, len_cons, len_nil, List.length_set, List.length_map, List.length_append] <;> omega) | fail)) only [Nat.reduceAdd, Nat.reduceSub, Nat.reduceMul, Nat.reduceLT, Nat.reduceLeDiff, Nat.reduceEqDiff, ↓reduceIte, reduceCtorEq, Int.reduceAdd, Int.reduceSub, Int.reduceMul, Int.reduceLT, Int.reduceLE, Int.reduceEq, Int.reduceNe, Int.reduceToNat, Int.reduceNeg, go_sem]
          rfl
        · simp (maxSteps := 1000000) (disch := (first | omega | (simp only [nx_alloc, nx_upd, len_cons, len_nil, List.length_set, List.length_map, List.length_append] <;> omega) | fail)) only [Nat.reduceAdd, Nat.reduceSub, Nat.reduceMul, Nat.reduceLT, Nat.reduceLeDiff, Nat.reduceEqDiff, ↓reduceIte, reduceCtorEq, Int.reduceAdd, Int.reduceSub, Int.reduceMul, Int.reduceLT, Int.reduceLE, Int.reduceEq, Int.reduceNe, Int.reduceToNat, Int.reduceNeg, go_sem]
        · simp (maxSteps := 1000000) (disch := (first | omega | (simp only [nx_alloc, nx_upd, len_cons, len_nil, List.length_set, List.length_map, List.length_append] <;> omega) | fail)) only [Nat.reduceAdd, Nat.reduceSub, Nat.reduceMul, Nat.reduceLT, Nat.reduceLeDiff, Nat.reduceEqDiff, ↓reduceIte, reduceCtorEq, Int.reduceAdd, Int.reduceSub, Int.reduceMul, Int.reduceLT, Int.reduceLE, Int.reduceEq, Int.reduceNe, Int.reduceToNat, Int.reduceNeg, go_sem, r6]
        · simp (maxSteps := 1000000) (disch := (first | omega | (simp only [nx_alloc, nx_upd, len_cons, len_nil, List.length_set, List.length_map, List.length_append] <;> omega) | fail)) only [Nat.reduceAdd, Nat.reduceSub, Nat.reduceMul, Nat.reduceLT, Nat.reduceLeDiff, Nat.reduceEqDiff, ↓reduceIte, reduceCtorEq, Int.reduceAdd, Int.reduceSub, Int.reduceMul, Int.reduceLT, Int.reduceLE, Int.reduceEq, Int.reduceNe, Int.reduceToNat, Int.reduceNeg, go_sem, r14]
        · simp (maxSteps := 1000000) (disch := (first | omega | (simp only [nx_alloc, nx_upd, len_cons, len_nil, List.length_set, List.length_map, List.length_append] <;> omega) | fail)) only [Nat.reduceAdd, Nat.reduceSub, Nat.reduceMul, Nat.reduceLT, Nat.reduceLeDiff, Nat.reduceEqDiff, ↓reduceIte, reduceCtorEq, Int.reduceAdd, Int.reduceSub, Int.reduceMul, Int.reduceLT, Int.reduceLE, Int.reduceEq, Int.reduceNe, Int.reduceToNat, Int.reduceNeg, go_sem, r15]
        · simp (maxSteps := 1000000) (disch := (first | omega | (simp only [nx_alloc, nx_upd, len_cons, len_nil, List.length_set, List.length_map, List.length_append] <;> omega) | fail)) only [Nat.reduceAdd, Nat.reduceSub, Nat.reduceMul, Nat.reduceLT, Nat.reduceLeDiff, Nat.reduceEqDiff, ↓reduceIte, reduceCtorEq, Int.reduceAdd, Int.reduceSub, Int.reduceMul, Int.reduceLT, Int.reduceLE, Int.reduceEq, Int.reduceNe, Int.reduceToNat, Int.reduceNeg, go_sem, r16]
    have e2 : ¬ ((j : Int) < w.length) := by omega
    rw [hjend, List.take_length] at hrow6
    obtain ⟨left, hleft⟩ : ∃ x, x = leftL w id := ⟨_, rfl⟩
    have hlrng : ∀ y ∈ left, 0 ≤ y ∧ y < 12 := fun y hy => hrng y (by rw [hleft] at hy; exact (List.mem_filter.1 hy).1)
    have hnotin : id ∉ left := hleft ▸ left_mem
    have hlt : (left.length : Int) < w.length ↔ id ∈ w := by rw [hleft, Int.ofNat_lt]; exact left_lt
    rw [← hleft] at hrow6 hv24 hle
    have hv26 : VsV A6 (vI left) v2 := hv24.ge o6.ge
    have g15'' : A6.get A3.next = _ := (o6.get _ (by omega)).trans g15
    have hdo1 := do_ok w0 A6 [] (fun b hb => by cases hb) (vI left) v2 [.int .u32 0, .int .u32 0, .int .u32 0, .int .i64 0, .slice none 0 0, .int .u32 0, .slice none 0 0, .slice none 0 0, .slice none 0 0, .int .i64 0, .slice none 0 0, .int .u32 0, .slice none 0 0, .slice none 0 0, .slice none 0 0, .int .i64 0, .slice none 0 0, .int .u32 0, .slice none 0 0, .slice none 0 0, .slice none 0 0] ⟨4, 0, verN⟩ _ hv26 ⟨_, rfl, verN_c _⟩ (by rw [vI_len]; omega) rfl rfl ⟨by decide, by decide⟩ verN_small
    unfold DoPost at hdo1
    rw [doL_list] at hdo1
    simp (maxSteps := 1000000) (disch := (first | omega | (simp only [nx_alloc, nx_upd, len_cons, len_nil, List.length_set, List.length_map, List.length_append] <;> omega) | fail)) only [Nat.reduceAdd, Nat.reduceSub, Nat.reduceMul, Nat.reduceLT, Nat.reduceLeDiff, Nat.reduceEqDiff, ↓reduceIte, reduceCtorEq, Int.reduceAdd, Int.reduceSub, Int.reduceMul, Int.reduceLT, Int.reduceLE, Int.reduceEq, Int.reduceNe, Int.reduceToNat, Int.reduceNeg, go_sem, r6, r15, r18, hlw, g15'']
    refine hdo1.mono ?_
    rintro _ A7 ⟨v3, rc3, rfl, o7, hv3, hr3⟩
    change VsV A7 _ _ at hv3
    change RepC A7 _ _ at hr3
    have n7 := o7.next
    have hcx3 : (v3 :: [.int .u32 0, .int .u32 0, .int .u32 0, .int .i64 0, .slice none 0 0, .int .u32 0, .slice none 0 0, .slice none 0 0, .slice none 0 0, .int .i64 0, .slice none 0 0, .int .u32 0, .slice none 0 0, .slice none 0 0, .slice none 0 0, .int .i64 0, .slice none 0 0, .int .u32 0, .slice none 0 0, .slice none 0 0, .slice none 0 0]).length = 22 ∧ (v3 :: [.int .u32 0, .int .u32 0, .int .u32 0, .int .i64 0, .slice none 0 0, .int .u32 0, .slice none 0 0, .slice none 0 0, .slice none 0 0, .int .i64 0, .slice none 0 0, .int .u32 0, .slice none 0 0, .slice none 0 0, .slice none 0 0, .int .i64 0, .slice none 0 0, .int .u32 0, .slice none 0 0, .slice none 0 0, .slice none 0 0]).all cell1 = true := ⟨rfl, by obtain ⟨_, _, rfl⟩ := hv3.sl; rfl⟩
    obtain ⟨C2, A8, st9, gC2, st10, o8, n8, g19, g20⟩ := two_st A7 hcx3 hr3.len hr3.cell
    have o68 := o7.trans o8
    have g15c : A8.get A3.next = _ := (o68.get _ (by omega)).trans g15''
    have hdo2 := do_ok w0 A8 [] (fun b hb => by cases hb) (vI left) v2 [.int .u32 0, .int .u32 0, .int .u32 0, .int .i64 0, .slice none 0 0, .int .u32 0, .slice none 0 0, .slice none 0 0, .slice none 0 0, .int .i64 0, .slice none 0 0, .int .u32 0, .slice none 0 0, .slice none 0 0, .slice none 0 0, .int .i64 0, .slice none 0 0, .int .u32 0, .slice none 0 0, .slice none 0 0, .slice none 0 0] ⟨5, id, verN⟩ _ (hv26.ge o68.ge) ⟨_, rfl, verN_c _⟩ (by rw [vI_len]; omega) rfl rfl ⟨hr1, by simp only; omega⟩ verN_small
    unfold DoPost at hdo2
    rw [doL_gone hnotin] at hdo2
    simp (maxSteps := 1000000) (disch := (first | omega | (simp only [nx_alloc, nx_upd, len_cons, len_nil, List.length_set, List.length_map, List.length_append] <;> omega) | fail)) only [Nat.reduceAdd, Nat.reduceSub, Nat.reduceMul, Nat.reduceLT, Nat.reduceLeDiff, Nat.reduceEqDiff, ↓reduceIte, reduceCtorEq, Int.reduceAdd, Int.reduceSub, Int.reduceMul, Int.reduceLT, Int.reduceLE, Int.reduceEq, Int.reduceNe, Int.reduceToNat, Int.reduceNeg, go_sem, st9, gC2, st10, r14, r15, g15c]
    refine hdo2.mono ?_
    rintro _ A9 ⟨v4, rc4, rfl, o9, hv4, hr4⟩
    change VsV A9 _ _ at hv4
    have n9 := o9.next
    have hcx4 : (v4 :: [.int .u32 0, .int .u32 0, .int .u32 0, .int .i64 0, .slice none 0 0, .int .u32 0, .slice none 0 0, .slice none 0 0, .slice none 0 0, .int .i64 0, .slice none 0 0, .int .u32 0, .slice none 0 0, .slice none 0 0, .slice none 0 0, .int .i64 0, .slice none 0 0, .int .u32 0, .slice none 0 0, .slice none 0 0, .slice none 0 0]).length = 22 ∧ (v4 :: [.int .u32 0, .int .u32 0, .int .u32 0, .int .i64 0, .slice none 0 0, .int .u32 0, .slice none 0 0, .slice none 0 0, .slice none 0 0, .int .i64 0, .slice none 0 0, .int .u32 0, .slice none 0 0, .slice none 0 0, .slice none 0 0, .int .i64 0, .slice none 0 0, .int .u32 0, .slice none 0 0, .slice none 0 0, .slice none 0 0]).all cell1 = true := ⟨rfl, by obtain ⟨_, _, rfl⟩ := hv4.sl; rfl⟩
    obtain ⟨C3, A10, st11, gC3, st12, o10, n10, g21, g22⟩ := two_st A9 hcx4 hr4.len hr4.cell
    have o810 := o9.trans o10
    have q20 : A10.get (A7.next + 1) = _ := (o810.get _ (by omega)).trans g20
    have q16 : A10.get (A3.next + 1) = _ := ((o68.trans o810).get _ (by omega)).trans ((o6.get _ (by omega)).trans g16)
    have q15 : A10.get A3.next = _ := (o810.get _ (by omega)).trans g15c
    have hrow10 : IdRow A10 A4.next left u2 := Row.over hrow6 (o68.trans o810)
    have hlu2 := View.lenU (e := 23) (Row.view hrow10)
    have hlw10 := View.lenU (e := 23) (Row.view (Row.over hrow4 (o6.trans (o68.trans o810))))
    obtain ⟨rw3, rvs3, rfl, hid3, _⟩ := hr3
    obtain ⟨rw4, rvs4, rfl, _, _⟩ := hr4
    have hid10 : IdView A10 left rw3 := View.over hid3 (o8.trans o810)
    have hlid := View.lenU (e := 23) hid10
    have hv210 : VsV A10 (vI left) v2 := hv26.ge (o68.trans o810).ge
    have o010 : Over A A10 := o04.trans (o6.trans (o68.trans o810))
    have hE3 : (errR 3).e = 3 := rfl
    have hEE : (errR (if id ∈ w then 0 else 3)).e = if id ∈ w then 0 else 3 := rfl
    rw [hE3] at g22
    rw [hEE] at q16
    have hbeq : (decide ((if id ∈ w then (0 : Int) else 3) = 0)) = decide ((left.length : Int) < w.length) := by
      by_cases hm : id ∈ w
      · rw [if_pos hm, decide_eq_true (hlt.2 hm)]; rfl
      · rw [if_neg hm, decide_eq_false (fun h => hm (hlt.1 h))]; rfl
    have hlen3 : (left.length : Int) = left.length := rfl
    simp (maxSteps := 1000000) (disch := (first | omega | (simp only [nx_alloc, nx_upd, len_cons, len_nil, List.length_set, List.length_map, List.length_append] <;> omega) | fail)) only [Nat.reduceAdd, Nat.reduceSub, Nat.reduceMul, Nat.reduceLT, Nat.reduceLeDiff, Nat.reduceEqDiff, ↓reduceIte, reduceCtorEq, Int.reduceAdd, Int.reduceSub, Int.reduceMul, Int.reduceLT, Int.reduceLE, Int.reduceEq, Int.reduceNe, Int.reduceToNat, Int.reduceNeg, go_sem, st11, gC3, st12, r16, r17, r6, q20, q16, g22, hlid, hlu2, hlw10, hbeq]
    obtain ⟨b15, hb15⟩ : ∃ b, b = A3.next := ⟨_, rfl⟩
    obtain ⟨b20, hb20⟩ : ∃ b, b = A7.next + 1 := ⟨_, rfl⟩
    rw [← hb15] at q15 r15
    rw [← hb20] at q20
    rw [← hb20]
    have hb15' : b15 < A10.next := by omega
    have hb20' : b20 < A10.next := by omega
    clear st11 gC3 st12 st9 gC2 st10 hb15 hb20
    refine aw_loop (fun k2 y A' => ∃ (ρ : Nat → Value) (j : Nat), y = E 190 ρ [] ∧ k2 = left.length - j ∧ j ≤ left.length ∧ Over A10 A' ∧ ρ 14 = .int .u32 id ∧ ρ 15 = .pointer (some ⟨b15, 0, none⟩) ∧ ρ 17 = u2 ∧ ρ 20 = .pointer (some ⟨b20, 0, none⟩) ∧ ρ 23 = .int .i64 j) left.length
      ⟨_, 0, rfl, rfl, Nat.zero_le _, Over.refl _, r14, r15, r17, rfl, rfl⟩ ?_
    clear r6 r14 r15 r16 r17 r18
    rintro k2 y A' ⟨ρ, j, rfl, hk2, hj2, oI, t14, t15, t17, t20, t23⟩
    refine aw_of ?_
    have hlj := View.lenU (e := 23) (Row.view (Row.over hrow10 oI))
    by_cases hjend2 : j = left.length
    · have e3 : ¬ ((j : Int) < left.length) := by omega
      simp (maxSteps := 1000000) (disch := (first | omega | (simp only [nx_alloc, nx_upd, len_cons, len_nil, List.length_set, List.length_map, List.length_append] <;> omega) | fail)) only [Nat.reduceAdd, Nat.reduceSub, Nat.reduceMul, Nat.reduceLT, Nat.reduceLeDiff, Nat.reduceEqDiff, ↓reduceIte, reduceCtorEq, Int.reduceAdd, Int.reduceSub, Int.reduceMul, Int.reduceLT, Int.reduceLE, Int.reduceEq, Int.reduceNe, Int.reduceToNat, Int.reduceNeg, go_sem, t17, t23, hlj, Try.results5]
      exact gc_fin' hw (o010.trans oI) rfl (.bool _)
    have e3 : ((j : Int) < left.length) := by omega
    obtain ⟨y, hy⟩ : ∃ y, left[j]? = some y := ⟨_, List.getElem?_eq_getElem (by omega)⟩
    have hymem := List.mem_of_getElem? hy
    have hy1 := (hlrng y hymem).1
    have hy2 : y < 4294967296 := by have := (hlrng y hymem).2; omega
    obtain ⟨pb, po, s1, s2, s3, cells, e', md, s4, s5⟩ := View.at1 (P := Try.prog) (e := 23) (Row.view (Row.over hrow10 oI)) Try.sz23 (u32E_at' _ j y hy)
    have hV2 : VsV (A'.hide []) (vI left) v2 := hv210.ge oI.ge
    have q15' : A'.get b15 = _ := (oI.get _ (by omega)).trans q15
    have q20' : A'.get b20 = _ := (oI.get _ (by omega)).trans q20
    have hbn : b15 < A'.next := by have := oI.next; omega
    have hbn2 : b20 < A'.next := by have := oI.next; omega
    simp (maxSteps := 1000000) (disch := (first | omega | (simp only [nx_alloc, nx_upd, len_cons, len_nil, List.length_set, List.length_map, List.length_append] <;> omega) | fail)) only [Nat.reduceAdd, Nat.reduceSub, Nat.reduceMul, Nat.reduceLT, Nat.reduceLeDiff, Nat.reduceEqDiff, ↓reduceIte, reduceCtorEq, Int.reduceAdd, Int.reduceSub, Int.reduceMul, Int.reduceLT, Int.reduceLE, Int.reduceEq, Int.reduceNe, Int.reduceToNat, Int.reduceNeg, go_sem, t17, t23, hlj]
    refine AW.mono (Q := fun e a A11 => e = .normal ∧ ∃ ρ' b25 rc', a = E 190 ρ' [] ∧ ρ' 14 = .int .u32 id ∧ ρ' 15 = .pointer (some ⟨b15, 0, none⟩) ∧ ρ' 17 = u2 ∧ ρ' 20 = .pointer (some ⟨b20, 0, none⟩) ∧ ρ' 23 = .int .i64 j ∧ ρ' 25 = .pointer (some ⟨b25, 0, none⟩) ∧ A'.next ≤ A11.next ∧ (∀ b, b < A'.next → A11.get b = A'.get b) ∧ A11.get b25 = some (.cells rc' 40 (some 0)) ∧ RepC A11 ⟨0, [], ⟨y, [], [], []⟩⟩ rc') ?_ ?_
    · refine aw_drawS (by kernel_rfl) ?_
      refine Ords.split 6 10 rfl ?_ ?_
      · refine Ords.split 6 11 rfl ?_ ?_
        · refine Ords.split 10 11 rfl ?_ ?_
          · have oD : Over A' A' := Over.refl _
            have nD : A'.next = A'.next + 0 := rfl
            have gD : Ge (A'.hide ([])) (A'.hide ([])) := Ge.refl _
            have hap := do_ok w0 A' ([]) (fun b hb => by first | (cases hb; done) | (simp only [List.mem_cons, List.not_mem_nil, or_false] at hb; omega)) (vI left) v2 [.int .u32 0, .int .u32 0, .int .u32 0, .int .i64 0, .slice none 0 0, .int .u32 0, .slice none 0 0, .slice none 0 0, .slice none 0 0, .int .i64 0, .slice none 0 0, .int .u32 0, .slice none 0 0, .slice none 0 0, .slice none 0 0, .int .i64 0, .slice none 0 0, .int .u32 0, .slice none 0 0, .slice none 0 0, .slice none 0 0] ⟨5, y, verN⟩ [.int .i64 5, .int .u32 y, .int .u32 0, .slice none 0 0, .slice none 0 0, .slice none 0 0] (hV2.ge gD) ⟨_, rfl, verN_c _⟩ (by rw [vI_len]; omega) rfl rfl ⟨hy1, hy2⟩ verN_small; unfold DoPost at hap; rw [doL_got hymem] at hap
            refine Ords.cut [0, 1, 2, 3, 4, 5] [7, 8, 9, 10, 11, 12, 13] 6 (by kernel_rfl) ?_
            refine Ords.run [⟨false, [], [0]⟩, ⟨false, [], [0]⟩, ⟨false, [], [0]⟩, ⟨false, [1, 2], [0]⟩, ⟨false, [3, 1, 2], [0]⟩, ⟨false, [4, 3, 1, 2], [0]⟩] [A'] 0 (by kernel_rfl) (by kernel_rfl) rfl ?_
            simp (maxSteps := 1000000) (disch := (first | omega | (simp only [nx_alloc, nx_upd, len_cons, len_nil, List.length_set, List.length_map, List.length_append] <;> omega) | fail)) only [Nat.reduceAdd, Nat.reduceSub, Nat.reduceMul, Nat.reduceLT, Nat.reduceLeDiff, Nat.reduceEqDiff, ↓reduceIte, reduceCtorEq, Int.reduceAdd, Int.reduceSub, Int.reduceMul, Int.reduceLT, Int.reduceLE, Int.reduceEq, Int.reduceNe, Int.reduceToNat, Int.reduceNeg, go_sem, subOps_toList, getD_arr0, getD_arrS, reO_mk, reO_mkG, ixOf, Option.bind_none, Option.map_none, thenN_normal, after_ret, t15, t17, t23, q15', s3, s4, s5]
            refine hap.mono ?_
            rintro _ A2 ⟨v', rc', rfl, o2, hv2, hr2⟩
            have n2 := o2.next
            have hxl : (v' :: [.int .u32 0, .int .u32 0, .int .u32 0, .int .i64 0, .slice none 0 0, .int .u32 0, .slice none 0 0, .slice none 0 0, .slice none 0 0, .int .i64 0, .slice none 0 0, .int .u32 0, .slice none 0 0, .slice none 0 0, .slice none 0 0, .int .i64 0, .slice none 0 0, .int .u32 0, .slice none 0 0, .slice none 0 0, .slice none 0 0]).length = 22 := rfl
            have hxc : (v' :: [.int .u32 0, .int .u32 0, .int .u32 0, .int .i64 0, .slice none 0 0, .int .u32 0, .slice none 0 0, .slice none 0 0, .slice none 0 0, .int .i64 0, .slice none 0 0, .int .u32 0, .slice none 0 0, .slice none 0 0, .slice none 0 0, .int .i64 0, .slice none 0 0, .int .u32 0, .slice none 0 0, .slice none 0 0, .slice none 0 0]).all cell1 = true := by obtain ⟨_, _, rfl⟩ := hv2.sl; rfl
            have hyl := hr2.len
            have hyc := hr2.cell
            obtain ⟨G1, hG1⟩ : ∃ G, G = A2.alloc (.cells [.slice none 0 0, .int .u32 0, .int .u32 0, .int .u32 0, .int .i64 0, .slice none 0 0, .int .u32 0, .slice none 0 0, .slice none 0 0, .slice none 0 0, .int .i64 0, .slice none 0 0, .int .u32 0, .slice none 0 0, .slice none 0 0, .slice none 0 0, .int .i64 0, .slice none 0 0, .int .u32 0, .slice none 0 0, .slice none 0 0, .slice none 0 0] 43 (some 0)) := ⟨_, rfl⟩
            have oT1 : Over A2 G1 := hG1 ▸ (Over.refl _).alloc _
            have nG1 : G1.next = A2.next + 1 := by rw [hG1, nx_alloc]
            obtain ⟨G2, hG2⟩ : ∃ G, G = G1.alloc (.cells [.int .i64 0, .slice none 0 0, .int .u32 0, .slice none 0 0, .slice none 0 0, .slice none 0 0] 40 (some 0)) := ⟨_, rfl⟩
            have oT2 : Over G1 G2 := hG2 ▸ (Over.refl _).alloc _
            have nG2 : G2.next = A2.next + 2 := by rw [hG2, nx_alloc, nG1]
            obtain ⟨G, hGG⟩ : ∃ G, G = G2 := ⟨_, rfl⟩
            have oG : Over A2 G := hGG ▸ oT1.trans oT2
            have nG : G.next = A2.next + 2 := hGG ▸ nG2
            have gx : G.get A2.next = some (.cells [.slice none 0 0, .int .u32 0, .int .u32 0, .int .u32 0, .int .i64 0, .slice none 0 0, .int .u32 0, .slice none 0 0, .slice none 0 0, .slice none 0 0, .int .i64 0, .slice none 0 0, .int .u32 0, .slice none 0 0, .slice none 0 0, .slice none 0 0, .int .i64 0, .slice none 0 0, .int .u32 0, .slice none 0 0, .slice none 0 0, .slice none 0 0] 43 (some 0)) := by rw [hGG]; rw [oT2.get _ (by omega)]; rw [hG1]; exact get_alloc_same ..
            have gy : G.get (A2.next + 1) = some (.cells [.int .i64 0, .slice none 0 0, .int .u32 0, .slice none 0 0, .slice none 0 0, .slice none 0 0] 40 (some 0)) := by rw [hGG]; rw [hG2, show A2.next + 1 = G1.next by omega]; exact get_alloc_same ..
            have st1 := stN (n := 22) (X := G) (b := A2.next) (z := [.slice none 0 0, .int .u32 0, .int .u32 0, .int .u32 0, .int .i64 0, .slice none 0 0, .int .u32 0, .slice none 0 0, .slice none 0 0, .slice none 0 0, .int .i64 0, .slice none 0 0, .int .u32 0, .slice none 0 0, .slice none 0 0, .slice none 0 0, .int .i64 0, .slice none 0 0, .int .u32 0, .slice none 0 0, .slice none 0 0, .slice none 0 0]) (e := 43) rfl hxl hxc
            have st2 := stN (n := 6) (X := G.upd A2.next (some (.cells (v' :: [.int .u32 0, .int .u32 0, .int .u32 0, .int .i64 0, .slice none 0 0, .int .u32 0, .slice none 0 0, .slice none 0 0, .slice none 0 0, .int .i64 0, .slice none 0 0, .int .u32 0, .slice none 0 0, .slice none 0 0, .slice none 0 0, .int .i64 0, .slice none 0 0, .int .u32 0, .slice none 0 0, .slice none 0 0, .slice none 0 0]) 43 (some 0)))) (b := (A2.next + 1)) (z := [.int .i64 0, .slice none 0 0, .int .u32 0, .slice none 0 0, .slice none 0 0, .slice none 0 0]) (e := 40) rfl hyl hyc
            have gy2 : (G.upd A2.next (some (.cells (v' :: [.int .u32 0, .int .u32 0, .int .u32 0, .int .i64 0, .slice none 0 0, .int .u32 0, .slice none 0 0, .slice none 0 0, .slice none 0 0, .int .i64 0, .slice none 0 0, .int .u32 0, .slice none 0 0, .slice none 0 0, .slice none 0 0, .int .i64 0, .slice none 0 0, .int .u32 0, .slice none 0 0, .slice none 0 0, .slice none 0 0]) 43 (some 0)))).get (A2.next + 1) = some (.cells [.int .i64 0, .slice none 0 0, .int .u32 0, .slice none 0 0, .slice none 0 0, .slice none 0 0] 40 (some 0)) := by rw [St.get_upd, if_neg (by omega)]; exact gy
            rw [hGG] at gx gy gy2 st1 st2 oG nG
            simp (maxSteps := 1000000) (disch := (first | omega | (simp only [nx_alloc, nx_upd, len_cons, len_nil, List.length_set, List.length_map, List.length_append] <;> omega) | fail)) only [Nat.reduceAdd, Nat.reduceSub, Nat.reduceMul, Nat.reduceLT, Nat.reduceLeDiff, Nat.reduceEqDiff, ↓reduceIte, reduceCtorEq, Int.reduceAdd, Int.reduceSub, Int.reduceMul, Int.reduceLT, Int.reduceLE, Int.reduceEq, Int.reduceNe, Int.reduceToNat, Int.reduceNeg, go_sem]
            refine Ords.run [⟨false, [], [0, 1, 2]⟩, ⟨false, [0], [0, 1, 2]⟩, ⟨false, [0], [0, 1, 2, 3]⟩, ⟨true, [], [0]⟩, ⟨true, [3], [1]⟩, ⟨true, [3, 1, 0, 4], [2]⟩, ⟨true, [4, 2, 5, 0, 1, 3], [3]⟩] [A2, G1, G2, G2.upd A2.next (some (.cells (v' :: [.int .u32 0, .int .u32 0, .int .u32 0, .int .i64 0, .slice none 0 0, .int .u32 0, .slice none 0 0, .slice none 0 0, .slice none 0 0, .int .i64 0, .slice none 0 0, .int .u32 0, .slice none 0 0, .slice none 0 0, .slice none 0 0, .int .i64 0, .slice none 0 0, .int .u32 0, .slice none 0 0, .slice none 0 0, .slice none 0 0]) 43 (some 0))), (G2.upd A2.next (some (.cells (v' :: [.int .u32 0, .int .u32 0, .int .u32 0, .int .i64 0, .slice none 0 0, .int .u32 0, .slice none 0 0, .slice none 0 0, .slice none 0 0, .int .i64 0, .slice none 0 0, .int .u32 0, .slice none 0 0, .slice none 0 0, .slice none 0 0, .int .i64 0, .slice none 0 0, .int .u32 0, .slice none 0 0, .slice none 0 0, .slice none 0 0]) 43 (some 0)))).upd (A2.next + 1) (some (.cells rc' 40 (some 0)))] 4 (by kernel_rfl) (by kernel_rfl) rfl ?_
            simp (maxSteps := 1000000) (disch := (first | omega | (simp only [nx_alloc, nx_upd, len_cons, len_nil, List.length_set, List.length_map, List.length_append] <;> omega) | fail)) only [Nat.reduceAdd, Nat.reduceSub, Nat.reduceMul, Nat.reduceLT, Nat.reduceLeDiff, Nat.reduceEqDiff, ↓reduceIte, reduceCtorEq, Int.reduceAdd, Int.reduceSub, Int.reduceMul, Int.reduceLT, Int.reduceLE, Int.reduceEq, Int.reduceNe, Int.reduceToNat, Int.reduceNeg, go_sem, subOps_toList, getD_arr0, getD_arrS, reO_mk, reO_mkG, ixOf, Option.bind_none, Option.map_none, thenN_normal, after_ret, gx, gy, gy2, st1, st2, nG1, nG2, ← hG1, ← hG2]
            have oE : Over A' ((G2.upd A2.next (some (.cells (v' :: [.int .u32 0, .int .u32 0, .int .u32 0, .int .i64 0, .slice none 0 0, .int .u32 0, .slice none 0 0, .slice none 0 0, .slice none 0 0, .int .i64 0, .slice none 0 0, .int .u32 0, .slice none 0 0, .slice none 0 0, .slice none 0 0, .int .i64 0, .slice none 0 0, .int .u32 0, .slice none 0 0, .slice none 0 0, .slice none 0 0]) 43 (some 0)))).upd (A2.next + 1) (some (.cells rc' 40 (some 0)))) := by refine ⟨by (try simp only [nx_upd]); omega, fun b hb => ?_⟩; rw [St.get_upd, if_neg (by omega), St.get_upd, if_neg (by omega), oG.get b (by omega), o2.get b (by omega), oD.get b hb]
            have gE : Ge (A2.hide ([])) (((G2.upd A2.next (some (.cells (v' :: [.int .u32 0, .int .u32 0, .int .u32 0, .int .i64 0, .slice none 0 0, .int .u32 0, .slice none 0 0, .slice none 0 0, .slice none 0 0, .int .i64 0, .slice none 0 0, .int .u32 0, .slice none 0 0, .slice none 0 0, .slice none 0 0, .int .i64 0, .slice none 0 0, .int .u32 0, .slice none 0 0, .slice none 0 0, .slice none 0 0]) 43 (some 0)))).upd (A2.next + 1) (some (.cells rc' 40 (some 0)))).hide ((A2.next + 1) :: A2.next :: [])) := Ge.hide (by (try simp only [nx_upd]); omega) (fun b hb hbL => by
              have e1 : b ≠ A2.next := by omega
              have e2 : b ≠ (A2.next + 1) := by omega
              refine ⟨?_, by rw [St.get_upd, if_neg e2, St.get_upd, if_neg e1, oG.get b hb]⟩
              simp only [List.mem_cons, not_or] at hbL ⊢
              exact ⟨e2, e1, hbL⟩)
            refine ⟨_, (A2.next + 1), rc', rfl, ?_, ?_, ?_, ?_, ?_, ?_, ?_, ?_, get_upd_same .., (hr2.ge gE).ge (hide_ge _ _)⟩
            · simp (maxSteps := 1000000) (disch := (first | omega | (simp only [nx_alloc, nx_upd, len_cons, len_nil, List.length_set, List.length_map, List.length_append] <;> omega) | fail)) only [Nat.reduceAdd, Nat.reduceSub, Nat.reduceMul, Nat.reduceLT, Nat.reduceLeDiff, Nat.reduceEqDiff, ↓reduceIte, reduceCtorEq, Int.reduceAdd, Int.reduceSub, Int.reduceMul, Int.reduceLT, Int.reduceLE, Int.reduceEq, Int.reduceNe, Int.reduceToNat, Int.reduceNeg, go_sem, t14]
            · simp (maxSteps := 1000000) (disch := (first | omega | (simp only [nx_alloc, nx_upd, len_cons, len_nil, List.length_set, List.length_map, List.length_append] <;> omega) | fail)) only [Nat.reduceAdd, Nat.reduceSub, Nat.reduceMul, Nat.reduceLT, Nat.reduceLeDiff, Nat.reduceEqDiff, ↓reduceIte, reduceCtorEq, Int.reduceAdd, Int.reduceSub, Int.reduceMul, Int.reduceLT, Int.reduceLE, Int.reduceEq, Int.reduceNe, Int.reduceToNat, Int.reduceNeg, go_sem, t15]
            · simp (maxSteps := 1000000) (disch := (first | omega | (simp only [nx_alloc, nx_upd, len_cons, len_nil, List.length_set, List.length_map, List.length_append] <;> omega) | fail)) only [Nat.reduceAdd, Nat.reduceSub, Nat.reduceMul, Nat.reduceLT, Nat.reduceLeDiff, Nat.reduceEqDiff, ↓reduceIte, reduceCtorEq, Int.reduceAdd, Int.reduceSub, Int.reduceMul, Int.reduceLT, Int.reduceLE, Int.reduceEq, Int.reduceNe, Int.reduceToNat, Int.reduceNeg, go_sem, t17]
            · simp (maxSteps := 1000000) (disch := (first | omega | (simp only [nx_alloc, nx_upd, len_cons, len_nil, List.length_set, List.length_map, List.length_append] <;> omega) | fail)) only [Nat.reduceAdd, Nat.reduceSub, Nat.reduceMul, Nat.reduceLT, Nat.reduceLeDiff, Nat.reduceEqDiff, ↓reduceIte, reduceCtorEq, Int.reduceAdd, Int.reduceSub, Int.reduceMul, Int.reduceLT, Int.reduceLE, Int.reduceEq, Int.reduceNe, Int.reduceToNat, Int.reduceNeg, go_sem, t20]
            · simp (maxSteps := 1000000) (disch := (first | omega | (simp only [nx_alloc, nx_upd, len_cons, len_nil, List.length_set, List.length_map, List.length_append] <;> omega) | fail)) only [Nat.reduceAdd, Nat.reduceSub, Nat.reduceMul, Nat.reduceLT, Nat.reduceLeDiff, Nat.reduceEqDiff, ↓reduceIte, reduceCtorEq, Int.reduceAdd, Int.reduceSub, Int.reduceMul, Int.reduceLT, Int.reduceLE, Int.reduceEq, Int.reduceNe, Int.reduceToNat, Int.reduceNeg, go_sem, t23]
            · simp (maxSteps := 1000000) (disch := (first | omega | (simp only [nx_alloc, nx_upd, len_cons, len_nil, List.length_set, List.length_map, List.length_append] <;> omega) | fail)) only [Nat.reduceAdd, Nat.reduceSub, Nat.reduceMul, Nat.reduceLT, Nat.reduceLeDiff, Nat.reduceEqDiff, ↓reduceIte, reduceCtorEq, Int.reduceAdd, Int.reduceSub, Int.reduceMul, Int.reduceLT, Int.reduceLE, Int.reduceEq, Int.reduceNe, Int.reduceToNat, Int.reduceNeg, go_sem]
            · (try simp only [nx_upd]); omega
            · exact oE.get
          · have oD : Over A' A' := Over.refl _
            have nD : A'.next = A'.next + 0 := rfl
            have gD : Ge (A'.hide ([])) (A'.hide ([])) := Ge.refl _
            have hap := do_ok w0 A' ([]) (fun b hb => by first | (cases hb; done) | (simp only [List.mem_cons, List.not_mem_nil, or_false] at hb; omega)) (vI left) v2 [.int .u32 0, .int .u32 0, .int .u32 0, .int .i64 0, .slice none 0 0, .int .u32 0, .slice none 0 0, .slice none 0 0, .slice none 0 0, .int .i64 0, .slice none 0 0, .int .u32 0, .slice none 0 0, .slice none 0 0, .slice none 0 0, .int .i64 0, .slice none 0 0, .int .u32 0, .slice none 0 0, .slice none 0 0, .slice none 0 0] ⟨5, y, verN⟩ [.int .i64 5, .int .u32 y, .int .u32 0, .slice none 0 0, .slice none 0 0, .slice none 0 0] (hV2.ge gD) ⟨_, rfl, verN_c _⟩ (by rw [vI_len]; omega) rfl rfl ⟨hy1, hy2⟩ verN_small; unfold DoPost at hap; rw [doL_got hymem] at hap
            refine Ords.cut [0, 1, 2, 3, 4, 5] [7, 8, 9, 10, 11, 12, 13] 6 (by kernel_rfl) ?_
            refine Ords.run [⟨false, [], [0]⟩, ⟨false, [], [0]⟩, ⟨false, [], [0]⟩, ⟨false, [1, 2], [0]⟩, ⟨false, [3, 1, 2], [0]⟩, ⟨false, [4, 3, 1, 2], [0]⟩] [A'] 0 (by kernel_rfl) (by kernel_rfl) rfl ?_
            simp (maxSteps := 1000000) (disch := (first | omega | (simp only [nx_alloc, nx_upd, len_cons, len_nil, List.length_set, List.length_map, List.length_append] <;> omega) | fail)) only [Nat.reduceAdd, Nat.reduceSub, Nat.reduceMul, Nat.reduceLT, Nat.reduceLeDiff, Nat.reduceEqDiff, ↓reduceIte, reduceCtorEq, Int.reduceAdd, Int.reduceSub, Int.reduceMul, Int.reduceLT, Int.reduceLE, Int.reduceEq, Int.reduceNe, Int.reduceToNat, Int.reduceNeg, go_sem, subOps_toList, getD_arr0, getD_arrS, reO_mk, reO_mkG, ixOf, Option.bind_none, Option.map_none, thenN_normal, after_ret, t15, t17, t23, q15', s3, s4, s5]
            refine hap.mono ?_
            rintro _ A2 ⟨v', rc', rfl, o2, hv2, hr2⟩
            have n2 := o2.next
            have hxl : (v' :: [.int .u32 0, .int .u32 0, .int .u32 0, .int .i64 0, .slice none 0 0, .int .u32 0, .slice none 0 0, .slice none 0 0, .slice none 0 0, .int .i64 0, .slice none 0 0, .int .u32 0, .slice none 0 0, .slice none 0 0, .slice none 0 0, .int .i64 0, .slice none 0 0, .int .u32 0, .slice none 0 0, .slice none 0 0, .slice none 0 0]).length = 22 := rfl
            have hxc : (v' :: [.int .u32 0, .int .u32 0, .int .u32 0, .int .i64 0, .slice none 0 0, .int .u32 0, .slice none 0 0, .slice none 0 0, .slice none 0 0, .int .i64 0, .slice none 0 0, .int .u32 0, .slice none 0 0, .slice none 0 0, .slice none 0 0, .int .i64 0, .slice none 0 0, .int .u32 0, .slice none 0 0, .slice none 0 0, .slice none 0 0]).all cell1 = true := by obtain ⟨_, _, rfl⟩ := hv2.sl; rfl
            have hyl := hr2.len
            have hyc := hr2.cell
            obtain ⟨G1, hG1⟩ : ∃ G, G = A2.alloc (.cells [.int .i64 0, .slice none 0 0, .int .u32 0, .slice none 0 0, .slice none 0 0, .slice none 0 0] 40 (some 0)) := ⟨_, rfl⟩
            have oT1 : Over A2 G1 := hG1 ▸ (Over.refl _).alloc _
            have nG1 : G1.next = A2.next + 1 := by rw [hG1, nx_alloc]
            obtain ⟨G2, hG2⟩ : ∃ G, G = G1.alloc (.cells [.slice none 0 0, .int .u32 0, .int .u32 0, .int .u32 0, .int .i64 0, .slice none 0 0, .int .u32 0, .slice none 0 0, .slice none 0 0, .slice none 0 0, .int .i64 0, .slice none 0 0, .int .u32 0, .slice none 0 0, .slice none 0 0, .slice none 0 0, .int .i64 0, .slice none 0 0, .int .u32 0, .slice none 0 0, .slice none 0 0, .slice none 0 0] 43 (some 0)) := ⟨_, rfl⟩
            have oT2 : Over G1 G2 := hG2 ▸ (Over.refl _).alloc _
            have nG2 : G2.next = A2.next + 2 := by rw [hG2, nx_alloc, nG1]
            obtain ⟨G, hGG⟩ : ∃ G, G = G2 := ⟨_, rfl⟩
            have oG : Over A2 G := hGG ▸ oT1.trans oT2
            have nG : G.next = A2.next + 2 := hGG ▸ nG2
            have gx : G.get (A2.next + 1) = some (.cells [.slice none 0 0, .int .u32 0, .int .u32 0, .int .u32 0, .int .i64 0, .slice none 0 0, .int .u32 0, .slice none 0 0, .slice none 0 0, .slice none 0 0, .int .i64 0, .slice none 0 0, .int .u32 0, .slice none 0 0, .slice none 0 0, .slice none 0 0, .int .i64 0, .slice none 0 0, .int .u32 0, .slice none 0 0, .slice none 0 0, .slice none 0 0] 43 (some 0)) := by rw [hGG]; rw [hG2, show A2.next + 1 = G1.next by omega]; exact get_alloc_same ..
            have gy : G.get A2.next = some (.cells [.int .i64 0, .slice none 0 0, .int .u32 0, .slice none 0 0, .slice none 0 0, .slice none 0 0] 40 (some 0)) := by rw [hGG]; rw [oT2.get _ (by omega)]; rw [hG1]; exact get_alloc_same ..
            have st1 := stN (n := 22) (X := G) (b := (A2.next + 1)) (z := [.slice none 0 0, .int .u32 0, .int .u32 0, .int .u32 0, .int .i64 0, .slice none 0 0, .int .u32 0, .slice none 0 0, .slice none 0 0, .slice none 0 0, .int .i64 0, .slice none 0 0, .int .u32 0, .slice none 0 0, .slice none 0 0, .slice none 0 0, .int .i64 0, .slice none 0 0, .int .u32 0, .slice none 0 0, .slice none 0 0, .slice none 0 0]) (e := 43) rfl hxl hxc
            have st2 := stN (n := 6) (X := G.upd (A2.next + 1) (some (.cells (v' :: [.int .u32 0, .int .u32 0, .int .u32 0, .int .i64 0, .slice none 0 0, .int .u32 0, .slice none 0 0, .slice none 0 0, .slice none 0 0, .int .i64 0, .slice none 0 0, .int .u32 0, .slice none 0 0, .slice none 0 0, .slice none 0 0, .int .i64 0, .slice none 0 0, .int .u32 0, .slice none 0 0, .slice none 0 0, .slice none 0 0]) 43 (some 0)))) (b := A2.next) (z := [.int .i64 0, .slice none 0 0, .int .u32 0, .slice none 0 0, .slice none 0 0, .slice none 0 0]) (e := 40) rfl hyl hyc
            have gy2 : (G.upd (A2.next + 1) (some (.cells (v' :: [.int .u32 0, .int .u32 0, .int .u32 0, .int .i64 0, .slice none 0 0, .int .u32 0, .slice none 0 0, .slice none 0 0, .slice none 0 0, .int .i64 0, .slice none 0 0, .int .u32 0, .slice none 0 0, .slice none 0 0, .slice none 0 0, .int .i64 0, .slice none 0 0, .int .u32 0, .slice none 0 0, .slice none 0 0, .slice none 0 0]) 43 (some 0)))).get A2.next = some (.cells [.int .i64 0, .slice none 0 0, .int .u32 0, .slice none 0 0, .slice none 0 0, .slice none 0 0] 40 (some 0)) := by rw [St.get_upd, if_neg (by omega)]; exact gy
            rw [hGG] at gx gy gy2 st1 st2 oG nG
            simp (maxSteps := 1000000) (disch := (first | omega | (simp only [nx_alloc, nx_upd, len_cons, len_nil, List.length_set, List.length_map, List.length_append] <;> omega) | fail)) only [Nat.reduceAdd, Nat.reduceSub, Nat.reduceMul, Nat.reduceLT, Nat.reduceLeDiff, Nat.reduceEqDiff, ↓reduceIte, reduceCtorEq, Int.reduceAdd, Int.reduceSub, Int.reduceMul, Int.reduceLT, Int.reduceLE, Int.reduceEq, Int.reduceNe, Int.reduceToNat, Int.reduceNeg, go_sem]
            refine Ords.run [⟨false, [], [0, 1, 2]⟩, ⟨false, [0], [0, 1, 2]⟩, ⟨false, [0], [0, 1, 2, 3]⟩, ⟨true, [4], [1]⟩, ⟨true, [], [0]⟩, ⟨true, [3, 1, 0, 4], [2]⟩, ⟨true, [4, 2, 5, 0, 1, 3], [3]⟩] [A2, G1, G2, G2.upd (A2.next + 1) (some (.cells (v' :: [.int .u32 0, .int .u32 0, .int .u32 0, .int .i64 0, .slice none 0 0, .int .u32 0, .slice none 0 0, .slice none 0 0, .slice none 0 0, .int .i64 0, .slice none 0 0, .int .u32 0, .slice none 0 0, .slice none 0 0, .slice none 0 0, .int .i64 0, .slice none 0 0, .int .u32 0, .slice none 0 0, .slice none 0 0, .slice none 0 0]) 43 (some 0))), (G2.upd (A2.next + 1) (some (.cells (v' :: [.int .u32 0, .int .u32 0, .int .u32 0, .int .i64 0, .slice none 0 0, .int .u32 0, .slice none 0 0, .slice none 0 0, .slice none 0 0, .int .i64 0, .slice none 0 0, .int .u32 0, .slice none 0 0, .slice none 0 0, .slice none 0 0, .int .i64 0, .slice none 0 0, .int .u32 0, .slice none 0 0, .slice none 0 0, .slice none 0 0]) 43 (some 0)))).upd A2.next (some (.cells rc' 40 (some 0)))] 4 (by kernel_rfl) (by kernel_rfl) rfl ?_
            simp (maxSteps := 1000000) (disch := (first | omega | (simp only [nx_alloc, nx_upd, len_cons, len_nil, List.length_set, List.length_map, List.length_append] <;> omega) | fail)) only [Nat.reduceAdd, Nat.reduceSub, Nat.reduceMul, Nat.reduceLT, Nat.reduceLeDiff, Nat.reduceEqDiff, ↓reduceIte, reduceCtorEq, Int.reduceAdd, Int.reduceSub, Int.reduceMul, Int.reduceLT, Int.reduceLE, Int.reduceEq, Int.reduceNe, Int.reduceToNat, Int.reduceNeg, go_sem, subOps_toList, getD_arr0, getD_arrS, reO_mk, reO_mkG, ixOf, Option.bind_none, Option.map_none, thenN_normal, after_ret, gx, gy, gy2, st1, st2, nG1, nG2, ← hG1, ← hG2]
            have oE : Over A' ((G2.upd (A2.next + 1) (some (.cells (v' :: [.int .u32 0, .int .u32 0, .int .u32 0, .int .i64 0, .slice none 0 0, .int .u32 0, .slice none 0 0, .slice none 0 0, .slice none 0 0, .int .i64 0, .slice none 0 0, .int .u32 0, .slice none 0 0, .slice none 0 0, .slice none 0 0, .int .i64 0, .slice none 0 0, .int .u32 0, .slice none 0 0, .slice none 0 0, .slice none 0 0]) 43 (some 0)))).upd A2.next (some (.cells rc' 40 (some 0)))) := by refine ⟨by (try simp only [nx_upd]); omega, fun b hb => ?_⟩; rw [St.get_upd, if_neg (by omega), St.get_upd, if_neg (by omega), oG.get b (by omega), o2.get b (by omega), oD.get b hb]
            have gE : Ge (A2.hide ([])) (((G2.upd (A2.next + 1) (some (.cells (v' :: [.int .u32 0, .int .u32 0, .int .u32 0, .int .i64 0, .slice none 0 0, .int .u32 0, .slice none 0 0, .slice none 0 0, .slice none 0 0, .int .i64 0, .slice none 0 0, .int .u32 0, .slice none 0 0, .slice none 0 0, .slice none 0 0, .int .i64 0, .slice none 0 0, .int .u32 0, .slice none 0 0, .slice none 0 0, .slice none 0 0]) 43 (some 0)))).upd A2.next (some (.cells rc' 40 (some 0)))).hide (A2.next :: (A2.next + 1) :: [])) := Ge.hide (by (try simp only [nx_upd]); omega) (fun b hb hbL => by
              have e1 : b ≠ (A2.next + 1) := by omega
              have e2 : b ≠ A2.next := by omega
              refine ⟨?_, by rw [St.get_upd, if_neg e2, St.get_upd, if_neg e1, oG.get b hb]⟩
              simp only [List.mem_cons, not_or] at hbL ⊢
              exact ⟨e2, e1, hbL⟩)
            refine ⟨_, A2.next, rc', rfl, ?_, ?_, ?_, ?_, ?_, ?_, ?_, ?_, get_upd_same .., (hr2.ge gE).ge (hide_ge _ _)⟩
            · simp (maxSteps := 1000000) (disch := (first | omega | (simp only [nx_alloc, nx_upd, len_cons, len_nil, List.length_set, List.length_map, List.length_append] <;> omega) | fail)) only [Nat.reduceAdd, Nat.reduceSub, Nat.reduceMul, Nat.reduceLT, Nat.reduceLeDiff, Nat.reduceEqDiff, ↓reduceIte, reduceCtorEq, Int.reduceAdd, Int.reduceSub, Int.reduceMul, Int.reduceLT, Int.reduceLE, Int.reduceEq, Int.reduceNe, Int.reduceToNat, Int.reduceNeg, go_sem, t14]
            · simp (maxSteps := 1000000) (disch := (first | omega | (simp only [nx_alloc, nx_upd, len_cons, len_nil, List.length_set, List.length_map, List.length_append] <;> omega) | fail)) only [Nat.reduceAdd, Nat.reduceSub, Nat.reduceMul, Nat.reduceLT, Nat.reduceLeDiff, Nat.reduceEqDiff, ↓reduceIte, reduceCtorEq, Int.reduceAdd, Int.reduceSub, Int.reduceMul, Int.reduceLT, Int.reduceLE, Int.reduceEq, Int.reduceNe, Int.reduceToNat, Int.reduceNeg, go_sem, t15]
            · simp (maxSteps := 1000000) (disch := (first | omega | (simp only [nx_alloc, nx_upd, len_cons, len_nil, List.length_set, List.length_map, List.length_append] <;> omega) | fail)) only [Nat.reduceAdd, Nat.reduceSub, Nat.reduceMul, Nat.reduceLT, Nat.reduceLeDiff, Nat.reduceEqDiff, ↓reduceIte, reduceCtorEq, Int.reduceAdd, Int.reduceSub, Int.reduceMul, Int.reduceLT, Int.reduceLE, Int.reduceEq, Int.reduceNe, Int.reduceToNat, Int.reduceNeg, go_sem, t17]
            · simp (maxSteps := 1000000) (disch := (first | omega | (simp only [nx_alloc, nx_upd, len_cons, len_nil, List.length_set, List.length_map, List.length_append] <;> omega) | fail)) only [Nat.reduceAdd, Nat.reduceSub, Nat.reduceMul, Nat.reduceLT, Nat.reduceLeDiff, Nat.reduceEqDiff, ↓reduceIte, reduceCtorEq, Int.reduceAdd, Int.reduceSub, Int.reduceMul, Int.reduceLT, Int.reduceLE, Int.reduceEq, Int.reduceNe, Int.reduceToNat, Int.reduceNeg, go_sem, t20]
            · simp (maxSteps := 1000000) (disch := (first | omega | (simp only [nx_alloc, nx_upd, len_cons, len_nil, List.length_set, List.length_map, List.length_append] <;> omega) | fail)) only [Nat.reduceAdd, Nat.reduceSub, Nat.reduceMul, Nat.reduceLT, Nat.reduceLeDiff, Nat.reduceEqDiff, ↓reduceIte, reduceCtorEq, Int.reduceAdd, Int.reduceSub, Int.reduceMul, Int.reduceLT, Int.reduceLE, Int.reduceEq, Int.reduceNe, Int.reduceToNat, Int.reduceNeg, go_sem, t23]
            · simp (maxSteps := 1000000) (disch := (first | omega | (simp only [nx_alloc, nx_upd, len_cons, len_nil, List.length_set, List.length_map, List.length_append] <;> omega) | fail)) only [Nat.reduceAdd, Nat.reduceSub, Nat.reduceMul, Nat.reduceLT, Nat.reduceLeDiff, Nat.reduceEqDiff, ↓reduceIte, reduceCtorEq, Int.reduceAdd, Int.reduceSub, Int.reduceMul, Int.reduceLT, Int.reduceLE, Int.reduceEq, Int.reduceNe, Int.reduceToNat, Int.reduceNeg, go_sem]
            · (try simp only [nx_upd]); omega
            · exact oE.get
        · obtain ⟨D1, hD1⟩ : ∃ D, D = A'.alloc (.cells [.int .i64 0, .slice none 0 0, .int .u32 0, .slice none 0 0, .slice none 0 0, .slice none 0 0] 40 (some 0)) := ⟨_, rfl⟩
          have oS1 : Over A' D1 := hD1 ▸ (Over.refl _).alloc _
          have nD1 : D1.next = A'.next + 1 := by rw [hD1, nx_alloc]
          have dk1_0 : D1.get b15 = some (.cells (v2 :: [.int .u32 0, .int .u32 0, .int .u32 0, .int .i64 0, .slice none 0 0, .int .u32 0, .slice none 0 0, .slice none 0 0, .slice none 0 0, .int .i64 0, .slice none 0 0, .int .u32 0, .slice none 0 0, .slice none 0 0, .slice none 0 0, .int .i64 0, .slice none 0 0, .int .u32 0, .slice none 0 0, .slice none 0 0, .slice none 0 0]) 43 (some 0)) := by rw [oS1.get _ (by omega)]; exact q15'
          have dk1_1 : D1.get pb = some (.cells cells e' md) := by rw [oS1.get _ (by omega)]; exact s4
          have oD : Over A' D1 := oS1
          have nD : D1.next = A'.next + 1 := nD1
          have dy : D1.get A'.next = some (.cells [.int .i64 0, .slice none 0 0, .int .u32 0, .slice none 0 0, .slice none 0 0, .slice none 0 0] 40 (some 0)) := by rw [hD1]; exact get_alloc_same ..
          have gD : Ge (A'.hide ([])) (D1.hide (A'.next :: [])) := Ge.hide oD.next (fun b hb hbL => ⟨by simp only [List.mem_cons, List.not_mem_nil, or_false, not_or] at hbL ⊢; omega, oD.get b hb⟩)
          have hap := do_ok w0 D1 (A'.next :: []) (fun b hb => by first | (cases hb; done) | (simp only [List.mem_cons, List.not_mem_nil, or_false] at hb; omega)) (vI left) v2 [.int .u32 0, .int .u32 0, .int .u32 0, .int .i64 0, .slice none 0 0, .int .u32 0, .slice none 0 0, .slice none 0 0, .slice none 0 0, .int .i64 0, .slice none 0 0, .int .u32 0, .slice none 0 0, .slice none 0 0, .slice none 0 0, .int .i64 0, .slice none 0 0, .int .u32 0, .slice none 0 0, .slice none 0 0, .slice none 0 0] ⟨5, y, verN⟩ [.int .i64 5, .int .u32 y, .int .u32 0, .slice none 0 0, .slice none 0 0, .slice none 0 0] (hV2.ge gD) ⟨_, rfl, verN_c _⟩ (by rw [vI_len]; omega) rfl rfl ⟨hy1, hy2⟩ verN_small; unfold DoPost at hap; rw [doL_got hymem] at hap
          refine Ords.cut [0, 1, 2, 3, 4, 5, 11] [7, 8, 9, 10, 12, 13] 6 (by kernel_rfl) ?_
          refine Ords.run [⟨false, [], [0, 1]⟩, ⟨false, [], [0, 1]⟩, ⟨false, [], [0, 1]⟩, ⟨false, [1, 2], [0, 1]⟩, ⟨false, [3, 1, 2], [0, 1]⟩, ⟨false, [4, 3, 1, 2], [0, 1]⟩, ⟨true, [], [0]⟩] [A', D1] 1 (by kernel_rfl) (by kernel_rfl) rfl ?_
          simp (maxSteps := 1000000) (disch := (first | omega | (simp only [nx_alloc, nx_upd, len_cons, len_nil, List.length_set, List.length_map, List.length_append] <;> omega) | fail)) only [Nat.reduceAdd, Nat.reduceSub, Nat.reduceMul, Nat.reduceLT, Nat.reduceLeDiff, Nat.reduceEqDiff, ↓reduceIte, reduceCtorEq, Int.reduceAdd, Int.reduceSub, Int.reduceMul, Int.reduceLT, Int.reduceLE, Int.reduceEq, Int.reduceNe, Int.reduceToNat, Int.reduceNeg, go_sem, subOps_toList, getD_arr0, getD_arrS, reO_mk, reO_mkG, ixOf, Option.bind_none, Option.map_none, thenN_normal, after_ret, t15, t17, t23, q15', s3, s4, s5, nD1, dk1_0, dk1_1, ← hD1]
          refine hap.mono ?_
          rintro _ A2 ⟨v', rc', rfl, o2, hv2, hr2⟩
          have n2 := o2.next
          have hxl : (v' :: [.int .u32 0, .int .u32 0, .int .u32 0, .int .i64 0, .slice none 0 0, .int .u32 0, .slice none 0 0, .slice none 0 0, .slice none 0 0, .int .i64 0, .slice none 0 0, .int .u32 0, .slice none 0 0, .slice none 0 0, .slice none 0 0, .int .i64 0, .slice none 0 0, .int .u32 0, .slice none 0 0, .slice none 0 0, .slice none 0 0]).length = 22 := rfl
          have hxc : (v' :: [.int .u32 0, .int .u32 0, .int .u32 0, .int .i64 0, .slice none 0 0, .int .u32 0, .slice none 0 0, .slice none 0 0, .slice none 0 0, .int .i64 0, .slice none 0 0, .int .u32 0, .slice none 0 0, .slice none 0 0, .slice none 0 0, .int .i64 0, .slice none 0 0, .int .u32 0, .slice none 0 0, .slice none 0 0, .slice none 0 0]).all cell1 = true := by obtain ⟨_, _, rfl⟩ := hv2.sl; rfl
          have hyl := hr2.len
          have hyc := hr2.cell
          obtain ⟨G1, hG1⟩ : ∃ G, G = A2.alloc (.cells [.slice none 0 0, .int .u32 0, .int .u32 0, .int .u32 0, .int .i64 0, .slice none 0 0, .int .u32 0, .slice none 0 0, .slice none 0 0, .slice none 0 0, .int .i64 0, .slice none 0 0, .int .u32 0, .slice none 0 0, .slice none 0 0, .slice none 0 0, .int .i64 0, .slice none 0 0, .int .u32 0, .slice none 0 0, .slice none 0 0, .slice none 0 0] 43 (some 0)) := ⟨_, rfl⟩
          have oT1 : Over A2 G1 := hG1 ▸ (Over.refl _).alloc _
          have nG1 : G1.next = A2.next + 1 := by rw [hG1, nx_alloc]
          obtain ⟨G, hGG⟩ : ∃ G, G = G1 := ⟨_, rfl⟩
          have oG : Over A2 G := hGG ▸ oT1
          have nG : G.next = A2.next + 1 := hGG ▸ nG1
          have gx : G.get A2.next = some (.cells [.slice none 0 0, .int .u32 0, .int .u32 0, .int .u32 0, .int .i64 0, .slice none 0 0, .int .u32 0, .slice none 0 0, .slice none 0 0, .slice none 0 0, .int .i64 0, .slice none 0 0, .int .u32 0, .slice none 0 0, .slice none 0 0, .slice none 0 0, .int .i64 0, .slice none 0 0, .int .u32 0, .slice none 0 0, .slice none 0 0, .slice none 0 0] 43 (some 0)) := by rw [hGG]; rw [hG1]; exact get_alloc_same ..
          have gy : G.get A'.next = some (.cells [.int .i64 0, .slice none 0 0, .int .u32 0, .slice none 0 0, .slice none 0 0, .slice none 0 0] 40 (some 0)) := by rw [oG.get _ (by omega), o2.get _ (by omega)]; exact dy
          have st1 := stN (n := 22) (X := G) (b := A2.next) (z := [.slice none 0 0, .int .u32 0, .int .u32 0, .int .u32 0, .int .i64 0, .slice none 0 0, .int .u32 0, .slice none 0 0, .slice none 0 0, .slice none 0 0, .int .i64 0, .slice none 0 0, .int .u32 0, .slice none 0 0, .slice none 0 0, .slice none 0 0, .int .i64 0, .slice none 0 0, .int .u32 0, .slice none 0 0, .slice none 0 0, .slice none 0 0]) (e := 43) rfl hxl hxc
          have st2 := stN (n := 6) (X := G.upd A2.next (some (.cells (v' :: [.int .u32 0, .int .u32 0, .int .u32 0, .int .i64 0, .slice none 0 0, .int .u32 0, .slice none 0 0, .slice none 0 0, .slice none 0 0, .int .i64 0, .slice none 0 0, .int .u32 0, .slice none 0 0, .slice none 0 0, .slice none 0 0, .int .i64 0, .slice none 0 0, .int .u32 0, .slice none 0 0, .slice none 0 0, .slice none 0 0]) 43 (some 0)))) (b := A'.next) (z := [.int .i64 0, .slice none 0 0, .int .u32 0, .slice none 0 0, .slice none 0 0, .slice none 0 0]) (e := 40) rfl hyl hyc
          have gy2 : (G.upd A2.next (some (.cells (v' :: [.int .u32 0, .int .u32 0, .int .u32 0, .int .i64 0, .slice none 0 0, .int .u32 0, .slice none 0 0, .slice none 0 0, .slice none 0 0, .int .i64 0, .slice none 0 0, .int .u32 0, .slice none 0 0, .slice none 0 0, .slice none 0 0, .int .i64 0, .slice none 0 0, .int .u32 0, .slice none 0 0, .slice none 0 0, .slice none 0 0]) 43 (some 0)))).get A'.next = some (.cells [.int .i64 0, .slice none 0 0, .int .u32 0, .slice none 0 0, .slice none 0 0, .slice none 0 0] 40 (some 0)) := by rw [St.get_upd, if_neg (by omega)]; exact gy
          rw [hGG] at gx gy gy2 st1 st2 oG nG
          simp (maxSteps := 1000000) (disch := (first | omega | (simp only [nx_alloc, nx_upd, len_cons, len_nil, List.length_set, List.length_map, List.length_append] <;> omega) | fail)) only [Nat.reduceAdd, Nat.reduceSub, Nat.reduceMul, Nat.reduceLT, Nat.reduceLeDiff, Nat.reduceEqDiff, ↓reduceIte, reduceCtorEq, Int.reduceAdd, Int.reduceSub, Int.reduceMul, Int.reduceLT, Int.reduceLE, Int.reduceEq, Int.reduceNe, Int.reduceToNat, Int.reduceNeg, go_sem]
          refine Ords.run [⟨false, [], [0, 1]⟩, ⟨false, [0], [0, 1]⟩, ⟨false, [0], [0, 1, 2]⟩, ⟨true, [], [0]⟩, ⟨true, [3, 1, 0], [1]⟩, ⟨true, [2, 4, 0, 1, 3], [2]⟩] [A2, G1, G1.upd A2.next (some (.cells (v' :: [.int .u32 0, .int .u32 0, .int .u32 0, .int .i64 0, .slice none 0 0, .int .u32 0, .slice none 0 0, .slice none 0 0, .slice none 0 0, .int .i64 0, .slice none 0 0, .int .u32 0, .slice none 0 0, .slice none 0 0, .slice none 0 0, .int .i64 0, .slice none 0 0, .int .u32 0, .slice none 0 0, .slice none 0 0, .slice none 0 0]) 43 (some 0))), (G1.upd A2.next (some (.cells (v' :: [.int .u32 0, .int .u32 0, .int .u32 0, .int .i64 0, .slice none 0 0, .int .u32 0, .slice none 0 0, .slice none 0 0, .slice none 0 0, .int .i64 0, .slice none 0 0, .int .u32 0, .slice none 0 0, .slice none 0 0, .slice none 0 0, .int .i64 0, .slice none 0 0, .int .u32 0, .slice none 0 0, .slice none 0 0, .slice none 0 0]) 43 (some 0)))).upd A'.next (some (.cells rc' 40 (some 0)))] 3 (by kernel_rfl) (by kernel_rfl) rfl ?_
          simp (maxSteps := 1000000) (disch := (first | omega | (simp only [nx_alloc, nx_upd, len_cons, len_nil, List.length_set, List.length_map, List.length_append] <;> omega) | fail)) only [Nat.reduceAdd, Nat.reduceSub, Nat.reduceMul, Nat.reduceLT, Nat.reduceLeDiff, Nat.reduceEqDiff, ↓reduceIte, reduceCtorEq, Int.reduceAdd, Int.reduceSub, Int.reduceMul, Int.reduceLT, Int.reduceLE, Int.reduceEq, Int.reduceNe, Int.reduceToNat, Int.reduceNeg, go_sem, subOps_toList, getD_arr0, getD_arrS, reO_mk, reO_mkG, ixOf, Option.bind_none, Option.map_none, thenN_normal, after_ret, gx, gy, gy2, st1, st2, nG1, ← hG1]
          have oE : Over A' ((G1.upd A2.next (some (.cells (v' :: [.int .u32 0, .int .u32 0, .int .u32 0, .int .i64 0, .slice none 0 0, .int .u32 0, .slice none 0 0, .slice none 0 0, .slice none 0 0, .int .i64 0, .slice none 0 0, .int .u32 0, .slice none 0 0, .slice none 0 0, .slice none 0 0, .int .i64 0, .slice none 0 0, .int .u32 0, .slice none 0 0, .slice none 0 0, .slice none 0 0]) 43 (some 0)))).upd A'.next (some (.cells rc' 40 (some 0)))) := by refine ⟨by (try simp only [nx_upd]); omega, fun b hb => ?_⟩; rw [St.get_upd, if_neg (by omega), St.get_upd, if_neg (by omega), oG.get b (by omega), o2.get b (by omega), oD.get b hb]
          have gE : Ge (A2.hide (A'.next :: [])) (((G1.upd A2.next (some (.cells (v' :: [.int .u32 0, .int .u32 0, .int .u32 0, .int .i64 0, .slice none 0 0, .int .u32 0, .slice none 0 0, .slice none 0 0, .slice none 0 0, .int .i64 0, .slice none 0 0, .int .u32 0, .slice none 0 0, .slice none 0 0, .slice none 0 0, .int .i64 0, .slice none 0 0, .int .u32 0, .slice none 0 0, .slice none 0 0, .slice none 0 0]) 43 (some 0)))).upd A'.next (some (.cells rc' 40 (some 0)))).hide (A'.next :: A2.next :: [])) := Ge.hide (by (try simp only [nx_upd]); omega) (fun b hb hbL => by
            have e1 : b ≠ A2.next := by omega
            have e2 : b ≠ A'.next := by intro e; apply hbL; rw [e]; simp
            refine ⟨?_, by rw [St.get_upd, if_neg e2, St.get_upd, if_neg e1, oG.get b hb]⟩
            simp only [List.mem_cons, not_or] at hbL ⊢
            exact ⟨e2, e1, hbL.2⟩)
          refine ⟨_, A'.next, rc', rfl, ?_, ?_, ?_, ?_, ?_, ?_, ?_, ?_, get_upd_same .., (hr2.ge gE).ge (hide_ge _ _)⟩
          · simp (maxSteps := 1000000) (disch := (first | omega | (simp only [nx_alloc, nx_upd, len_cons, len_nil, List.length_set, List.length_map, List.length_append] <;> omega) | fail)) only [Nat.reduceAdd, Nat.reduceSub, Nat.reduceMul, Nat.reduceLT, Nat.reduceLeDiff, Nat.reduceEqDiff, ↓reduceIte, reduceCtorEq, Int.reduceAdd, Int.reduceSub, Int.reduceMul, Int.reduceLT, Int.reduceLE, Int.reduceEq, Int.reduceNe, Int.reduceToNat, Int.reduceNeg, go_sem, t14]
          · simp (maxSteps := 1000000) (disch := (first | omega | (simp only [nx_alloc, nx_upd, len_cons, len_nil, List.length_set, List.length_map, List.length_append] <;> omega) | fail)) only [Nat.reduceAdd, Nat.reduceSub, Nat.reduceMul, Nat.reduceLT, Nat.reduceLeDiff, Nat.reduceEqDiff, ↓reduceIte, reduceCtorEq, Int.reduceAdd, Int.reduceSub, Int.reduceMul, Int.reduceLT, Int.reduceLE, Int.reduceEq, Int.reduceNe, Int.reduceToNat, Int.reduceNeg, go_sem, t15]
          · simp (maxSteps := 1000000) (disch := (first | omega | (simp only [nx_alloc, nx_upd, len_cons, len_nil, List.length_set, List.length_map, List.length_append] <;> omega) | fail)) only [Nat.reduceAdd, Nat.reduceSub, Nat.reduceMul, Nat.reduceLT, Nat.reduceLeDiff, Nat.reduceEqDiff, ↓reduceIte, reduceCtorEq, Int.reduceAdd, Int.reduceSub, Int.reduceMul, Int.reduceLT, Int.reduceLE, Int.reduceEq, Int.reduceNe, Int.reduceToNat, Int.reduceNeg, go_sem, t17]
          · simp (maxSteps := 1000000) (disch := (first | omega | (simp only [nx_alloc, nx_upd, len_cons, len_nil, List.length_set, List.length_map, List.length_append] <;> omega) | fail)) only [Nat.reduceAdd, Nat.reduceSub, Nat.reduceMul, Nat.reduceLT, Nat.reduceLeDiff, Nat.reduceEqDiff, ↓reduceIte, reduceCtorEq, Int.reduceAdd, Int.reduceSub, Int.reduceMul, Int.reduceLT, Int.reduceLE, Int.reduceEq, Int.reduceNe, Int.reduceToNat, Int.reduceNeg, go_sem, t20]
          · simp (maxSteps := 1000000) (disch := (first | omega | (simp only [nx_alloc, nx_upd, len_cons, len_nil, List.length_set, List.length_map, List.length_append] <;> omega) | fail)) only [Nat.reduceAdd, Nat.reduceSub, Nat.reduceMul, Nat.reduceLT, Nat.reduceLeDiff, Nat.reduceEqDiff, ↓reduceIte, reduceCtorEq, Int.reduceAdd, Int.reduceSub, Int.reduceMul, Int.reduceLT, Int.reduceLE, Int.reduceEq, Int.reduceNe, Int.reduceToNat, Int.reduceNeg, go_sem, t23]
          · simp (maxSteps := 1000000) (disch := (first | omega | (simp only [nx_alloc, nx_upd, len_cons, len_nil, List.length_set, List.length_map, List.length_append] <;> omega) | fail)) only [Nat.reduceAdd, Nat.reduceSub, Nat.reduceMul, Nat.reduceLT, Nat.reduceLeDiff, Nat.reduceEqDiff, ↓reduceIte, reduceCtorEq, Int.reduceAdd, Int.reduceSub, Int.reduceMul, Int.reduceLT, Int.reduceLE, Int.reduceEq, Int.reduceNe, Int.reduceToNat, Int.reduceNeg, go_sem]
          · (try simp only [nx_upd]); omega
          · exact oE.get
      · refine Ords.split 6 11 rfl ?_ ?_
        · obtain ⟨D1, hD1⟩ : ∃ D, D = A'.alloc (.cells [.slice none 0 0, .int .u32 0, .int .u32 0, .int .u32 0, .int .i64 0, .slice none 0 0, .int .u32 0, .slice none 0 0, .slice none 0 0, .slice none 0 0, .int .i64 0, .slice none 0 0, .int .u32 0, .slice none 0 0, .slice none 0 0, .slice none 0 0, .int .i64 0, .slice none 0 0, .int .u32 0, .slice none 0 0, .slice none 0 0, .slice none 0 0] 43 (some 0)) := ⟨_, rfl⟩
          have oS1 : Over A' D1 := hD1 ▸ (Over.refl _).alloc _
          have nD1 : D1.next = A'.next + 1 := by rw [hD1, nx_alloc]
          have dk1_0 : D1.get b15 = some (.cells (v2 :: [.int .u32 0, .int .u32 0, .int .u32 0, .int .i64 0, .slice none 0 0, .int .u32 0, .slice none 0 0, .slice none 0 0, .slice none 0 0, .int .i64 0, .slice none 0 0, .int .u32 0, .slice none 0 0, .slice none 0 0, .slice none 0 0, .int .i64 0, .slice none 0 0, .int .u32 0, .slice none 0 0, .slice none 0 0, .slice none 0 0]) 43 (some 0)) := by rw [oS1.get _ (by omega)]; exact q15'
          have dk1_1 : D1.get pb = some (.cells cells e' md) := by rw [oS1.get _ (by omega)]; exact s4
          have oD : Over A' D1 := oS1
          have nD : D1.next = A'.next + 1 := nD1
          have dx : D1.get A'.next = some (.cells [.slice none 0 0, .int .u32 0, .int .u32 0, .int .u32 0, .int .i64 0, .slice none 0 0, .int .u32 0, .slice none 0 0, .slice none 0 0, .slice none 0 0, .int .i64 0, .slice none 0 0, .int .u32 0, .slice none 0 0, .slice none 0 0, .slice none 0 0, .int .i64 0, .slice none 0 0, .int .u32 0, .slice none 0 0, .slice none 0 0, .slice none 0 0] 43 (some 0)) := by rw [hD1]; exact get_alloc_same ..
          have gD : Ge (A'.hide ([])) (D1.hide (A'.next :: [])) := Ge.hide oD.next (fun b hb hbL => ⟨by simp only [List.mem_cons, List.not_mem_nil, or_false, not_or] at hbL ⊢; omega, oD.get b hb⟩)
          have hap := do_ok w0 D1 (A'.next :: []) (fun b hb => by first | (cases hb; done) | (simp only [List.mem_cons, List.not_mem_nil, or_false] at hb; omega)) (vI left) v2 [.int .u32 0, .int .u32 0, .int .u32 0, .int .i64 0, .slice none 0 0, .int .u32 0, .slice none 0 0, .slice none 0 0, .slice none 0 0, .int .i64 0, .slice none 0 0, .int .u32 0, .slice none 0 0, .slice none 0 0, .slice none 0 0, .int .i64 0, .slice none 0 0, .int .u32 0, .slice none 0 0, .slice none 0 0, .slice none 0 0] ⟨5, y, verN⟩ [.int .i64 5, .int .u32 y, .int .u32 0, .slice none 0 0, .slice none 0 0, .slice none 0 0] (hV2.ge gD) ⟨_, rfl, verN_c _⟩ (by rw [vI_len]; omega) rfl rfl ⟨hy1, hy2⟩ verN_small; unfold DoPost at hap; rw [doL_got hymem] at hap
          refine Ords.cut [0, 1, 2, 3, 4, 5, 10] [7, 8, 9, 11, 12, 13] 6 (by kernel_rfl) ?_
          refine Ords.run [⟨false, [], [0, 1]⟩, ⟨false, [], [0, 1]⟩, ⟨false, [], [0, 1]⟩, ⟨false, [1, 2], [0, 1]⟩, ⟨false, [3, 1, 2], [0, 1]⟩, ⟨false, [4, 3, 1, 2], [0, 1]⟩, ⟨true, [], [0]⟩] [A', D1] 1 (by kernel_rfl) (by kernel_rfl) rfl ?_
          simp (maxSteps := 1000000) (disch := (first | omega | (simp only [nx_alloc, nx_upd, len_cons, len_nil, List.length_set, List.length_map, List.length_append] <;> omega) | fail)) only [Nat.reduceAdd, Nat.reduceSub, Nat.reduceMul, Nat.reduceLT, Nat.reduceLeDiff, Nat.reduceEqDiff, ↓reduceIte, reduceCtorEq, Int.reduceAdd, Int.reduceSub, Int.reduceMul, Int.reduceLT, Int.reduceLE, Int.reduceEq, Int.reduceNe, Int.reduceToNat, Int.reduceNeg, go_sem, subOps_toList, getD_arr0, getD_arrS, reO_mk, reO_mkG, ixOf, Option.bind_none, Option.map_none, thenN_normal, after_ret, t15, t17, t23, q15', s3, s4, s5, nD1, dk1_0, dk1_1, ← hD1]
          refine hap.mono ?_
          rintro _ A2 ⟨v', rc', rfl, o2, hv2, hr2⟩
          have n2 := o2.next
          have hxl : (v' :: [.int .u32 0, .int .u32 0, .int .u32 0, .int .i64 0, .slice none 0 0, .int .u32 0, .slice none 0 0, .slice none 0 0, .slice none 0 0, .int .i64 0, .slice none 0 0, .int .u32 0, .slice none 0 0, .slice none 0 0, .slice none 0 0, .int .i64 0, .slice none 0 0, .int .u32 0, .slice none 0 0, .slice none 0 0, .slice none 0 0]).length = 22 := rfl
          have hxc : (v' :: [.int .u32 0, .int .u32 0, .int .u32 0, .int .i64 0, .slice none 0 0, .int .u32 0, .slice none 0 0, .slice none 0 0, .slice none 0 0, .int .i64 0, .slice none 0 0, .int .u32 0, .slice none 0 0, .slice none 0 0, .slice none 0 0, .int .i64 0, .slice none 0 0, .int .u32 0, .slice none 0 0, .slice none 0 0, .slice none 0 0]).all cell1 = true := by obtain ⟨_, _, rfl⟩ := hv2.sl; rfl
          have hyl := hr2.len
          have hyc := hr2.cell
          obtain ⟨G1, hG1⟩ : ∃ G, G = A2.alloc (.cells [.int .i64 0, .slice none 0 0, .int .u32 0, .slice none 0 0, .slice none 0 0, .slice none 0 0] 40 (some 0)) := ⟨_, rfl⟩
          have oT1 : Over A2 G1 := hG1 ▸ (Over.refl _).alloc _
          have nG1 : G1.next = A2.next + 1 := by rw [hG1, nx_alloc]
          obtain ⟨G, hGG⟩ : ∃ G, G = G1 := ⟨_, rfl⟩
          have oG : Over A2 G := hGG ▸ oT1
          have nG : G.next = A2.next + 1 := hGG ▸ nG1
          have gx : G.get A'.next = some (.cells [.slice none 0 0, .int .u32 0, .int .u32 0, .int .u32 0, .int .i64 0, .slice none 0 0, .int .u32 0, .slice none 0 0, .slice none 0 0, .slice none 0 0, .int .i64 0, .slice none 0 0, .int .u32 0, .slice none 0 0, .slice none 0 0, .slice none 0 0, .int .i64 0, .slice none 0 0, .int .u32 0, .slice none 0 0, .slice none 0 0, .slice none 0 0] 43 (some 0)) := by rw [oG.get _ (by omega), o2.get _ (by omega)]; exact dx
          have gy : G.get A2.next = some (.cells [.int .i64 0, .slice none 0 0, .int .u32 0, .slice none 0 0, .slice none 0 0, .slice none 0 0] 40 (some 0)) := by rw [hGG]; rw [hG1]; exact get_alloc_same ..
          have st1 := stN (n := 22) (X := G) (b := A'.next) (z := [.slice none 0 0, .int .u32 0, .int .u32 0, .int .u32 0, .int .i64 0, .slice none 0 0, .int .u32 0, .slice none 0 0, .slice none 0 0, .slice none 0 0, .int .i64 0, .slice none 0 0, .int .u32 0, .slice none 0 0, .slice none 0 0, .slice none 0 0, .int .i64 0, .slice none 0 0, .int .u32 0, .slice none 0 0, .slice none 0 0, .slice none 0 0]) (e := 43) rfl hxl hxc
          have st2 := stN (n := 6) (X := G.upd A'.next (some (.cells (v' :: [.int .u32 0, .int .u32 0, .int .u32 0, .int .i64 0, .slice none 0 0, .int .u32 0, .slice none 0 0, .slice none 0 0, .slice none 0 0, .int .i64 0, .slice none 0 0, .int .u32 0, .slice none 0 0, .slice none 0 0, .slice none 0 0, .int .i64 0, .slice none 0 0, .int .u32 0, .slice none 0 0, .slice none 0 0, .slice none 0 0]) 43 (some 0)))) (b := A2.next) (z := [.int .i64 0, .slice none 0 0, .int .u32 0, .slice none 0 0, .slice none 0 0, .slice none 0 0]) (e := 40) rfl hyl hyc
          have gy2 : (G.upd A'.next (some (.cells (v' :: [.int .u32 0, .int .u32 0, .int .u32 0, .int .i64 0, .slice none 0 0, .int .u32 0, .slice none 0 0, .slice none 0 0, .slice none 0 0, .int .i64 0, .slice none 0 0, .int .u32 0, .slice none 0 0, .slice none 0 0, .slice none 0 0, .int .i64 0, .slice none 0 0, .int .u32 0, .slice none 0 0, .slice none 0 0, .slice none 0 0]) 43 (some 0)))).get A2.next = some (.cells [.int .i64 0, .slice none 0 0, .int .u32 0, .slice none 0 0, .slice none 0 0, .slice none 0 0] 40 (some 0)) := by rw [St.get_upd, if_neg (by omega)]; exact gy
          rw [hGG] at gx gy gy2 st1 st2 oG nG
          simp (maxSteps := 1000000) (disch := (first | omega | (simp only [nx_alloc, nx_upd, len_cons, len_nil, List.length_set, List.length_map, List.length_append] <;> omega) | fail)) only [Nat.reduceAdd, Nat.reduceSub, Nat.reduceMul, Nat.reduceLT, Nat.reduceLeDiff, Nat.reduceEqDiff, ↓reduceIte, reduceCtorEq, Int.reduceAdd, Int.reduceSub, Int.reduceMul, Int.reduceLT, Int.reduceLE, Int.reduceEq, Int.reduceNe, Int.reduceToNat, Int.reduceNeg, go_sem]
          refine Ords.run [⟨false, [], [0, 1]⟩, ⟨false, [0], [0, 1]⟩, ⟨false, [0], [0, 1, 2]⟩, ⟨true, [], [0]⟩, ⟨true, [1, 0, 3], [1]⟩, ⟨true, [3, 2, 4, 0, 1], [2]⟩] [A2, G1, G1.upd A'.next (some (.cells (v' :: [.int .u32 0, .int .u32 0, .int .u32 0, .int .i64 0, .slice none 0 0, .int .u32 0, .slice none 0 0, .slice none 0 0, .slice none 0 0, .int .i64 0, .slice none 0 0, .int .u32 0, .slice none 0 0, .slice none 0 0, .slice none 0 0, .int .i64 0, .slice none 0 0, .int .u32 0, .slice none 0 0, .slice none 0 0, .slice none 0 0]) 43 (some 0))), (G1.upd A'.next (some (.cells (v' :: [.int .u32 0, .int .u32 0, .int .u32 0, .int .i64 0, .slice none 0 0, .int .u32 0, .slice none 0 0, .slice none 0 0, .slice none 0 0, .int .i64 0, .slice none 0 0, .int .u32 0, .slice none 0 0, .slice none 0 0, .slice none 0 0, .int .i64 0, .slice none 0 0, .int .u32 0, .slice none 0 0, .slice none 0 0, .slice none 0 0]) 43 (some 0)))).upd A2.next (some (.cells rc' 40 (some 0)))] 3 (by kernel_rfl) (by kernel_rfl) rfl ?_
          simp (maxSteps := 1000000) (disch := (first | omega | (simp only [nx_alloc, nx_upd, len_cons, len_nil, List.length_set, List.length_map, List.length_append] <;> omega) | fail)) only [Nat.reduceAdd, Nat.reduceSub, Nat.reduceMul, Nat.reduceLT, Nat.reduceLeDiff, Nat.reduceEqDiff, ↓reduceIte, reduceCtorEq, Int.reduceAdd, Int.reduceSub, Int.reduceMul, Int.reduceLT, Int.reduceLE, Int.reduceEq, Int.reduceNe, Int.reduceToNat, Int.reduceNeg, go_sem, subOps_toList, getD_arr0, getD_arrS, reO_mk, reO_mkG, ixOf, Option.bind_none, Option.map_none, thenN_normal, after_ret, gx, gy, gy2, st1, st2, nG1, ← hG1]
          have oE : Over A' ((G1.upd A'.next (some (.cells (v' :: [.int .u32 0, .int .u32 0, .int .u32 0, .int .i64 0, .slice none 0 0, .int .u32 0, .slice none 0 0, .slice none 0 0, .slice none 0 0, .int .i64 0, .slice none 0 0, .int .u32 0, .slice none 0 0, .slice none 0 0, .slice none 0 0, .int .i64 0, .slice none 0 0, .int .u32 0, .slice none 0 0, .slice none 0 0, .slice none 0 0]) 43 (some 0)))).upd A2.next (some (.cells rc' 40 (some 0)))) := by refine ⟨by (try simp only [nx_upd]); omega, fun b hb => ?_⟩; rw [St.get_upd, if_neg (by omega), St.get_upd, if_neg (by omega), oG.get b (by omega), o2.get b (by omega), oD.get b hb]
          have gE : Ge (A2.hide (A'.next :: [])) (((G1.upd A'.next (some (.cells (v' :: [.int .u32 0, .int .u32 0, .int .u32 0, .int .i64 0, .slice none 0 0, .int .u32 0, .slice none 0 0, .slice none 0 0, .slice none 0 0, .int .i64 0, .slice none 0 0, .int .u32 0, .slice none 0 0, .slice none 0 0, .slice none 0 0, .int .i64 0, .slice none 0 0, .int .u32 0, .slice none 0 0, .slice none 0 0, .slice none 0 0]) 43 (some 0)))).upd A2.next (some (.cells rc' 40 (some 0)))).hide (A2.next :: A'.next :: [])) := Ge.hide (by (try simp only [nx_upd]); omega) (fun b hb hbL => by
            have e1 : b ≠ A'.next := by intro e; apply hbL; rw [e]; simp
            have e2 : b ≠ A2.next := by omega
            refine ⟨?_, by rw [St.get_upd, if_neg e2, St.get_upd, if_neg e1, oG.get b hb]⟩
            simp only [List.mem_cons, not_or] at hbL ⊢
            exact ⟨e2, e1, hbL.2⟩)
          refine ⟨_, A2.next, rc', rfl, ?_, ?_, ?_, ?_, ?_, ?_, ?_, ?_, get_upd_same .., (hr2.ge gE).ge (hide_ge _ _)⟩
          · simp (maxSteps := 1000000) (disch := (first | omega | (simp only [nx_alloc, nx_upd, len_cons, len_nil, List.length_set, List.length_map, List.length_append] <;> omega) | fail)) only [Nat.reduceAdd, Nat.reduceSub, Nat.reduceMul, Nat.reduceLT, Nat.reduceLeDiff, Nat.reduceEqDiff, ↓reduceIte, reduceCtorEq, Int.reduceAdd, Int.reduceSub, Int.reduceMul, Int.reduceLT, Int.reduceLE, Int.reduceEq, Int.reduceNe, Int.reduceToNat, Int.reduceNeg, go_sem, t14]
          · simp (maxSteps := 1000000) (disch := (first | omega | (simp only [nx_alloc, nx_upd, len_cons, len_nil, List.length_set, List.length_map, List.length_append] <;> omega) | fail)) only [Nat.reduceAdd, Nat.reduceSub, Nat.reduceMul, Nat.reduceLT, Nat.reduceLeDiff, Nat.reduceEqDiff, ↓reduceIte, reduceCtorEq, Int.reduceAdd, Int.reduceSub, Int.reduceMul, Int.reduceLT, Int.reduceLE, Int.reduceEq, Int.reduceNe, Int.reduceToNat, Int.reduceNeg, go_sem, t15]
          · simp (maxSteps := 1000000) (disch := (first | omega | (simp only [nx_alloc, nx_upd, len_cons, len_nil, List.length_set, List.length_map, List.length_append] <;> omega) | fail)) only [Nat.reduceAdd, Nat.reduceSub, Nat.reduceMul, Nat.reduceLT, Nat.reduceLeDiff, Nat.reduceEqDiff, ↓reduceIte, reduceCtorEq, Int.reduceAdd, Int.reduceSub, Int.reduceMul, Int.reduceLT, Int.reduceLE, Int.reduceEq, Int.reduceNe, Int.reduceToNat, Int.reduceNeg, go_sem, t17]
          · simp (maxSteps := 1000000) (disch := (first | omega | (simp only [nx_alloc, nx_upd, len_cons, len_nil, List.length_set, List.length_map, List.length_append] <;> omega) | fail)) only [Nat.reduceAdd, Nat.reduceSub, Nat.reduceMul, Nat.reduceLT, Nat.reduceLeDiff, Nat.reduceEqDiff, ↓reduceIte, reduceCtorEq, Int.reduceAdd, Int.reduceSub, Int.reduceMul, Int.reduceLT, Int.reduceLE, Int.reduceEq, Int.reduceNe, Int.reduceToNat, Int.reduceNeg, go_sem, t20]
          · simp (maxSteps := 1000000) (disch := (first | omega | (simp only [nx_alloc, nx_upd, len_cons, len_nil, List.length_set, List.length_map, List.length_append] <;> omega) | fail)) only [Nat.reduceAdd, Nat.reduceSub, Nat.reduceMul, Nat.reduceLT, Nat.reduceLeDiff, Nat.reduceEqDiff, ↓reduceIte, reduceCtorEq, Int.reduceAdd, Int.reduceSub, Int.reduceMul, Int.reduceLT, Int.reduceLE, Int.reduceEq, Int.reduceNe, Int.reduceToNat, Int.reduceNeg, go_sem, t23]
          · simp (maxSteps := 1000000) (disch := (first | omega | (simp only [nx_alloc, nx_upd, len_cons, len_nil, List.length_set, List.length_map, List.length_append] <;> omega) | fail)) only [Nat.reduceAdd, Nat.reduceSub, Nat.reduceMul, Nat.reduceLT, Nat.reduceLeDiff, Nat.reduceEqDiff, ↓reduceIte, reduceCtorEq, Int.reduceAdd, Int.reduceSub, Int.reduceMul, Int.reduceLT, Int.reduceLE, Int.reduceEq, Int.reduceNe, Int.reduceToNat, Int.reduceNeg, go_sem]
          · (try simp only [nx_upd]); omega
          · exact oE.get
        · refine Ords.split 10 11 rfl ?_ ?_
          · obtain ⟨D1, hD1⟩ : ∃ D, D = A'.alloc (.cells [.slice none 0 0, .int .u32 0, .int .u32 0, .int .u32 0, .int .i64 0, .slice none 0 0, .int .u32 0, .slice none 0 0, .slice none 0 0, .slice none 0 0, .int .i64 0, .slice none 0 0, .int .u32 0, .slice none 0 0, .slice none 0 0, .slice none 0 0, .int .i64 0, .slice none 0 0, .int .u32 0, .slice none 0 0, .slice none 0 0, .slice none 0 0] 43 (some 0)) := ⟨_, rfl⟩
            have oS1 : Over A' D1 := hD1 ▸ (Over.refl _).alloc _
            have nD1 : D1.next = A'.next + 1 := by rw [hD1, nx_alloc]
            have dk1_0 : D1.get b15 = some (.cells (v2 :: [.int .u32 0, .int .u32 0, .int .u32 0, .int .i64 0, .slice none 0 0, .int .u32 0, .slice none 0 0, .slice none 0 0, .slice none 0 0, .int .i64 0, .slice none 0 0, .int .u32 0, .slice none 0 0, .slice none 0 0, .slice none 0 0, .int .i64 0, .slice none 0 0, .int .u32 0, .slice none 0 0, .slice none 0 0, .slice none 0 0]) 43 (some 0)) := by rw [oS1.get _ (by omega)]; exact q15'
            have dk1_1 : D1.get pb = some (.cells cells e' md) := by rw [oS1.get _ (by omega)]; exact s4
            obtain ⟨D2, hD2⟩ : ∃ D, D = D1.alloc (.cells [.int .i64 0, .slice none 0 0, .int .u32 0, .slice none 0 0, .slice none 0 0, .slice none 0 0] 40 (some 0)) := ⟨_, rfl⟩
            have oS2 : Over D1 D2 := hD2 ▸ (Over.refl _).alloc _
            have nD2 : D2.next = A'.next + 2 := by rw [hD2, nx_alloc, nD1]
            have dk2_0 : D2.get b15 = some (.cells (v2 :: [.int .u32 0, .int .u32 0, .int .u32 0, .int .i64 0, .slice none 0 0, .int .u32 0, .slice none 0 0, .slice none 0 0, .slice none 0 0, .int .i64 0, .slice none 0 0, .int .u32 0, .slice none 0 0, .slice none 0 0, .slice none 0 0, .int .i64 0, .slice none 0 0, .int .u32 0, .slice none 0 0, .slice none 0 0, .slice none 0 0]) 43 (some 0)) := by rw [oS2.get _ (by omega)]; exact dk1_0
            have dk2_1 : D2.get pb = some (.cells cells e' md) := by rw [oS2.get _ (by omega)]; exact dk1_1
            have oD : Over A' D2 := oS1.trans oS2
            have nD : D2.next = A'.next + 2 := nD2
            have dx : D2.get A'.next = some (.cells [.slice none 0 0, .int .u32 0, .int .u32 0, .int .u32 0, .int .i64 0, .slice none 0 0, .int .u32 0, .slice none 0 0, .slice none 0 0, .slice none 0 0, .int .i64 0, .slice none 0 0, .int .u32 0, .slice none 0 0, .slice none 0 0, .slice none 0 0, .int .i64 0, .slice none 0 0, .int .u32 0, .slice none 0 0, .slice none 0 0, .slice none 0 0] 43 (some 0)) := by rw [oS2.get _ (by omega)]; rw [hD1]; exact get_alloc_same ..
            have dy : D2.get (A'.next + 1) = some (.cells [.int .i64 0, .slice none 0 0, .int .u32 0, .slice none 0 0, .slice none 0 0, .slice none 0 0] 40 (some 0)) := by rw [hD2, show A'.next + 1 = D1.next by omega]; exact get_alloc_same ..
            have gD : Ge (A'.hide ([])) (D2.hide (A'.next :: (A'.next + 1) :: [])) := Ge.hide oD.next (fun b hb hbL => ⟨by simp only [List.mem_cons, List.not_mem_nil, or_false, not_or] at hbL ⊢; omega, oD.get b hb⟩)
            have hap := do_ok w0 D2 (A'.next :: (A'.next + 1) :: []) (fun b hb => by first | (cases hb; done) | (simp only [List.mem_cons, List.not_mem_nil, or_false] at hb; omega)) (vI left) v2 [.int .u32 0, .int .u32 0, .int .u32 0, .int .i64 0, .slice none 0 0, .int .u32 0, .slice none 0 0, .slice none 0 0, .slice none 0 0, .int .i64 0, .slice none 0 0, .int .u32 0, .slice none 0 0, .slice none 0 0, .slice none 0 0, .int .i64 0, .slice none 0 0, .int .u32 0, .slice none 0 0, .slice none 0 0, .slice none 0 0] ⟨5, y, verN⟩ [.int .i64 5, .int .u32 y, .int .u32 0, .slice none 0 0, .slice none 0 0, .slice none 0 0] (hV2.ge gD) ⟨_, rfl, verN_c _⟩ (by rw [vI_len]; omega) rfl rfl ⟨hy1, hy2⟩ verN_small; unfold DoPost at hap; rw [doL_got hymem] at hap
            refine Ords.cut [0, 1, 2, 3, 4, 5, 10, 11] [7, 8, 9, 12, 13] 6 (by kernel_rfl) ?_
            refine Ords.run [⟨false, [], [0, 1, 2]⟩, ⟨false, [], [0, 1, 2]⟩, ⟨false, [], [0, 1, 2]⟩, ⟨false, [1, 2], [0, 1, 2]⟩, ⟨false, [3, 1, 2], [0, 1, 2]⟩, ⟨false, [4, 3, 1, 2], [0, 1, 2]⟩, ⟨true, [], [0]⟩, ⟨true, [6], [1]⟩] [A', D1, D2] 2 (by kernel_rfl) (by kernel_rfl) rfl ?_
            simp (maxSteps := 1000000) (disch := (first | omega | (simp only [nx_alloc, nx_upd, len_cons, len_nil, List.length_set, List.length_map, List.length_append] <;> omega) | fail)) only [Nat.reduceAdd, Nat.reduceSub, Nat.reduceMul, Nat.reduceLT, Nat.reduceLeDiff, Nat.reduceEqDiff, ↓reduceIte, reduceCtorEq, Int.reduceAdd, Int.reduceSub, Int.reduceMul, Int.reduceLT, Int.reduceLE, Int.reduceEq, Int.reduceNe, Int.reduceToNat, Int.reduceNeg, go_sem, subOps_toList, getD_arr0, getD_arrS, reO_mk, reO_mkG, ixOf, Option.bind_none, Option.map_none, thenN_normal, after_ret, t15, t17, t23, q15', s3, s4, s5, nD1, dk1_0, dk1_1, nD2, dk2_0, dk2_1, ← hD1, ← hD2]
            refine hap.mono ?_
            rintro _ A2 ⟨v', rc', rfl, o2, hv2, hr2⟩
            have n2 := o2.next
            have hxl : (v' :: [.int .u32 0, .int .u32 0, .int .u32 0, .int .i64 0, .slice none 0 0, .int .u32 0, .slice none 0 0, .slice none 0 0, .slice none 0 0, .int .i64 0, .slice none 0 0, .int .u32 0, .slice none 0 0, .slice none 0 0, .slice none 0 0, .int .i64 0, .slice none 0 0, .int .u32 0, .slice none 0 0, .slice none 0 0, .slice none 0 0]).length = 22 := rfl
            have hxc : (v' :: [.int .u32 0, .int .u32 0, .int .u32 0, .int .i64 0, .slice none 0 0, .int .u32 0, .slice none 0 0, .slice none 0 0, .slice none 0 0, .int .i64 0, .slice none 0 0, .int .u32 0, .slice none 0 0, .slice none 0 0, .slice none 0 0, .int .i64 0, .slice none 0 0, .int .u32 0, .slice none 0 0, .slice none 0 0, .slice none 0 0]).all cell1 = true := by obtain ⟨_, _, rfl⟩ := hv2.sl; rfl
            have hyl := hr2.len
            have hyc := hr2.cell
            obtain ⟨G, hGG⟩ : ∃ G, G = A2 := ⟨_, rfl⟩
            have oG : Over A2 G := hGG ▸ Over.refl _
            have nG : G.next = A2.next + 0 := hGG ▸ rfl
            have gx : G.get A'.next = some (.cells [.slice none 0 0, .int .u32 0, .int .u32 0, .int .u32 0, .int .i64 0, .slice none 0 0, .int .u32 0, .slice none 0 0, .slice none 0 0, .slice none 0 0, .int .i64 0, .slice none 0 0, .int .u32 0, .slice none 0 0, .slice none 0 0, .slice none 0 0, .int .i64 0, .slice none 0 0, .int .u32 0, .slice none 0 0, .slice none 0 0, .slice none 0 0] 43 (some 0)) := by rw [oG.get _ (by omega), o2.get _ (by omega)]; exact dx
            have gy : G.get (A'.next + 1) = some (.cells [.int .i64 0, .slice none 0 0, .int .u32 0, .slice none 0 0, .slice none 0 0, .slice none 0 0] 40 (some 0)) := by rw [oG.get _ (by omega), o2.get _ (by omega)]; exact dy
            have st1 := stN (n := 22) (X := G) (b := A'.next) (z := [.slice none 0 0, .int .u32 0, .int .u32 0, .int .u32 0, .int .i64 0, .slice none 0 0, .int .u32 0, .slice none 0 0, .slice none 0 0, .slice none 0 0, .int .i64 0, .slice none 0 0, .int .u32 0, .slice none 0 0, .slice none 0 0, .slice none 0 0, .int .i64 0, .slice none 0 0, .int .u32 0, .slice none 0 0, .slice none 0 0, .slice none 0 0]) (e := 43) rfl hxl hxc
            have st2 := stN (n := 6) (X := G.upd A'.next (some (.cells (v' :: [.int .u32 0, .int .u32 0, .int .u32 0, .int .i64 0, .slice none 0 0, .int .u32 0, .slice none 0 0, .slice none 0 0, .slice none 0 0, .int .i64 0, .slice none 0 0, .int .u32 0, .slice none 0 0, .slice none 0 0, .slice none 0 0, .int .i64 0, .slice none 0 0, .int .u32 0, .slice none 0 0, .slice none 0 0, .slice none 0 0]) 43 (some 0)))) (b := (A'.next + 1)) (z := [.int .i64 0, .slice none 0 0, .int .u32 0, .slice none 0 0, .slice none 0 0, .slice none 0 0]) (e := 40) rfl hyl hyc
            have gy2 : (G.upd A'.next (some (.cells (v' :: [.int .u32 0, .int .u32 0, .int .u32 0, .int .i64 0, .slice none 0 0, .int .u32 0, .slice none 0 0, .slice none 0 0, .slice none 0 0, .int .i64 0, .slice none 0 0, .int .u32 0, .slice none 0 0, .slice none 0 0, .slice none 0 0, .int .i64 0, .slice none 0 0, .int .u32 0, .slice none 0 0, .slice none 0 0, .slice none 0 0]) 43 (some 0)))).get (A'.next + 1) = some (.cells [.int .i64 0, .slice none 0 0, .int .u32 0, .slice none 0 0, .slice none 0 0, .slice none 0 0] 40 (some 0)) := by rw [St.get_upd, if_neg (by omega)]; exact gy
            rw [hGG] at gx gy gy2 st1 st2 oG nG
            simp (maxSteps := 1000000) (disch := (first | omega | (simp only [nx_alloc, nx_upd, len_cons, len_nil, List.length_set, List.length_map, List.length_append] <;> omega) | fail)) only [Nat.reduceAdd, Nat.reduceSub, Nat.reduceMul, Nat.reduceLT, Nat.reduceLeDiff, Nat.reduceEqDiff, ↓reduceIte, reduceCtorEq, Int.reduceAdd, Int.reduceSub, Int.reduceMul, Int.reduceLT, Int.reduceLE, Int.reduceEq, Int.reduceNe, Int.reduceToNat, Int.reduceNeg, go_sem]
            refine Ords.run [⟨false, [], [0]⟩, ⟨false, [0], [0]⟩, ⟨false, [0], [0, 1]⟩, ⟨true, [1, 0], [0]⟩, ⟨true, [2, 3, 0, 1], [1]⟩] [A2, A2.upd A'.next (some (.cells (v' :: [.int .u32 0, .int .u32 0, .int .u32 0, .int .i64 0, .slice none 0 0, .int .u32 0, .slice none 0 0, .slice none 0 0, .slice none 0 0, .int .i64 0, .slice none 0 0, .int .u32 0, .slice none 0 0, .slice none 0 0, .slice none 0 0, .int .i64 0, .slice none 0 0, .int .u32 0, .slice none 0 0, .slice none 0 0, .slice none 0 0]) 43 (some 0))), (A2.upd A'.next (some (.cells (v' :: [.int .u32 0, .int .u32 0, .int .u32 0, .int .i64 0, .slice none 0 0, .int .u32 0, .slice none 0 0, .slice none 0 0, .slice none 0 0, .int .i64 0, .slice none 0 0, .int .u32 0, .slice none 0 0, .slice none 0 0, .slice none 0 0, .int .i64 0, .slice none 0 0, .int .u32 0, .slice none 0 0, .slice none 0 0, .slice none 0 0]) 43 (some 0)))).upd (A'.next + 1) (some (.cells rc' 40 (some 0)))] 2 (by kernel_rfl) (by kernel_rfl) rfl ?_
            simp (maxSteps := 1000000) (disch := (first | omega | (simp only [nx_alloc, nx_upd, len_cons, len_nil, List.length_set, List.length_map, List.length_append] <;> omega) | fail)) only [Nat.reduceAdd, Nat.reduceSub, Nat.reduceMul, Nat.reduceLT, Nat.reduceLeDiff, Nat.reduceEqDiff, ↓reduceIte, reduceCtorEq, Int.reduceAdd, Int.reduceSub, Int.reduceMul, Int.reduceLT, Int.reduceLE, Int.reduceEq, Int.reduceNe, Int.reduceToNat, Int.reduceNeg, go_sem, subOps_toList, getD_arr0, getD_arrS, reO_mk, reO_mkG, ixOf, Option.bind_none, Option.map_none, thenN_normal, after_ret, gx, gy, gy2, st1, st2]
            have oE : Over A' ((A2.upd A'.next (some (.cells (v' :: [.int .u32 0, .int .u32 0, .int .u32 0, .int .i64 0, .slice none 0 0, .int .u32 0, .slice none 0 0, .slice none 0 0, .slice none 0 0, .int .i64 0, .slice none 0 0, .int .u32 0, .slice none 0 0, .slice none 0 0, .slice none 0 0, .int .i64 0, .slice none 0 0, .int .u32 0, .slice none 0 0, .slice none 0 0, .slice none 0 0]) 43 (some 0)))).upd (A'.next + 1) (some (.cells rc' 40 (some 0)))) := by refine ⟨by (try simp only [nx_upd]); omega, fun b hb => ?_⟩; rw [St.get_upd, if_neg (by omega), St.get_upd, if_neg (by omega), oG.get b (by omega), o2.get b (by omega), oD.get b hb]
            have gE : Ge (A2.hide (A'.next :: (A'.next + 1) :: [])) (((A2.upd A'.next (some (.cells (v' :: [.int .u32 0, .int .u32 0, .int .u32 0, .int .i64 0, .slice none 0 0, .int .u32 0, .slice none 0 0, .slice none 0 0, .slice none 0 0, .int .i64 0, .slice none 0 0, .int .u32 0, .slice none 0 0, .slice none 0 0, .slice none 0 0, .int .i64 0, .slice none 0 0, .int .u32 0, .slice none 0 0, .slice none 0 0, .slice none 0 0]) 43 (some 0)))).upd (A'.next + 1) (some (.cells rc' 40 (some 0)))).hide ((A'.next + 1) :: A'.next :: [])) := Ge.hide (by (try simp only [nx_upd]); omega) (fun b hb hbL => by
              have e1 : b ≠ A'.next := by intro e; apply hbL; rw [e]; simp
              have e2 : b ≠ (A'.next + 1) := by intro e; apply hbL; rw [e]; simp
              refine ⟨?_, by rw [St.get_upd, if_neg e2, St.get_upd, if_neg e1, oG.get b hb]⟩
              simp only [List.mem_cons, not_or] at hbL ⊢
              exact ⟨e2, e1, hbL.2.2⟩)
            refine ⟨_, (A'.next + 1), rc', rfl, ?_, ?_, ?_, ?_, ?_, ?_, ?_, ?_, get_upd_same .., (hr2.ge gE).ge (hide_ge _ _)⟩
            · simp (maxSteps := 1000000) (disch := (first | omega | (simp only [nx_alloc, nx_upd, len_cons, len_nil, List.length_set, List.length_map, List.length_append] <;> omega) | fail)) only [Nat.reduceAdd, Nat.reduceSub, Nat.reduceMul, Nat.reduceLT, Nat.reduceLeDiff, Nat.reduceEqDiff, ↓reduceIte, reduceCtorEq, Int.reduceAdd, Int.reduceSub, Int.reduceMul, Int.reduceLT, Int.reduceLE, Int.reduceEq, Int.reduceNe, Int.reduceToNat, Int.reduceNeg, go_sem, t14]
            · simp (maxSteps := 1000000) (disch := (first | omega | (simp only [nx_alloc, nx_upd, len_cons, len_nil, List.length_set, List.length_map, List.length_append] <;> omega) | fail)) only [Nat.reduceAdd, Nat.reduceSub, Nat.reduceMul, Nat.reduceLT, Nat.reduceLeDiff, Nat.reduceEqDiff, ↓reduceIte, reduceCtorEq, Int.reduceAdd, Int.reduceSub, Int.reduceMul, Int.reduceLT, Int.reduceLE, Int.reduceEq, Int.reduceNe, Int.reduceToNat, Int.reduceNeg, go_sem, t15]
            · simp (maxSteps := 1000000) (disch := (first | omega | (simp only [nx_alloc, nx_upd, len_cons, len_nil, List.length_set, List.length_map, List.length_append] <;> omega) | fail)) only [Nat.reduceAdd, Nat.reduceSub, Nat.reduceMul, Nat.reduceLT, Nat.reduceLeDiff, Nat.reduceEqDiff, ↓reduceIte, reduceCtorEq, Int.reduceAdd, Int.reduceSub, Int.reduceMul, Int.reduceLT, Int.reduceLE, Int.reduceEq, Int.reduceNe, Int.reduceToNat, Int.reduceNeg, go_sem, t17]
            · simp (maxSteps := 1000000) (disch := (first | omega | (simp only [nx_alloc, nx_upd, len_cons, len_nil, List.length_set, List.length_map, List.length_append] <;> omega) | fail)) only [Nat.reduceAdd, Nat.reduceSub, Nat.reduceMul, Nat.reduceLT, Nat.reduceLeDiff, Nat.reduceEqDiff, ↓reduceIte, reduceCtorEq, Int.reduceAdd, Int.reduceSub, Int.reduceMul, Int.reduceLT, Int.reduceLE, Int.reduceEq, Int.reduceNe, Int.reduceToNat, Int.reduceNeg, go_sem, t20]
            · simp (maxSteps := 1000000) (disch := (first | omega | (simp only [nx_alloc, nx_upd, len_cons, len_nil, List.length_set, List.length_map, List.length_append] <;> omega) | fail)) only [Nat.reduceAdd, Nat.reduceSub, Nat.reduceMul, Nat.reduceLT, Nat.reduceLeDiff, Nat.reduceEqDiff, ↓reduceIte, reduceCtorEq, Int.reduceAdd, Int.reduceSub, Int.reduceMul, Int.reduceLT, Int.reduceLE, Int.reduceEq, Int.reduceNe, Int.reduceToNat, Int.reduceNeg, go_sem, t23]
            · simp (maxSteps := 1000000) (disch := (first | omega | (simp only [nx_alloc, nx_upd, len_cons, len_nil, List.length_set, List.length_map, List.length_append] <;> omega) | fail)) only [Nat.reduceAdd, Nat.reduceSub, Nat.reduceMul, Nat.reduceLT, Nat.reduceLeDiff, Nat.reduceEqDiff, ↓reduceIte, reduceCtorEq, Int.reduceAdd, Int.reduceSub, Int.reduceMul, Int.reduceLT, Int.reduceLE, Int.reduceEq, Int.reduceNe, Int.reduceToNat, Int.reduceNeg, go_sem]
            · (try simp only [nx_upd]); omega
            · exact oE.get
          · obtain ⟨D1, hD1⟩ : ∃ D, D = A'.alloc (.cells [.int .i64 0, .slice none 0 0, .int .u32 0, .slice none 0 0, .slice none 0 0, .slice none 0 0] 40 (some 0)) := ⟨_, rfl⟩
            have oS1 : Over A' D1 := hD1 ▸ (Over.refl _).alloc _
            have nD1 : D1.next = A'.next + 1 := by rw [hD1, nx_alloc]
            have dk1_0 : D1.get b15 = some (.cells (v2 :: [.int .u32 0, .int .u32 0, .int .u32 0, .int .i64 0, .slice none 0 0, .int .u32 0, .slice none 0 0, .slice none 0 0, .slice none 0 0, .int .i64 0, .slice none 0 0, .int .u32 0, .slice none 0 0, .slice none 0 0, .slice none 0 0, .int .i64 0, .slice none 0 0, .int .u32 0, .slice none 0 0, .slice none 0 0, .slice none 0 0]) 43 (some 0)) := by rw [oS1.get _ (by omega)]; exact q15'
            have dk1_1 : D1.get pb = some (.cells cells e' md) := by rw [oS1.get _ (by omega)]; exact s4
            obtain ⟨D2, hD2⟩ : ∃ D, D = D1.alloc (.cells [.slice none 0 0, .int .u32 0, .int .u32 0, .int .u32 0, .int .i64 0, .slice none 0 0, .int .u32 0, .slice none 0 0, .slice none 0 0, .slice none 0 0, .int .i64 0, .slice none 0 0, .int .u32 0, .slice none 0 0, .slice none 0 0, .slice none 0 0, .int .i64 0, .slice none 0 0, .int .u32 0, .slice none 0 0, .slice none 0 0, .slice none 0 0] 43 (some 0)) := ⟨_, rfl⟩
            have oS2 : Over D1 D2 := hD2 ▸ (Over.refl _).alloc _
            have nD2 : D2.next = A'.next + 2 := by rw [hD2, nx_alloc, nD1]
            have dk2_0 : D2.get b15 = some (.cells (v2 :: [.int .u32 0, .int .u32 0, .int .u32 0, .int .i64 0, .slice none 0 0, .int .u32 0, .slice none 0 0, .slice none 0 0, .slice none 0 0, .int .i64 0, .slice none 0 0, .int .u32 0, .slice none 0 0, .slice none 0 0, .slice none 0 0, .int .i64 0, .slice none 0 0, .int .u32 0, .slice none 0 0, .slice none 0 0, .slice none 0 0]) 43 (some 0)) := by rw [oS2.get _ (by omega)]; exact dk1_0
            have dk2_1 : D2.get pb = some (.cells cells e' md) := by rw [oS2.get _ (by omega)]; exact dk1_1
            have oD : Over A' D2 := oS1.trans oS2
            have nD : D2.next = A'.next + 2 := nD2
            have dy : D2.get A'.next = some (.cells [.int .i64 0, .slice none 0 0, .int .u32 0, .slice none 0 0, .slice none 0 0, .slice none 0 0] 40 (some 0)) := by rw [oS2.get _ (by omega)]; rw [hD1]; exact get_alloc_same ..
            have dx : D2.get (A'.next + 1) = some (.cells [.slice none 0 0, .int .u32 0, .int .u32 0, .int .u32 0, .int .i64 0, .slice none 0 0, .int .u32 0, .slice none 0 0, .slice none 0 0, .slice none 0 0, .int .i64 0, .slice none 0 0, .int .u32 0, .slice none 0 0, .slice none 0 0, .slice none 0 0, .int .i64 0, .slice none 0 0, .int .u32 0, .slice none 0 0, .slice none 0 0, .slice none 0 0] 43 (some 0)) := by rw [hD2, show A'.next + 1 = D1.next by omega]; exact get_alloc_same ..
            have gD : Ge (A'.hide ([])) (D2.hide (A'.next :: (A'.next + 1) :: [])) := Ge.hide oD.next (fun b hb hbL => ⟨by simp only [List.mem_cons, List.not_mem_nil, or_false, not_or] at hbL ⊢; omega, oD.get b hb⟩)
            have hap := do_ok w0 D2 (A'.next :: (A'.next + 1) :: []) (fun b hb => by first | (cases hb; done) | (simp only [List.mem_cons, List.not_mem_nil, or_false] at hb; omega)) (vI left) v2 [.int .u32 0, .int .u32 0, .int .u32 0, .int .i64 0, .slice none 0 0, .int .u32 0, .slice none 0 0, .slice none 0 0, .slice none 0 0, .int .i64 0, .slice none 0 0, .int .u32 0, .slice none 0 0, .slice none 0 0, .slice none 0 0, .int .i64 0, .slice none 0 0, .int .u32 0, .slice none 0 0, .slice none 0 0, .slice none 0 0] ⟨5, y, verN⟩ [.int .i64 5, .int .u32 y, .int .u32 0, .slice none 0 0, .slice none 0 0, .slice none 0 0] (hV2.ge gD) ⟨_, rfl, verN_c _⟩ (by rw [vI_len]; omega) rfl rfl ⟨hy1, hy2⟩ verN_small; unfold DoPost at hap; rw [doL_got hymem] at hap
            refine Ords.cut [0, 1, 2, 3, 4, 5, 10, 11] [7, 8, 9, 12, 13] 6 (by kernel_rfl) ?_
            refine Ords.run [⟨false, [], [0, 1, 2]⟩, ⟨false, [], [0, 1, 2]⟩, ⟨false, [], [0, 1, 2]⟩, ⟨false, [1, 2], [0, 1, 2]⟩, ⟨false, [3, 1, 2], [0, 1, 2]⟩, ⟨false, [4, 3, 1, 2], [0, 1, 2]⟩, ⟨true, [7], [1]⟩, ⟨true, [], [0]⟩] [A', D1, D2] 2 (by kernel_rfl) (by kernel_rfl) rfl ?_
            simp (maxSteps := 1000000) (disch := (first | omega | (simp only [nx_alloc, nx_upd, len_cons, len_nil, List.length_set, List.length_map, List.length_append] <;> omega) | fail)) only [Nat.reduceAdd, Nat.reduceSub, Nat.reduceMul, Nat.reduceLT, Nat.reduceLeDiff, Nat.reduceEqDiff, ↓reduceIte, reduceCtorEq, Int.reduceAdd, Int.reduceSub, Int.reduceMul, Int.reduceLT, Int.reduceLE, Int.reduceEq, Int.reduceNe, Int.reduceToNat, Int.reduceNeg, go_sem, subOps_toList, getD_arr0, getD_arrS, reO_mk, reO_mkG, ixOf, Option.bind_none, Option.map_none, thenN_normal, after_ret, t15, t17, t23, q15', s3, s4, s5, nD1, dk1_0, dk1_1, nD2, dk2_0, dk2_1, ← hD1, ← hD2]
            refine hap.mono ?_
            rintro _ A2 ⟨v', rc', rfl, o2, hv2, hr2⟩
            have n2 := o2.next
            have hxl : (v' :: [.int .u32 0, .int .u32 0, .int .u32 0, .int .i64 0, .slice none 0 0, .int .u32 0, .slice none 0 0, .slice none 0 0, .slice none 0 0, .int .i64 0, .slice none 0 0, .int .u32 0, .slice none 0 0, .slice none 0 0, .slice none 0 0, .int .i64 0, .slice none 0 0, .int .u32 0, .slice none 0 0, .slice none 0 0, .slice none 0 0]).length = 22 := rfl
            have hxc : (v' :: [.int .u32 0, .int .u32 0, .int .u32 0, .int .i64 0, .slice none 0 0, .int .u32 0, .slice none 0 0, .slice none 0 0, .slice none 0 0, .int .i64 0, .slice none 0 0, .int .u32 0, .slice none 0 0, .slice none 0 0, .slice none 0 0, .int .i64 0, .slice none 0 0, .int .u32 0, .slice none 0 0, .slice none 0 0, .slice none 0 0]).all cell1 = true := by obtain ⟨_, _, rfl⟩ := hv2.sl; rfl
            have hyl := hr2.len
            have hyc := hr2.cell
            obtain ⟨G, hGG⟩ : ∃ G, G = A2 := ⟨_, rfl⟩
            have oG : Over A2 G := hGG ▸ Over.refl _
            have nG : G.next = A2.next + 0 := hGG ▸ rfl
            have gx : G.get (A'.next + 1) = some (.cells [.slice none 0 0, .int .u32 0, .int .u32 0, .int .u32 0, .int .i64 0, .slice none 0 0, .int .u32 0, .slice none 0 0, .slice none 0 0, .slice none 0 0, .int .i64 0, .slice none 0 0, .int .u32 0, .slice none 0 0, .slice none 0 0, .slice none 0 0, .int .i64 0, .slice none 0 0, .int .u32 0, .slice none 0 0, .slice none 0 0, .slice none 0 0] 43 (some 0)) := by rw [oG.get _ (by omega), o2.get _ (by omega)]; exact dx
            have gy : G.get A'.next = some (.cells [.int .i64 0, .slice none 0 0, .int .u32 0, .slice none 0 0, .slice none 0 0, .slice none 0 0] 40 (some 0)) := by rw [oG.get _ (by omega), o2.get _ (by omega)]; exact dy
            have st1 := stN (n := 22) (X := G) (b := (A'.next + 1)) (z := [.slice none 0 0, .int .u32 0, .int .u32 0, .int .u32 0, .int .i64 0, .slice none 0 0, .int .u32 0, .slice none 0 0, .slice none 0 0, .slice none 0 0, .int .i64 0, .slice none 0 0, .int .u32 0, .slice none 0 0, .slice none 0 0, .slice none 0 0, .int .i64 0, .slice none 0 0, .int .u32 0, .slice none 0 0, .slice none 0 0, .slice none 0 0]) (e := 43) rfl hxl hxc
            have st2 := stN (n := 6) (X := G.upd (A'.next + 1) (some (.cells (v' :: [.int .u32 0, .int .u32 0, .int .u32 0, .int .i64 0, .slice none 0 0, .int .u32 0, .slice none 0 0, .slice none 0 0, .slice none 0 0, .int .i64 0, .slice none 0 0, .int .u32 0, .slice none 0 0, .slice none 0 0, .slice none 0 0, .int .i64 0, .slice none 0 0, .int .u32 0, .slice none 0 0, .slice none 0 0, .slice none 0 0]) 43 (some 0)))) (b := A'.next) (z := [.int .i64 0, .slice none 0 0, .int .u32 0, .slice none 0 0, .slice none 0 0, .slice none 0 0]) (e := 40) rfl hyl hyc
            have gy2 : (G.upd (A'.next + 1) (some (.cells (v' :: [.int .u32 0, .int .u32 0, .int .u32 0, .int .i64 0, .slice none 0 0, .int .u32 0, .slice none 0 0, .slice none 0 0, .slice none 0 0, .int .i64 0, .slice none 0 0, .int .u32 0, .slice none 0 0, .slice none 0 0, .slice none 0 0, .int .i64 0, .slice none 0 0, .int .u32 0, .slice none 0 0, .slice none 0 0, .slice none 0 0]) 43 (some 0)))).get A'.next = some (.cells [.int .i64 0, .slice none 0 0, .int .u32 0, .slice none 0 0, .slice none 0 0, .slice none 0 0] 40 (some 0)) := by rw [St.get_upd, if_neg (by omega)]; exact gy
            rw [hGG] at gx gy gy2 st1 st2 oG nG
            simp (maxSteps := 1000000) (disch := (first | omega | (simp only [nx_alloc, nx_upd, len_cons, len_nil, List.length_set, List.length_map, List.length_append] <;> omega) | fail)) only [Nat.reduceAdd, Nat.reduceSub, Nat.reduceMul, Nat.reduceLT, Nat.reduceLeDiff, Nat.reduceEqDiff, ↓reduceIte, reduceCtorEq, Int.reduceAdd, Int.reduceSub, Int.reduceMul, Int.reduceLT, Int.reduceLE, Int.reduceEq, Int.reduceNe, Int.reduceToNat, Int.reduceNeg, go_sem]
            refine Ords.run [⟨false, [], [0]⟩, ⟨false, [0], [0]⟩, ⟨false, [0], [0, 1]⟩, ⟨true, [1, 0], [0]⟩, ⟨true, [2, 3, 0, 1], [1]⟩] [A2, A2.upd (A'.next + 1) (some (.cells (v' :: [.int .u32 0, .int .u32 0, .int .u32 0, .int .i64 0, .slice none 0 0, .int .u32 0, .slice none 0 0, .slice none 0 0, .slice none 0 0, .int .i64 0, .slice none 0 0, .int .u32 0, .slice none 0 0, .slice none 0 0, .slice none 0 0, .int .i64 0, .slice none 0 0, .int .u32 0, .slice none 0 0, .slice none 0 0, .slice none 0 0]) 43 (some 0))), (A2.upd (A'.next + 1) (some (.cells (v' :: [.int .u32 0, .int .u32 0, .int .u32 0, .int .i64 0, .slice none 0 0, .int .u32 0, .slice none 0 0, .slice none 0 0, .slice none 0 0, .int .i64 0, .slice none 0 0, .int .u32 0, .slice none 0 0, .slice none 0 0, .slice none 0 0, .int .i64 0, .slice none 0 0, .int .u32 0, .slice none 0 0, .slice none 0 0, .slice none 0 0]) 43 (some 0)))).upd A'.next (some (.cells rc' 40 (some 0)))] 2 (by kernel_rfl) (by kernel_rfl) rfl ?_
            simp (maxSteps := 1000000) (disch := (first | omega | (simp only [nx_alloc, nx_upd, len_cons, len_nil, List.length_set, List.length_map, List.length_append] <;> omega) | fail)) only [Nat.reduceAdd, Nat.reduceSub, Nat.reduceMul, Nat.reduceLT, Nat.reduceLeDiff, Nat.reduceEqDiff, ↓reduceIte, reduceCtorEq, Int.reduceAdd, Int.reduceSub, Int.reduceMul, Int.reduceLT, Int.reduceLE, Int.reduceEq, Int.reduceNe, Int.reduceToNat, Int.reduceNeg, go_sem, subOps_toList, getD_arr0, getD_arrS, reO_mk, reO_mkG, ixOf, Option.bind_none, Option.map_none, thenN_normal, after_ret, gx, gy, gy2, st1, st2]
            have oE : Over A' ((A2.upd (A'.next + 1) (some (.cells (v' :: [.int .u32 0, .int .u32 0, .int .u32 0, .int .i64 0, .slice none 0 0, .int .u32 0, .slice none 0 0, .slice none 0 0, .slice none 0 0, .int .i64 0, .slice none 0 0, .int .u32 0, .slice none 0 0, .slice none 0 0, .slice none 0 0, .int .i64 0, .slice none 0 0, .int .u32 0, .slice none 0 0, .slice none 0 0, .slice none 0 0]) 43 (some 0)))).upd A'.next (some (.cells rc' 40 (some 0)))) := by refine ⟨by (try simp only [nx_upd]); omega, fun b hb => ?_⟩; rw [St.get_upd, if_neg (by omega), St.get_upd, if_neg (by omega), oG.get b (by omega), o2.get b (by omega), oD.get b hb]
            have gE : Ge (A2.hide (A'.next :: (A'.next + 1) :: [])) (((A2.upd (A'.next + 1) (some (.cells (v' :: [.int .u32 0, .int .u32 0, .int .u32 0, .int .i64 0, .slice none 0 0, .int .u32 0, .slice none 0 0, .slice none 0 0, .slice none 0 0, .int .i64 0, .slice none 0 0, .int .u32 0, .slice none 0 0, .slice none 0 0, .slice none 0 0, .int .i64 0, .slice none 0 0, .int .u32 0, .slice none 0 0, .slice none 0 0, .slice none 0 0]) 43 (some 0)))).upd A'.next (some (.cells rc' 40 (some 0)))).hide (A'.next :: (A'.next + 1) :: [])) := Ge.hide (by (try simp only [nx_upd]); omega) (fun b hb hbL => by
              have e1 : b ≠ (A'.next + 1) := by intro e; apply hbL; rw [e]; simp
              have e2 : b ≠ A'.next := by intro e; apply hbL; rw [e]; simp
              refine ⟨?_, by rw [St.get_upd, if_neg e2, St.get_upd, if_neg e1, oG.get b hb]⟩
              simp only [List.mem_cons, not_or] at hbL ⊢
              exact ⟨e2, e1, hbL.2.2⟩)
            refine ⟨_, A'.next, rc', rfl, ?_, ?_, ?_, ?_, ?_, ?_, ?_, ?_, get_upd_same .., (hr2.ge gE).ge (hide_ge _ _)⟩
            · simp (maxSteps := 1000000) (disch := (first | omega | (simp only [nx_alloc, nx_upd, len_cons, len_nil, List.length_set, List.length_map, List.length_append] <;> omega) | fail)) only [Nat.reduceAdd, Nat.reduceSub, Nat.reduceMul, Nat.reduceLT, Nat.reduceLeDiff, Nat.reduceEqDiff, ↓reduceIte, reduceCtorEq, Int.reduceAdd, Int.reduceSub, Int.reduceMul, Int.reduceLT, Int.reduceLE, Int.reduceEq, Int.reduceNe, Int.reduceToNat, Int.reduceNeg, go_sem, t14]
            · simp (maxSteps := 1000000) (disch := (first | omega | (simp only [nx_alloc, nx_upd, len_cons, len_nil, List.length_set, List.length_map, List.length_append] <;> omega) | fail)) only [Nat.reduceAdd, Nat.reduceSub, Nat.reduceMul, Nat.reduceLT, Nat.reduceLeDiff, Nat.reduceEqDiff, ↓reduceIte, reduceCtorEq, Int.reduceAdd, Int.reduceSub, Int.reduceMul, Int.reduceLT, Int.reduceLE, Int.reduceEq, Int.reduceNe, Int.reduceToNat, Int.reduceNeg, go_sem, t15]
            · simp (maxSteps := 1000000) (disch := (first | omega | (simp only [nx_alloc, nx_upd, len_cons, len_nil, List.length_set, List.length_map, List.length_append] <;> omega) | fail)) only [Nat.reduceAdd, Nat.reduceSub, Nat.reduceMul, Nat.reduceLT, Nat.reduceLeDiff, Nat.reduceEqDiff, ↓reduceIte, reduceCtorEq, Int.reduceAdd, Int.reduceSub, Int.reduceMul, Int.reduceLT, Int.reduceLE, Int.reduceEq, Int.reduceNe, Int.reduceToNat, Int.reduceNeg, go_sem, t17]
            · simp (maxSteps := 1000000) (disch := (first | omega | (simp only [nx_alloc, nx_upd, len_cons, len_nil, List.length_set, List.length_map, List.length_append] <;> omega) | fail)) only [Nat.reduceAdd, Nat.reduceSub, Nat.reduceMul, Nat.reduceLT, Nat.reduceLeDiff, Nat.reduceEqDiff, ↓reduceIte, reduceCtorEq, Int.reduceAdd, Int.reduceSub, Int.reduceMul, Int.reduceLT, Int.reduceLE, Int.reduceEq, Int.reduceNe, Int.reduceToNat, Int.reduceNeg, go_sem, t20]
            · simp (maxSteps := 1000000) (disch := (first | omega | (simp only [nx_alloc, nx_upd, len_cons, len_nil, List.length_set, List.length_map, List.length_append] <;> omega) | fail)) only [Nat.reduceAdd, Nat.reduceSub, Nat.reduceMul, Nat.reduceLT, Nat.reduceLeDiff, Nat.reduceEqDiff, ↓reduceIte, reduceCtorEq, Int.reduceAdd, Int.reduceSub, Int.reduceMul, Int.reduceLT, Int.reduceLE, Int.reduceEq, Int.reduceNe, Int.reduceToNat, Int.reduceNeg, go_sem, t23]
            · simp (maxSteps := 1000000) (disch := (first | omega | (simp only [nx_alloc, nx_upd, len_cons, len_nil, List.length_set, List.length_map, List.length_append] <;> omega) | fail)) only [Nat.reduceAdd, Nat.reduceSub, Nat.reduceMul, Nat.reduceLT, Nat.reduceLeDiff, Nat.reduceEqDiff, ↓reduceIte, reduceCtorEq, Int.reduceAdd, Int.reduceSub, Int.reduceMul, Int.reduceLT, Int.reduceLE, Int.reduceEq, Int.reduceNe, Int.reduceToNat, Int.reduceNeg, go_sem]
            · (try simp only [nx_upd]); omega
            · exact oE.get
    · rintro e a A11 ⟨rfl, ρ', b25, rc', rfl, z14, z15, z17, z20, z23, z25, n11, k11, g25, hR25⟩
      have o11 : Over A' A11 := ⟨n11, k11⟩
      obtain ⟨rw5, rvs5, rfl, _, p5, p6, p7, rfl, _⟩ := hR25
      have q20b : A11.get b20 = _ := (o11.get _ hbn2).trans q20'
      obtain ⟨ib, io, i1, i2, i3, icl, ie, im, i4, i5⟩ := View.at1 (P := Try.prog) (e := 23) (View.over hid10 (oI.trans o11)) Try.sz23 (u32E_at' _ j y hy)
      obtain ⟨jb, jo, j1, j2, j3, jcl, je, jm, j4, j5⟩ := View.at1 (P := Try.prog) (e := 23) (Row.view (Row.over hrow10 (oI.trans o11))) Try.sz23 (u32E_at' _ j y hy)
      simp (maxSteps := 1000000) (disch := (first | omega | (simp only [nx_alloc, nx_upd, len_cons, len_nil, List.length_set, List.length_map, List.length_append] <;> omega) | fail)) only [Nat.reduceAdd, Nat.reduceSub, Nat.reduceMul, Nat.reduceLT, Nat.reduceLeDiff, Nat.reduceEqDiff, ↓reduceIte, reduceCtorEq, Int.reduceAdd, Int.reduceSub, Int.reduceMul, Int.reduceLT, Int.reduceLE, Int.reduceEq, Int.reduceNe, Int.reduceToNat, Int.reduceNeg, go_sem]
      refine aw_draw2 [⟨false, [], [0]⟩, ⟨false, [0], [0]⟩, ⟨false, [], [0]⟩, ⟨false, [0, 1, 2], [0]⟩, ⟨false, [0, 1, 2, 3], [0]⟩, ⟨false, [], [0]⟩, ⟨false, [], [0]⟩, ⟨false, [5, 6], [0]⟩, ⟨false, [5, 6, 7], [0]⟩, ⟨false, [0, 1, 2, 3, 4, 5, 6, 7, 8], [0]⟩, ⟨false, [0, 1, 2, 3, 4, 5, 6, 7, 8, 9], [0]⟩, ⟨false, [0, 1, 2, 3, 4, 5, 6, 7, 8, 9, 10], [0]⟩, ⟨false, [0, 1, 2, 3, 4, 5, 6, 7, 8, 9, 10, 11], [0]⟩, ⟨false, [0, 1, 2, 3, 4, 5, 6, 7, 8, 9, 10, 11, 12], [0]⟩, ⟨false, [0, 1, 2, 3, 4, 5, 6, 7, 8, 9, 10, 11, 12, 13], [0]⟩, ⟨false, [0, 1, 2, 3, 4, 5, 6, 7, 8, 9, 10, 11, 12, 13, 14], [0]⟩, ⟨false, [0, 1, 2, 3, 4, 5, 6, 7, 8, 9, 10, 11, 12, 13, 14, 15], [0]⟩, ⟨false, [0, 1, 2, 3, 4, 5, 6, 7, 8, 9, 10, 11, 12, 13, 14, 15, 16], [0]⟩, ⟨false, [0, 1, 2, 3, 4, 5, 6, 7, 8, 9, 10, 11, 12, 13, 14, 15, 16, 17], [0]⟩, ⟨false, [0, 1, 2, 3, 4, 5, 6, 7, 8, 9, 10, 11, 12, 13, 14, 15], [0]⟩, ⟨false, [0, 1, 2, 3, 4, 5, 6, 7, 8, 9, 10, 11, 12, 13, 14, 15], [0]⟩, ⟨false, [0, 1, 2, 3, 4, 5, 6, 7, 8, 9, 10, 11, 12, 13, 14, 15, 19, 20], [0]⟩, ⟨false, [0, 1, 2, 3, 4, 5, 6, 7, 8, 9, 10, 11, 12, 13, 14, 15, 19, 20, 21], [0]⟩, ⟨false, [0, 1, 2, 3, 4, 5, 6, 7, 8, 9, 10, 11, 12, 13, 14, 15, 16, 17, 18, 19, 20, 21, 22], [0]⟩, ⟨false, [0, 1, 2, 3, 4, 5, 6, 7, 8, 9, 10, 11, 12, 13, 14, 15, 16, 17, 18, 19, 20, 21, 22, 23], [0]⟩] [A11] 0 (by kernel_rfl) (by kernel_rfl) rfl ?_
      simp (maxSteps := 1000000) (disch := (first | omega | (simp only [nx_alloc, nx_upd, len_cons, len_nil, List.length_set, List.length_map, List.length_append] <;> omega) | fail)) only [Nat.reduceAdd, Nat.reduceSub, Nat.reduceMul, Nat.reduceLT, Nat.reduceLeDiff, Nat.reduceEqDiff, ↓reduceIte, reduceCtorEq, Int.reduceAdd, Int.reduceSub, Int.reduceMul, Int.reduceLT, Int.reduceLE, Int.reduceEq, Int.reduceNe, Int.reduceToNat, Int.reduceNeg, go_sem, z17, z20, z23, z25, q20b, i3, i4, i5, j3, j4, j5, g25]
      refine ⟨k2 - 1, by omega, _, j + 1, rfl, by omega, by omega, oI.trans o11, ?_, ?_, ?_, ?_, ?_⟩
      · simp (maxSteps := 1000000) (disch := (first | omega | (simp only [nx_alloc, nx_upd, len_cons, len_nil, List.length_set, List.length_map, List.length_append] <;> omega) | fail)) only [Nat.reduceAdd, Nat.reduceSub, Nat.reduceMul, Nat.reduceLT, Nat.reduceLeDiff, Nat.reduceEqDiff, ↓reduceIte, reduceCtorEq, Int.reduceAdd, Int.reduceSub, Int.reduceMul, Int.reduceLT, Int.reduceLE, Int.reduceEq, Int.reduceNe, Int.reduceToNat, Int.reduceNeg, go_sem, z14]
      · simp (maxSteps := 1000000) (disch := (first | omega | (simp only [nx_alloc, nx_upd, len_cons, len_nil, List.length_set, List.length_map, List.length_append] <;> omega) | fail)) only [Nat.reduceAdd, Nat.reduceSub, Nat.reduceMul, Nat.reduceLT, Nat.reduceLeDiff, Nat.reduceEqDiff, ↓reduceIte, reduceCtorEq, Int.reduceAdd, Int.reduceSub, Int.reduceMul, Int.reduceLT, Int.reduceLE, Int.reduceEq, Int.reduceNe, Int.reduceToNat, Int.reduceNeg, go_sem, z15]
      · simp (maxSteps := 1000000) (disch := (first | omega | (simp only [nx_alloc, nx_upd, len_cons, len_nil, List.length_set, List.length_map, List.length_append] <;> omega) | fail)) only [Nat.reduceAdd, Nat.reduceSub, Nat.reduceMul, Nat.reduceLT, Nat.reduceLeDiff, Nat.reduceEqDiff, ↓reduceIte, reduceCtorEq, Int.reduceAdd, Int.reduceSub, Int.reduceMul, Int.reduceLT, Int.reduceLE, Int.reduceEq, Int.reduceNe, Int.reduceToNat, Int.reduceNeg, go_sem, z17]
      · simp (maxSteps := 1000000) (disch := (first | omega | (simp only [nx_alloc, nx_upd, len_cons, len_nil, List.length_set, List.length_map, List.length_append] <;> omega) | fail)) only [Nat.reduceAdd, Nat.reduceSub, Nat.reduceMul, Nat.reduceLT, Nat.reduceLeDiff, Nat.reduceEqDiff, ↓reduceIte, reduceCtorEq, Int.reduceAdd, Int.reduceSub, Int.reduceMul, Int.reduceLT, Int.reduceLE, Int.reduceEq, Int.reduceNe, Int.reduceToNat, Int.reduceNeg, go_sem, z20]
      · simp (maxSteps := 1000000) (disch := (first | omega | (simp only [nx_alloc, nx_upd, len_cons, len_nil, List.length_set, List.length_map, List.length_append] <;> omega) | fail)) only [Nat.reduceAdd, Nat.reduceSub, Nat.reduceMul, Nat.reduceLT, Nat.reduceLeDiff, Nat.reduceEqDiff, ↓reduceIte, reduceCtorEq, Int.reduceAdd, Int.reduceSub, Int.reduceMul, Int.reduceLT, Int.reduceLE, Int.reduceEq, Int.reduceNe, Int.reduceToNat, Int.reduceNeg, go_sem]
        rfl
  have e1 : ((i : Int) < l.length) := by omega
  obtain ⟨x, hx⟩ : ∃ x, l[i]? = some x := ⟨_, List.getElem?_eq_getElem (by omega)⟩
  have hxo := okl x (List.mem_of_getElem? hx)
  unfold u8Ok at hxo
  obtain ⟨xb, xo, x1, x2, x3, xcl, xe, xm, x4, x5⟩ := View.at1 (P := Try.prog) (e := 5) (View.over hv ho) Try.sz5 (u8E_at _ i x hx)
  have hrem : x.tmod 12 = x % 12 := Int.tmod_eq_emod_of_nonneg hxo.1
  have hr1 : 0 ≤ x % 12 := by omega
  have hr2 : x % 12 < 12 := by omega
  have hLB : ∀ b ∈ b5 :: rbL u, b < A'.next := fun b hb => by
    rcases List.mem_cons.1 hb with rfl | hb
    · omega
    · exact (hrbu b (mem_rbL.1 hb)).2
  have hdo := do_ok w0 A' (b5 :: rbL u) hLB (vI (wants (l.take i))) v [.int .u32 0, .int .u32 0, .int .u32 0, .int .i64 0, .slice none 0 0, .int .u32 0, .slice none 0 0, .slice none 0 0, .slice none 0 0, .int .i64 0, .slice none 0 0, .int .u32 0, .slice none 0 0, .slice none 0 0, .slice none 0 0, .int .i64 0, .slice none 0 0, .int .u32 0, .slice none 0 0, .slice none 0 0, .slice none 0 0] ⟨1, 0, ⟨x % 12, [], [], []⟩⟩ _ hV ⟨_, rfl, emp_c' _ _⟩ (by rw [vI_len]; omega) rfl rfl ⟨Int.le_refl 0, (by decide : (0 : Int) < 4294967296)⟩ (emp_small' _)
  unfold DoPost at hdo
  rw [doL_wst, ← wants_snoc] at hdo
  simp (maxSteps := 1000000) (disch := (first | omega | (simp only [nx_alloc, nx_upd, len_cons, len_nil, List.length_set, List.length_map, List.length_append] <;> omega) | fail)) only [Nat.reduceAdd, Nat.reduceSub, Nat.reduceMul, Nat.reduceLT, Nat.reduceLeDiff, Nat.reduceEqDiff, ↓reduceIte, reduceCtorEq, Int.reduceAdd, Int.reduceSub, Int.reduceMul, Int.reduceLT, Int.reduceLE, Int.reduceEq, Int.reduceNe, Int.reduceToNat, Int.reduceNeg, go_sem, r0, r5, r7, hlen', x3, x4, x5, hrem, hg]
  refine hdo.mono ?_
  rintro _ A3 ⟨v', rc', rfl, o3, hv3, hr3⟩
  have n3 := o3.next
  have hcx : (v' :: [.int .u32 0, .int .u32 0, .int .u32 0, .int .i64 0, .slice none 0 0, .int .u32 0, .slice none 0 0, .slice none 0 0, .slice none 0 0, .int .i64 0, .slice none 0 0, .int .u32 0, .slice none 0 0, .slice none 0 0, .slice none 0 0, .int .i64 0, .slice none 0 0, .int .u32 0, .slice none 0 0, .slice none 0 0, .slice none 0 0]).length = 22 ∧ (v' :: [.int .u32 0, .int .u32 0, .int .u32 0, .int .i64 0, .slice none 0 0, .int .u32 0, .slice none 0 0, .slice none 0 0, .slice none 0 0, .int .i64 0, .slice none 0 0, .int .u32 0, .slice none 0 0, .slice none 0 0, .slice none 0 0, .int .i64 0, .slice none 0 0, .int .u32 0, .slice none 0 0, .slice none 0 0, .slice none 0 0]).all cell1 = true := ⟨rfl, by obtain ⟨_, _, rfl⟩ := hv3.sl; rfl⟩
  obtain ⟨C1, A4, st7, gC1, st8, o4, n4, g9, g10⟩ := two_st A3 hcx hr3.len hr3.cell
  have hrow4 : IdRow A4 (A.next + 1) (wants (l.take i)) u := Row.over hrow (o3.trans o4)
  obtain ⟨rw_, rvs, rfl, _, _⟩ := hr3
  simp (maxSteps := 1000000) (disch := (first | omega | (simp only [nx_alloc, nx_upd, len_cons, len_nil, List.length_set, List.length_map, List.length_append] <;> omega) | fail)) only [Nat.reduceAdd, Nat.reduceSub, Nat.reduceMul, Nat.reduceLT, Nat.reduceLeDiff, Nat.reduceEqDiff, ↓reduceIte, reduceCtorEq, Int.reduceAdd, Int.reduceSub, Int.reduceMul, Int.reduceLT, Int.reduceLE, Int.reduceEq, Int.reduceNe, Int.reduceToNat, Int.reduceNeg, go_sem, st7, gC1, st8]
  have hV4 : VsV (A4.hide (b5 :: rbL u)) (vI (wants (l.take i ++ [x]))) v' := hv3.ge (hide_over o4 _)
  have o04 : Over A A4 := ho.trans (o3.trans o4)
  have g5 : A4.get b5 = some (.cells (v :: [.int .u32 0, .int .u32 0, .int .u32 0, .int .i64 0, .slice none 0 0, .int .u32 0, .slice none 0 0, .slice none 0 0, .slice none 0 0, .int .i64 0, .slice none 0 0, .int .u32 0, .slice none 0 0, .slice none 0 0, .slice none 0 0, .int .i64 0, .slice none 0 0, .int .u32 0, .slice none 0 0, .slice none 0 0, .slice none 0 0]) 43 (some 0)) := by rw [(o3.trans o4).get _ (by omega)]; exact hg
  have hlu := View.lenU (e := 23) (Row.view hrow4)
  have n4' : A'.next ≤ A4.next := by omega
  clear hg hV hdo hv3 st7 gC1 st8 hrow
  obtain ⟨w, hwq⟩ : ∃ w, w = wants (l.take i) := ⟨_, rfl⟩
  have hsn : wants (l.take i ++ [x]) = wst w (x % 12) := by rw [wants_snoc, hwq]
  rw [hsn] at hV4
  rw [← hwq] at hrow4 hlu hnd hw8 g10
  have htake : l.take (i + 1) = l.take i ++ [x] := by rw [List.take_add_one, hx]; rfl
  have hw8' : w.length ≤ 1073741824 := by omega
  refine aw_loop (fun k2 y A5 => ∃ (ρ : Nat → Value) (j : Nat), y = E 190 ρ [] ∧ k2 = w.length - j ∧ j ≤ w.length ∧ A5 = A4 ∧ ρ 11 = .bool (decide (x % 12 ∈ w.take j)) ∧ ρ 12 = .int .i64 j ∧
      ρ 0 = iv ∧ ρ 1 = .int .u8 gone ∧ ρ 5 = .pointer (some ⟨b5, 0, none⟩) ∧ ρ 6 = u ∧ ρ 7 = .int .i64 i ∧ ρ 8 = .int .u32 (x % 12) ∧ ρ 9 = .pointer (some ⟨A3.next, 0, none⟩) ∧ ρ 10 = .pointer (some ⟨A3.next + 1, 0, none⟩)) w.length
    ⟨_, 0, rfl, rfl, Nat.zero_le _, rfl, rfl, rfl, r0, r1, r5, r6, r7, rfl, rfl, rfl⟩ ?_
  clear r0 r1 r5 r6 r7
  rintro k2 y A5 ⟨ρ, j, rfl, hk2, hj, rfl, r11, r12, r0, r1, r5, r6, r7, r8, r9, r10⟩
  refine aw_of ?_
  by_cases hjend : j = w.length
  rotate_left
  · have e2 : ((j : Int) < w.length) := by omega
    obtain ⟨y, hy⟩ : ∃ y, w[j]? = some y := ⟨_, List.getElem?_eq_getElem (by omega)⟩
    obtain ⟨yb, yo, y1, y2, y3, ycl, ye, ym, y4, y5⟩ := View.at1 (P := Try.prog) (e := 23) (Row.view hrow4) Try.sz23 (u32E_at' _ j y hy)
    have htk : w.take (j + 1) = w.take j ++ [y] := by rw [List.take_add_one, hy]; rfl
    by_cases hin : x % 12 ∈ w.take j
    · have hin' : x % 12 ∈ w.take (j + 1) := by rw [htk]; exact List.mem_append_left _ hin
      simp (maxSteps := 1000000) (disch := (first | omega | (simp only [nx_alloc, nx_upd, len_cons, len_nil, List.length_set, List.length_map, List.length_append] <;> omega) | fail)) only [Nat.reduceAdd, Nat.reduceSub, Nat.reduceMul, Nat.reduceLT, Nat.reduceLeDiff, Nat.reduceEqDiff, ↓reduceIte, reduceCtorEq, Int.reduceAdd, Int.reduceSub, Int.reduceMul, Int.reduceLT, Int.reduceLE, Int.reduceEq, Int.reduceNe, Int.reduceToNat, Int.reduceNeg, go_sem, r6, r8, r11, r12, hlu, hin]
      refine ⟨k2 - 1, by omega, _, j + 1, rfl, by omega, by omega, ?_, ?_, ?_, ?_, ?_, ?_, ?_, ?_, ?_, ?_⟩
      · simp (maxSteps := 1000000) (disch := (first | omega | (simp only [nx_alloc, nx_upd, len_cons, len_nil, List.length_set, List.length_map, List.length_append] <;> omega) | fail)) only [Nat.reduceAdd, Nat.reduceSub, Nat.reduceMul, Nat.reduceLT, Nat.reduceLeDiff, Nat.reduceEqDiff, ↓reduceIte, reduceCtorEq, Int.reduceAdd, Int.reduceSub, Int.reduceMul, Int.reduceLT, Int.reduceLE, Int.reduceEq, Int.reduceNe, Int.reduceToNat, Int.reduceNeg, go_sem, hin']
      · simp (maxSteps := 1000000) (disch := (first | omega | (simp only [nx_alloc, nx_upd, len_cons, len_nil, List.length_set, List.length_map, List.length_append] <;> omega) | fail)) only [Nat.reduceAdd, Nat.reduceSub, Nat.reduceMul, Nat.reduceLT, Nat.reduceLeDiff, Nat.reduceEqDiff, ↓reduceIte, reduceCtorEq, Int.reduceAdd, Int.reduceSub, Int.reduceMul, Int.reduceLT, Int.reduceLE, Int.reduceEq, Int.reduceNe, Int.reduceToNat, Int.reduceNeg, go_sem]
        rfl
      · simp (maxSteps := 1000000) (disch := (first | omega | (simp only [nx_alloc, nx_upd, len_cons, len_nil, List.length_set, List.length_map, List.length_append] <;> omega) | fail)) only [Nat.reduceAdd, Nat.reduceSub, Nat.reduceMul, Nat.reduceLT, Nat.reduceLeDiff, Nat.reduceEqDiff, ↓reduceIte, reduceCtorEq, Int.reduceAdd, Int.reduceSub, Int.reduceMul, Int.reduceLT, Int.reduceLE, Int.reduceEq, Int.reduceNe, Int.reduceToNat, Int.reduceNeg, go_sem, r0]
      · simp (maxSteps := 1000000) (disch := (first | omega | (simp only [nx_alloc, nx_upd, len_cons, len_nil, List.length_set, List.length_map, List.length_append] <;> omega) | fail)) only [Nat.reduceAdd, Nat.reduceSub, Nat.reduceMul, Nat.reduceLT, Nat.reduceLeDiff, Nat.reduceEqDiff, ↓reduceIte, reduceCtorEq, Int.reduceAdd, Int.reduceSub, Int.reduceMul, Int.reduceLT, Int.reduceLE, Int.reduceEq, Int.reduceNe, Int.reduceToNat, Int.reduceNeg, go_sem, r1]
      · simp (maxSteps := 1000000) (disch := (first | omega | (simp only [nx_alloc, nx_upd, len_cons, len_nil, List.length_set, List.length_map, List.length_append] <;> omega) | fail)) only [Nat.reduceAdd, Nat.reduceSub, Nat.reduceMul, Nat.reduceLT, Nat.reduceLeDiff, Nat.reduceEqDiff, ↓reduceIte, reduceCtorEq, Int.reduceAdd, Int.reduceSub, Int.reduceMul, Int.reduceLT, Int.reduceLE, Int.reduceEq, Int.reduceNe, Int.reduceToNat, Int.reduceNeg, go_sem, r5]
      · simp (maxSteps := 1000000) (disch := (first | omega | (simp only [nx_alloc, nx_upd, len_cons, len_nil, List.length_set, List.length_map, List.length_append] <;> omega) | fail)) only [Nat.reduceAdd, Nat.reduceSub, Nat.reduceMul, Nat.reduceLT, Nat.reduceLeDiff, Nat.reduceEqDiff, ↓reduceIte, reduceCtorEq, Int.reduceAdd, Int.reduceSub, Int.reduceMul, Int.reduceLT, Int.reduceLE, Int.reduceEq, Int.reduceNe, Int.reduceToNat, Int.reduceNeg, go_sem, r6]
      · simp (maxSteps := 1000000) (disch := (first | omega | (simp only [nx_alloc, nx_upd, len_cons, len_nil, List.length_set, List.length_map, List.length_append] <;> omega) | fail)) only [Nat.reduceAdd, Nat.reduceSub, Nat.reduceMul, Nat.reduceLT, Nat.reduceLeDiff, Nat.reduceEqDiff, ↓reduceIte, reduceCtorEq, Int.reduceAdd, Int.reduceSub, Int.reduceMul, Int.reduceLT, Int.reduceLE, Int.reduceEq, Int.reduceNe, Int.reduceToNat, Int.reduceNeg, go_sem, r7]
      · simp (maxSteps := 1000000) (disch := (first | omega | (simp only [nx_alloc, nx_upd, len_cons, len_nil, List.length_set, List.length_map, List.length_append] <;> omega) | fail)) only [Nat.reduceAdd, Nat.reduceSub, Nat.reduceMul, Nat.reduceLT, Nat.reduceLeDiff, Nat.reduceEqDiff, ↓reduceIte, reduceCtorEq, Int.reduceAdd, Int.reduceSub, Int.reduceMul, Int.reduceLT, Int.reduceLE, Int.reduceEq, Int.reduceNe, Int.reduceToNat, Int.reduceNeg, go_sem, r8]
      · simp (maxSteps := 1000000) (disch := (first | omega | (simp only [nx_alloc, nx_upd, len_cons, len_nil, List.length_set, List.length_map, List.length_append] <;> omega) | fail)) only [Nat.reduceAdd, Nat.reduceSub, Nat.reduceMul, Nat.reduceLT, Nat.reduceLeDiff, Nat.reduceEqDiff, ↓reduceIte, reduceCtorEq, Int.reduceAdd, Int.reduceSub, Int.reduceMul, Int.reduceLT, Int.reduceLE, Int.reduceEq, Int.reduceNe, Int.reduceToNat, Int.reduceNeg, go_sem, r9]
      · simp (maxSteps := 1000000) (disch := (first | omega | (simp only [nx_alloc, nx_upd, len_cons, len_nil, List.length_set, List.length_map, List.length_append] <;> omega) | fail)) only [Nat.reduceAdd, Nat.reduceSub, Nat.reduceMul, Nat.reduceLT, Nat.reduceLeDiff, Nat.reduceEqDiff, ↓reduceIte, reduceCtorEq, Int.reduceAdd, Int.reduceSub, Int.reduceMul, Int.reduceLT, Int.reduceLE, Int.reduceEq, Int.reduceNe, Int.reduceToNat, Int.reduceNeg, go_sem, r10]
    · simp (maxSteps := 1000000) (disch := (first | omega | (simp only [nx_alloc, nx_upd, len_cons, len_nil, List.length_set, List.length_map, List.length_append] <;> omega) | fail)) only [Nat.reduceAdd, Nat.reduceSub, Nat.reduceMul, Nat.reduceLT, Nat.reduceLeDiff, Nat.reduceEqDiff, ↓reduceIte, reduceCtorEq, Int.reduceAdd, Int.reduceSub, Int.reduceMul, Int.reduceLT, Int.reduceLE, Int.reduceEq, Int.reduceNe, Int.reduceToNat, Int.reduceNeg, go_sem, r6, r8, r11, r12, hlu, hin, y3, y4, y5]
      refine ⟨k2 - 1, by omega, _, j + 1, rfl, by omega, by omega, ?_, ?_, ?_, ?_, ?_, ?_, ?_, ?_, ?_, ?_⟩
      · simp (maxSteps := 1000000) (disch := (first | omega | (simp only [nx_alloc, nx_upd, len_cons, len_nil, List.length_set, List.length_map, List.length_append] <;> omega) | fail)) only [Nat.reduceAdd, Nat.reduceSub, Nat.reduceMul, Nat.reduceLT, Nat.reduceLeDiff, Nat.reduceEqDiff, ↓reduceIte, reduceCtorEq, Int.reduceAdd, Int.reduceSub, Int.reduceMul, Int.reduceLT, Int.reduceLE, Int.reduceEq, Int.reduceNe, Int.reduceToNat, Int.reduceNeg, go_sem]
        rw [htk]
        exact congrArg Value.bool (decide_eq_decide.2 (by simp [hin, eq_comm]))
      · simp (maxSteps := 1000000) (disch := (first | omega | (simp only [nx_alloc, nx_upd, len_cons, len_nil, List.length_set, List.length_map, List.length_append] <;> omega) | fail)) only [Nat.reduceAdd, Nat.reduceSub, Nat.reduceMul, Nat.reduceLT, Nat.reduceLeDiff, Nat.reduceEqDiff, ↓reduceIte, reduceCtorEq, Int.reduceAdd, Int.reduceSub, Int.reduceMul, Int.reduceLT, Int.reduceLE, Int.reduceEq, Int.reduceNe, Int.reduceToNat, Int.reduceNeg, go_sem]
        rfl
      · simp (maxSteps := 1000000) (disch := (first | omega | (simp only [nx_alloc, nx_upd, len_cons, len_nil, List.length_set, List.length_map, List.length_append] <;> omega) | fail)) only [Nat.reduceAdd, Nat.reduceSub, Nat.reduceMul, Nat.reduceLT, Nat.reduceLeDiff, Nat.reduceEqDiff, ↓reduceIte, reduceCtorEq, Int.reduceAdd, Int.reduceSub, Int.reduceMul, Int.reduceLT, Int.reduceLE, Int.reduceEq, Int.reduceNe, Int.reduceToNat, Int.reduceNeg, go_sem, r0]
      · simp (maxSteps := 1000000) (disch := (first | omega | (simp only [nx_alloc, nx_upd, len_cons, len_nil, List.length_set, List.length_map, List.length_append] <;> omega) | fail)) only [Nat.reduceAdd, Nat.reduceSub, Nat.reduceMul, Nat.reduceLT, Nat.reduceLeDiff, Nat.reduceEqDiff, ↓reduceIte, reduceCtorEq, Int.reduceAdd, Int.reduceSub, Int.reduceMul, Int.reduceLT, Int.reduceLE, Int.reduceEq, Int.reduceNe, Int.reduceToNat, Int.reduceNeg, go_sem, r1]
      · simp (maxSteps := 1000000) (disch := (first | omega | (simp only [nx_alloc, nx_upd, len_cons, len_nil, List.length_set, List.length_map, List.length_append] <;> omega) | fail)) only [Nat.reduceAdd, Nat.reduceSub, Nat.reduceMul, Nat.reduceLT, Nat.reduceLeDiff, Nat.reduceEqDiff, ↓reduceIte, reduceCtorEq, Int.reduceAdd, Int.reduceSub, Int.reduceMul, Int.reduceLT, Int.reduceLE, Int.reduceEq, Int.reduceNe, Int.reduceToNat, Int.reduceNeg, go_sem, r5]
      · simp (maxSteps := 1000000) (disch := (first | omega | (simp only [nx_alloc, nx_upd, len_cons, len_nil, List.length_set, List.length_map, List.length_append] <;> omega) | fail)) only [Nat.reduceAdd, Nat.reduceSub, Nat.reduceMul, Nat.reduceLT, Nat.reduceLeDiff, Nat.reduceEqDiff, ↓reduceIte, reduceCtorEq, Int.reduceAdd, Int.reduceSub, Int.reduceMul, Int.reduceLT, Int.reduceLE, Int.reduceEq, Int.reduceNe, Int.reduceToNat, Int.reduceNeg, go_sem, r6]
      · simp (maxSteps := 1000000) (disch := (first | omega | (simp only [nx_alloc, nx_upd, len_cons, len_nil, List.length_set, List.length_map, List.length_append] <;> omega) | fail)) only [Nat.reduceAdd, Nat.reduceSub, Nat.reduceMul, Nat.reduceLT, Nat.reduceLeDiff, Nat.reduceEqDiff, ↓reduceIte, reduceCtorEq, Int.reduceAdd, Int.reduceSub, Int.reduceMul, Int.reduceLT, Int.reduceLE, Int.reduceEq, Int.reduceNe, Int.reduceToNat, Int.reduceNeg, go_sem, r7]
      · simp (maxSteps := 1000000) (disch := (first | omega | (simp only [nx_alloc, nx_upd, len_cons, len_nil, List.length_set, List.length_map, List.length_append] <;> omega) | fail)) only [Nat.reduceAdd, Nat.reduceSub, Nat.reduceMul, Nat.reduceLT, Nat.reduceLeDiff, Nat.reduceEqDiff, ↓reduceIte, reduceCtorEq, Int.reduceAdd, Int.reduceSub, Int.reduceMul, Int.reduceLT, Int.reduceLE, Int.reduceEq, Int.reduceNe, Int.reduceToNat, Int.reduceNeg, go_sem, r8]
      · simp (maxSteps := 1000000) (disch := (first | omega | (simp only [nx_alloc, nx_upd, len_cons, len_nil, List.length_set, List.length_map, List.length_append] <;> omega) | fail)) only [Nat.reduceAdd, Nat.reduceSub, Nat.reduceMul, Nat.reduceLT, Nat.reduceLeDiff, Nat.reduceEqDiff, ↓reduceIte, reduceCtorEq, Int.reduceAdd, Int.reduceSub, Int.reduceMul, Int.reduceLT, Int.reduceLE, Int.reduceEq, Int.reduceNe, Int.reduceToNat, Int.reduceNeg, go_sem, r9]
      · simp (maxSteps := 1000000) (disch := (first | omega | (simp only [nx_alloc, nx_upd, len_cons, len_nil, List.length_set, List.length_map, List.length_append] <;> omega) | fail)) only [Nat.reduceAdd, Nat.reduceSub, Nat.reduceMul, Nat.reduceLT, Nat.reduceLeDiff, Nat.reduceEqDiff, ↓reduceIte, reduceCtorEq, Int.reduceAdd, Int.reduceSub, Int.reduceMul, Int.reduceLT, Int.reduceLE, Int.reduceEq, Int.reduceNe, Int.reduceToNat, Int.reduceNeg, go_sem, r10]
  have e2 : ¬ ((j : Int) < w.length) := by omega
  rw [hjend, List.take_length] at r11
  have hs9 : ∀ X, storeC X (some 22) (some (.cells (v :: [.int .u32 0, .int .u32 0, .int .u32 0, .int .i64 0, .slice none 0 0, .int .u32 0, .slice none 0 0, .slice none 0 0, .slice none 0 0, .int .i64 0, .slice none 0 0, .int .u32 0, .slice none 0 0, .slice none 0 0, .slice none 0 0, .int .i64 0, .slice none 0 0, .int .u32 0, .slice none 0 0, .slice none 0 0, .slice none 0 0]) 43 (some 0))) b5 0 (.agg (v' :: [.int .u32 0, .int .u32 0, .int .u32 0, .int .i64 0, .slice none 0 0, .int .u32 0, .slice none 0 0, .slice none 0 0, .slice none 0 0, .int .i64 0, .slice none 0 0, .int .u32 0, .slice none 0 0, .slice none 0 0, .slice none 0 0, .int .i64 0, .slice none 0 0, .int .u32 0, .slice none 0 0, .slice none 0 0, .slice none 0 0]).toArray) = some (X.upd b5 (some (.cells (v' :: [.int .u32 0, .int .u32 0, .int .u32 0, .int .i64 0, .slice none 0 0, .int .u32 0, .slice none 0 0, .slice none 0 0, .slice none 0 0, .int .i64 0, .slice none 0 0, .int .u32 0, .slice none 0 0, .slice none 0 0, .slice none 0 0, .int .i64 0, .slice none 0 0, .int .u32 0, .slice none 0 0, .slice none 0 0, .slice none 0 0]) 43 (some 0)))) := fun X => stN rfl rfl hcx.2
  have hl9 := ldN (n := 22) (e := 43) (m := some 0) hcx.1
  by_cases hin : x % 12 ∈ w
  · have hE : wsE w (x % 12) = 4 := if_pos hin
    have hW : wst w (x % 12) = w := if_pos hin
    rw [hW] at hV4 hsn
    have hE' : (errR (wsE w (x % 12))).e = 4 := by rw [hE]; rfl
    simp (maxSteps := 1000000) (disch := (first | omega | (simp only [nx_alloc, nx_upd, len_cons, len_nil, List.length_set, List.length_map, List.length_append] <;> omega) | fail)) only [Nat.reduceAdd, Nat.reduceSub, Nat.reduceMul, Nat.reduceLT, Nat.reduceLeDiff, Nat.reduceEqDiff, ↓reduceIte, reduceCtorEq, Int.reduceAdd, Int.reduceSub, Int.reduceMul, Int.reduceLT, Int.reduceLE, Int.reduceEq, Int.reduceNe, Int.reduceToNat, Int.reduceNeg, go_sem, r5, r6, r7, r8, r9, r10, r11, r12, hlu, hin, g9, g10, hE', hl9, g5, hs9]
    refine ⟨k - 1, by omega, _, i + 1, v', u, rfl, by omega, by omega, o04.upd (by omega) _, by (try simp only [nx_upd]); omega, rfl, ?_, ?_, ?_, ?_, ?_, ?_, ?_⟩
    · rw [htake, hsn]
      refine hV4.ge (Ge.hide (Nat.le_refl _) (fun b hb hbL => ⟨hbL, ?_⟩))
      rw [St.get_upd, if_neg (fun e => hbL (by rw [e]; exact List.mem_cons_self ..))]
    · rw [htake, hsn]
      exact Row.keep hrow4 (Nat.le_refl _) (fun b _ h1 _ => by rw [St.get_upd, if_neg (by omega)]) (Nat.le_refl _)
    · simp (maxSteps := 1000000) (disch := (first | omega | (simp only [nx_alloc, nx_upd, len_cons, len_nil, List.length_set, List.length_map, List.length_append] <;> omega) | fail)) only [Nat.reduceAdd, Nat.reduceSub, Nat.reduceMul, Nat.reduceLT, Nat.reduceLeDiff, Nat.reduceEqDiff, ↓reduceIte, reduceCtorEq, Int.reduceAdd, Int.reduceSub, Int.reduceMul, Int.reduceLT, Int.reduceLE, Int.reduceEq, Int.reduceNe, Int.reduceToNat, Int.reduceNeg, go_sem, r0]
    · simp (maxSteps := 1000000) (disch := (first | omega | (simp only [nx_alloc, nx_upd, len_cons, len_nil, List.length_set, List.length_map, List.length_append] <;> omega) | fail)) only [Nat.reduceAdd, Nat.reduceSub, Nat.reduceMul, Nat.reduceLT, Nat.reduceLeDiff, Nat.reduceEqDiff, ↓reduceIte, reduceCtorEq, Int.reduceAdd, Int.reduceSub, Int.reduceMul, Int.reduceLT, Int.reduceLE, Int.reduceEq, Int.reduceNe, Int.reduceToNat, Int.reduceNeg, go_sem, r1]
    · simp (maxSteps := 1000000) (disch := (first | omega | (simp only [nx_alloc, nx_upd, len_cons, len_nil, List.length_set, List.length_map, List.length_append] <;> omega) | fail)) only [Nat.reduceAdd, Nat.reduceSub, Nat.reduceMul, Nat.reduceLT, Nat.reduceLeDiff, Nat.reduceEqDiff, ↓reduceIte, reduceCtorEq, Int.reduceAdd, Int.reduceSub, Int.reduceMul, Int.reduceLT, Int.reduceLE, Int.reduceEq, Int.reduceNe, Int.reduceToNat, Int.reduceNeg, go_sem, r5]
    · simp (maxSteps := 1000000) (disch := (first | omega | (simp only [nx_alloc, nx_upd, len_cons, len_nil, List.length_set, List.length_map, List.length_append] <;> omega) | fail)) only [Nat.reduceAdd, Nat.reduceSub, Nat.reduceMul, Nat.reduceLT, Nat.reduceLeDiff, Nat.reduceEqDiff, ↓reduceIte, reduceCtorEq, Int.reduceAdd, Int.reduceSub, Int.reduceMul, Int.reduceLT, Int.reduceLE, Int.reduceEq, Int.reduceNe, Int.reduceToNat, Int.reduceNeg, go_sem, r6]
    · simp (maxSteps := 1000000) (disch := (first | omega | (simp only [nx_alloc, nx_upd, len_cons, len_nil, List.length_set, List.length_map, List.length_append] <;> omega) | fail)) only [Nat.reduceAdd, Nat.reduceSub, Nat.reduceMul, Nat.reduceLT, Nat.reduceLeDiff, Nat.reduceEqDiff, ↓reduceIte, reduceCtorEq, Int.reduceAdd, Int.reduceSub, Int.reduceMul, Int.reduceLT, Int.reduceLE, Int.reduceEq, Int.reduceNe, Int.reduceToNat, Int.reduceNeg, go_sem, r7]
      rfl
  by_cases h8 : 8 ≤ w.length
  · have hE : wsE w (x % 12) = 2 := by unfold wsE; rw [if_neg hin, if_pos h8]
    have hW : wst w (x % 12) = w := by unfold wst; rw [if_neg hin, if_pos h8]
    have h8' : ((w.length : Int) ≥ 8) := by omega
    rw [hW] at hV4 hsn
    have hE' : (errR (wsE w (x % 12))).e = 2 := by rw [hE]; rfl
    simp (maxSteps := 1000000) (disch := (first | omega | (simp only [nx_alloc, nx_upd, len_cons, len_nil, List.length_set, List.length_map, List.length_append] <;> omega) | fail)) only [Nat.reduceAdd, Nat.reduceSub, Nat.reduceMul, Nat.reduceLT, Nat.reduceLeDiff, Nat.reduceEqDiff, ↓reduceIte, reduceCtorEq, Int.reduceAdd, Int.reduceSub, Int.reduceMul, Int.reduceLT, Int.reduceLE, Int.reduceEq, Int.reduceNe, Int.reduceToNat, Int.reduceNeg, go_sem, r5, r6, r7, r8, r9, r10, r11, r12, hlu, hin, h8', g9, g10, hE', hl9, g5, hs9]
    refine ⟨k - 1, by omega, _, i + 1, v', u, rfl, by omega, by omega, o04.upd (by omega) _, by (try simp only [nx_upd]); omega, rfl, ?_, ?_, ?_, ?_, ?_, ?_, ?_⟩
    · rw [htake, hsn]
      refine hV4.ge (Ge.hide (Nat.le_refl _) (fun b hb hbL => ⟨hbL, ?_⟩))
      rw [St.get_upd, if_neg (fun e => hbL (by rw [e]; exact List.mem_cons_self ..))]
    · rw [htake, hsn]
      exact Row.keep hrow4 (Nat.le_refl _) (fun b _ h1 _ => by rw [St.get_upd, if_neg (by omega)]) (Nat.le_refl _)
    · simp (maxSteps := 1000000) (disch := (first | omega | (simp only [nx_alloc, nx_upd, len_cons, len_nil, List.length_set, List.length_map, List.length_append] <;> omega) | fail)) only [Nat.reduceAdd, Nat.reduceSub, Nat.reduceMul, Nat.reduceLT, Nat.reduceLeDiff, Nat.reduceEqDiff, ↓reduceIte, reduceCtorEq, Int.reduceAdd, Int.reduceSub, Int.reduceMul, Int.reduceLT, Int.reduceLE, Int.reduceEq, Int.reduceNe, Int.reduceToNat, Int.reduceNeg, go_sem, r0]
    · simp (maxSteps := 1000000) (disch := (first | omega | (simp only [nx_alloc, nx_upd, len_cons, len_nil, List.length_set, List.length_map, List.length_append] <;> omega) | fail)) only [Nat.reduceAdd, Nat.reduceSub, Nat.reduceMul, Nat.reduceLT, Nat.reduceLeDiff, Nat.reduceEqDiff, ↓reduceIte, reduceCtorEq, Int.reduceAdd, Int.reduceSub, Int.reduceMul, Int.reduceLT, Int.reduceLE, Int.reduceEq, Int.reduceNe, Int.reduceToNat, Int.reduceNeg, go_sem, r1]
    · simp (maxSteps := 1000000) (disch := (first | omega | (simp only [nx_alloc, nx_upd, len_cons, len_nil, List.length_set, List.length_map, List.length_append] <;> omega) | fail)) only [Nat.reduceAdd, Nat.reduceSub, Nat.reduceMul, Nat.reduceLT, Nat.reduceLeDiff, Nat.reduceEqDiff, ↓reduceIte, reduceCtorEq, Int.reduceAdd, Int.reduceSub, Int.reduceMul, Int.reduceLT, Int.reduceLE, Int.reduceEq, Int.reduceNe, Int.reduceToNat, Int.reduceNeg, go_sem, r5]
    · simp (maxSteps := 1000000) (disch := (first | omega | (simp only [nx_alloc, nx_upd, len_cons, len_nil, List.length_set, List.length_map, List.length_append] <;> omega) | fail)) only [Nat.reduceAdd, Nat.reduceSub, Nat.reduceMul, Nat.reduceLT, Nat.reduceLeDiff, Nat.reduceEqDiff, ↓reduceIte, reduceCtorEq, Int.reduceAdd, Int.reduceSub, Int.reduceMul, Int.reduceLT, Int.reduceLE, Int.reduceEq, Int.reduceNe, Int.reduceToNat, Int.reduceNeg, go_sem, r6]
    · simp (maxSteps := 1000000) (disch := (first | omega | (simp only [nx_alloc, nx_upd, len_cons, len_nil, List.length_set, List.length_map, List.length_append] <;> omega) | fail)) only [Nat.reduceAdd, Nat.reduceSub, Nat.reduceMul, Nat.reduceLT, Nat.reduceLeDiff, Nat.reduceEqDiff, ↓reduceIte, reduceCtorEq, Int.reduceAdd, Int.reduceSub, Int.reduceMul, Int.reduceLT, Int.reduceLE, Int.reduceEq, Int.reduceNe, Int.reduceToNat, Int.reduceNeg, go_sem, r7]
      rfl
  have hE : wsE w (x % 12) = 0 := by unfold wsE; rw [if_neg hin, if_neg h8]
  have hW : wst w (x % 12) = w ++ [x % 12] := by unfold wst; rw [if_neg hin, if_neg h8]
  have h8' : ¬ ((w.length : Int) ≥ 8) := by omega
  rw [hW] at hV4 hsn
  have hE' : (errR (wsE w (x % 12))).e = 0 := by rw [hE]; rfl
  obtain ⟨u', A6, hpush, hrow6, n6, hrb6, k6⟩ := id_push hrow4 (x % 12) (by omega) hw8'
  have hb5u : rowB u ≠ some b5 := fun e => by have := (hrbu b5 e).1; omega
  have kk : ∀ b, b < A5.next → rowB u ≠ some b → A6.get b = A5.get b := k6
  have g5' : A6.get b5 = some (.cells (v :: [.int .u32 0, .int .u32 0, .int .u32 0, .int .i64 0, .slice none 0 0, .int .u32 0, .slice none 0 0, .slice none 0 0, .slice none 0 0, .int .i64 0, .slice none 0 0, .int .u32 0, .slice none 0 0, .slice none 0 0, .slice none 0 0, .int .i64 0, .slice none 0 0, .int .u32 0, .slice none 0 0, .slice none 0 0, .slice none 0 0]) 43 (some 0)) := by rw [kk b5 (by omega) hb5u]; exact g5
  have hub : ∀ b, A'.next ≤ b → rowB u ≠ some b := fun b hb e => by have := (hrbu b e).2; omega
  have g9' : A6.get A3.next = _ := (kk _ (by omega) (hub _ (by omega))).trans g9
  have g10' : A6.get (A3.next + 1) = _ := (kk _ (by omega) (hub _ (by omega))).trans g10
  simp (maxSteps := 1000000) (disch := (first | omega | (simp only [nx_alloc, nx_upd, len_cons, len_nil, List.length_set, List.length_map, List.length_append] <;> omega) | fail)) only [Nat.reduceAdd, Nat.reduceSub, Nat.reduceMul, Nat.reduceLT, Nat.reduceLeDiff, Nat.reduceEqDiff, ↓reduceIte, reduceCtorEq, Int.reduceAdd, Int.reduceSub, Int.reduceMul, Int.reduceLT, Int.reduceLE, Int.reduceEq, Int.reduceNe, Int.reduceToNat, Int.reduceNeg, go_sem, r5, r6, r7, r8, r9, r10, r11, r12, hlu, hin, h8']
  rw [hpush]
  simp (maxSteps := 1000000) (disch := (first | omega | (simp only [nx_alloc, nx_upd, len_cons, len_nil, List.length_set, List.length_map, List.length_append] <;> omega) | fail)) only [Nat.reduceAdd, Nat.reduceSub, Nat.reduceMul, Nat.reduceLT, Nat.reduceLeDiff, Nat.reduceEqDiff, ↓reduceIte, reduceCtorEq, Int.reduceAdd, Int.reduceSub, Int.reduceMul, Int.reduceLT, Int.reduceLE, Int.reduceEq, Int.reduceNe, Int.reduceToNat, Int.reduceNeg, go_sem, r5, r7, r9, r10, g9', g10', hE', hl9, g5', hs9]
  refine ⟨k - 1, by omega, _, i + 1, v', u', rfl, by omega, by omega, ⟨by have := o04.next; (try simp only [nx_upd]); omega, fun b hb => ?_⟩, by (try simp only [nx_upd]); omega, rfl, ?_, ?_, ?_, ?_, ?_, ?_, ?_⟩
  · rw [St.get_upd, if_neg (by omega), kk b (by have := o04.next; omega) (fun e => by have := (hrbu b e).1; omega)]; exact o04.get b hb
  · rw [htake, hsn]
    refine hV4.ge (Ge.hide (by (try simp only [nx_upd]); omega) (fun b hb hbL => ?_))
    simp only [List.mem_cons, not_or] at hbL ⊢
    refine ⟨⟨hbL.1, fun h => ?_⟩, ?_⟩
    · rw [mem_rbL, hrb6] at h; have := Option.some.inj h; omega
    · rw [St.get_upd, if_neg hbL.1, kk b hb (fun e => hbL.2 (mem_rbL.2 e))]
  · rw [htake, hsn]
    exact Row.keep hrow6 (Nat.le_refl _) (fun b _ h1 _ => by rw [St.get_upd, if_neg (by omega)]) (Nat.le_refl _)
  · simp (maxSteps := 1000000) (disch := (first | omega | (simp only [nx_alloc, nx_upd, len_cons, len_nil, List.length_set, List.length_map, List.length_append] <;> omega) | fail)) only [Nat.reduceAdd, Nat.reduceSub, Nat.reduceMul, Nat.reduceLT, Nat.reduceLeDiff, Nat.reduceEqDiff, ↓reduceIte, reduceCtorEq, Int.reduceAdd, Int.reduceSub, Int.reduceMul, Int.reduceLT, Int.reduceLE, Int.reduceEq, Int.reduceNe, Int.reduceToNat, Int.reduceNeg, go_sem, r0]
  · simp (maxSteps := 1000000) (disch := (first | omega | (simp only [nx_alloc, nx_upd, len_cons, len_nil, List.length_set, List.length_map, List.length_append] <;> omega) | fail)) only [Nat.reduceAdd, Nat.reduceSub, Nat.reduceMul, Nat.reduceLT, Nat.reduceLeDiff, Nat.reduceEqDiff, ↓reduceIte, reduceCtorEq, Int.reduceAdd, Int.reduceSub, Int.reduceMul, Int.reduceLT, Int.reduceLE, Int.reduceEq, Int.reduceNe, Int.reduceToNat, Int.reduceNeg, go_sem, r1]
  · simp (maxSteps := 1000000) (disch := (first | omega | (simp only [nx_alloc, nx_upd, len_cons, len_nil, List.length_set, List.length_map, List.length_append] <;> omega) | fail)) only [Nat.reduceAdd, Nat.reduceSub, Nat.reduceMul, Nat.reduceLT, Nat.reduceLeDiff, Nat.reduceEqDiff, ↓reduceIte, reduceCtorEq, Int.reduceAdd, Int.reduceSub, Int.reduceMul, Int.reduceLT, Int.reduceLE, Int.reduceEq, Int.reduceNe, Int.reduceToNat, Int.reduceNeg, go_sem, r5]
  · simp (maxSteps := 1000000) (disch := (first | omega | (simp only [nx_alloc, nx_upd, len_cons, len_nil, List.length_set, List.length_map, List.length_append] <;> omega) | fail)) only [Nat.reduceAdd, Nat.reduceSub, Nat.reduceMul, Nat.reduceLT, Nat.reduceLeDiff, Nat.reduceEqDiff, ↓reduceIte, reduceCtorEq, Int.reduceAdd, Int.reduceSub, Int.reduceMul, Int.reduceLT, Int.reduceLE, Int.reduceEq, Int.reduceNe, Int.reduceToNat, Int.reduceNeg, go_sem]
  · simp (maxSteps := 1000000) (disch := (first | omega | (simp only [nx_alloc, nx_upd, len_cons, len_nil, List.length_set, List.length_map, List.length_append] <;> omega) | fail)) only [Nat.reduceAdd, Nat.reduceSub, Nat.reduceMul, Nat.reduceLT, Nat.reduceLeDiff, Nat.reduceEqDiff, ↓reduceIte, reduceCtorEq, Int.reduceAdd, Int.reduceSub, Int.reduceMul, Int.reduceLT, Int.reduceLE, Int.reduceEq, Int.reduceNe, Int.reduceToNat, Int.reduceNeg, go_sem, r7]
    rfl
end Go.Fw
