import Derived.Test.YtlpdpdaieeaajaaFwHeader3
set_option linter.unusedSimpArgs false
set_option linter.unusedVariables false
namespace Go.Fw
open Go.Proofs Go.RowKit
attribute [local go_sem] List.length_cons List.length_nil Nat.zero_add Nat.add_zero Nat.zero_mul Nat.mul_one Int.toNat_zero Int.toNat_natCast List.map_cons List.map_nil List.map_toArray List.toList_toArray List.append_toArray List.append_eq List.nil_append List.cons_append List.append_nil List.all_toArray List.all_cons List.all_nil Bool.and_true Bool.true_and Bool.and_self List.getElem?_toArray List.getElem?_cons_zero List.getElem?_cons_succ List.set_cons_zero List.set_cons_succ List.drop_zero List.drop_succ_cons List.take_zero List.take_succ_cons Option.bind_some Option.map_some id true_and and_true and_self St.next_alloc St.next_upd beq_self_eq_true Bool.not_true Bool.not_false Bool.false_eq_true false_implies true_implies Option.isNone_none Option.isNone_some Option.isSome_none Option.isSome_some ge_iff_le gt_iff_lt Nat.sub_zero Nat.add_assoc IntWalk.i64_in IntWalk.u64_in IntWalk.u8_in IntWalk.u32_in IntWalk.i32_in IntWalk.u16_in dec_not Bool.not_eq_true decide_true decide_false ne_eq not_true_eq_false not_false_eq_true Bool.true_or Bool.or_true Bool.or_false Bool.false_or Bool.and_false Bool.false_and upd_apply rd_eq ar_zero ar_succ ar_nil tm_size tm_getD tm_set E_tmps E_defers put_E put_none eval_tmp eval_const eval_func setArgs_0 setArgs_1 setArgs_2 append_lit stepV_some stepA_some guardO_true ifB_true ifB_false wantV_true wantV_false wantV_dec_t wantV_dec_f ifB_dec_t ifB_dec_f condV_bool dec_and dec_or isB_bool someB_t someB_f okO_tmp okO_func okO_int okO_bool okO_string okO_ptr0 okO_slice0 okO_nilFunc okO_nilIface okO_map0 okO_agg wanted_none wanted_some lookT_some aopsL_nil aopsL_cons wpA_skip wpA_label wpA_exit wpA_goto wpA_ret wpA_seq wpA_block wpA_region wpA_cond wpA_loop wpA_rangeFunc wpA_draw thenQ_normal thenQ_exit thenQ_ret thenQ_panic blockQ_normal blockQ_ret blockQ_panic blockQ_exit funQ_ret funQ_normal funQ_panic op_move op_assign pickV_or pickV_and pickV_t pickV_f pickV_true pickV_false op_pick allocV_some op_alloc op_box op_load op_nilCheck op_bin op_lookup bptr btype op_un op_convert op_makeInterface op_makeSlice op_fieldAddr op_field op_indexAddr op_index op_extract op_typeAssert storeV_some op_store op_makeMap op_mapUpdate op_slice00 op_slice10 op_slice01 op_slice11 op_slice111 op_slice011 op_makeFunc callV_true op_call op_builtin panicV_iface op_panic ACallV_func ACallF_false ACallF_true ACallV_yield afterCall_returned afterCall_panicked bin_add bin_sub bin_mul bin_and bin_or bin_xor bin_andNot bin_eql bin_neq bin_lss bin_leq bin_gtr bin_geq mval_some mval_none lookup_map lookU_map lookK_smap mapSet_map msetU_map msetK_int conv_to conv_from unsT_cells unsF_cells bin_same bin_nil bdata_nil bdata_some builtin_data builtin_str bin_quo bin_rem bin_shl bin_shr bin_sadd bin_seql bin_sneq bin_slss uB_bool bin_beql bin_bneq uP_pointer bin_peql bin_pneq uS_slice bin_leql bin_lneq bin_ieql bin_ineq un_neg un_xor un_not nilCheck_ptr nilCheck_func nilCheck_yield load_ptr loadC_one loadC_agg store_ptr slice_eq sliceU_string sliceU_slice sliceU_array sliceS_eq boundsS_some sliceL_eq boundsL_nil boundsL_exact boundsL_least boundsL_own boundsL_ownN bounds_11 bounds_10 bounds_01 bounds_00 builtin_len len_string len_array len_slice builtin_append builtin_copy pairA_some builtin_min builtin_max min_two max_two index_eq index_string index_array indexAddr_eq indexAddr_array indexAddr_slice fieldAddr_eq posO_some fAddr_some fieldAddr_struct partC_some field_eq field_struct part_eq partU_one partU_agg extract_tuple conv_eq conv_int conv_string u8O_u8 conv_bytes conv_text_nil conv_text_zero conv_text mkIface_eq get_upd_same consO_some finR_0 finR_1 finR_2 aresL_nil aresL_cons ares1_tmp ares1_cell retV_some aleave_nil aleave_coll bnd_int bnd_bool bnd_string bnd_nilIface bnd_slice0 bnd_iface bnd_slice bnd_ptr bnd_ptr0 bndL_nil bndL_cons bndA_lit bnd_tuple bnd_agg calm_same skipC_eq aopsC_nil aopsC_cons stepC_call stepC_move stepC_assign stepC_pick stepC_alloc stepC_box stepC_build stepC_buildSlice stepC_load stepC_store stepC_nilCheck stepC_binOp stepC_unOp stepC_convert stepC_makeInterface stepC_makeFunc stepC_makeSlice stepC_slice stepC_fieldAddr stepC_field stepC_indexAddr stepC_index stepC_extract stepC_typeAssert stepC_lookup stepC_mapUpdate stepC_makeMap stepC_builtin to_same sameA_eq aopsX_nil aopsX_cons stepX_heavy stepX_light lightK_eq allC_nil allC_cons hs_zero hs_succ stepT_call pure_call stepT_move pure_move stepT_assign pure_assign stepT_pick pure_pick stepT_alloc pure_alloc stepT_box pure_box stepT_build pure_build stepT_buildSlice pure_buildSlice stepT_load pure_load stepT_store pure_store stepT_nilCheck pure_nilCheck stepT_binOp pure_binOp stepT_unOp pure_unOp stepT_convert pure_convert stepT_makeInterface pure_makeInterface stepT_makeFunc pure_makeFunc stepT_makeSlice pure_makeSlice stepT_slice pure_slice stepT_fieldAddr pure_fieldAddr stepT_field pure_field stepT_indexAddr pure_indexAddr stepT_index pure_index stepT_extract pure_extract stepT_typeAssert pure_typeAssert stepT_lookup pure_lookup stepT_mapUpdate pure_mapUpdate stepT_makeMap pure_makeMap stepT_builtin pure_b_len pure_b_append pure_b_copy pure_b_min pure_b_max pure_b_unsafeSliceData pure_b_unsafeString leaveK_eq aleave_fn op_defer deferV_func resK_some defQ_ret defQ_normal storeC_int storeC_bool storeC_string storeC_slice storeC_func storeC_pointer len_cons len_nil cells_int cells_bool cells_string cells_slice cells_pointer cells_func cells_map cells_nilFunc cells_agg cell1_bool cell1_string cell1_slice cell1_pointer cell1_func cell1_i cell1_map cell1_nilFunc setList_nil setList_cons storeC_aggS fillP_nil fillP_cons fillAt_1 fillAt_n aggO_some sliceO_some places_0 places_s zerosR_0 zerosR_s thenElse_true evP_nil evP_cons okP_nil okP_cons op_buildL op_buildSliceL isBu_t isBu_f mk_E get_alloc_old get_alloc_new get_upd_old Try.agg1 Try.sz1 Try.byt1 Try.zero1 Try.agg2 Try.sz2 Try.byt2 Try.zero2 Try.agg3 Try.sz3 Try.byt3 Try.zero3 Try.agg4 Try.sz4 Try.byt4 Try.zero4 Try.agg5 Try.sz5 Try.byt5 Try.zero5 Try.agg6 Try.sz6 Try.byt6 Try.zero6 Try.agg7 Try.sz7 Try.byt7 Try.zero7 Try.agg8 Try.sz8 Try.byt8 Try.zero8 Try.agg9 Try.sz9 Try.byt9 Try.zero9 Try.agg10 Try.sz10 Try.byt10 Try.zero10 Try.agg11 Try.sz11 Try.byt11 Try.zero11 Try.agg12 Try.sz12 Try.byt12 Try.zero12 Try.agg13 Try.sz13 Try.byt13 Try.zero13 Try.agg14 Try.sz14 Try.byt14 Try.zero14 Try.agg15 Try.sz15 Try.byt15 Try.zero15 Try.agg16 Try.sz16 Try.byt16 Try.zero16 Try.agg17 Try.sz17 Try.byt17 Try.zero17 Try.agg18 Try.sz18 Try.byt18 Try.zero18 Try.agg19 Try.sz19 Try.byt19 Try.zero19 Try.agg20 Try.sz20 Try.byt20 Try.zero20 Try.agg21 Try.sz21 Try.byt21 Try.zero21 Try.agg22 Try.sz22 Try.byt22 Try.el22 Try.zero22 Try.agg23 Try.sz23 Try.byt23 Try.zero23 Try.agg24 Try.sz24 Try.byt24 Try.zero24 Try.agg25 Try.sz25 Try.byt25 Try.zero25 Try.agg26 Try.sz26 Try.byt26 Try.zero26 Try.agg27 Try.sz27 Try.byt27 Try.el27 Try.zero27 Try.agg28 Try.sz28 Try.byt28 Try.el28 Try.zero28 Try.agg29 Try.sz29 Try.byt29 Try.el29 Try.zero29 Try.agg30 Try.sz30 Try.byt30 Try.zero30 Try.agg31 Try.sz31 Try.byt31 Try.zero31 Try.agg32 Try.sz32 Try.byt32 Try.zero32 Try.agg33 Try.sz33 Try.byt33 Try.el33 Try.zero33 Try.agg34 Try.sz34 Try.byt34 Try.zero34 Try.agg35 Try.sz35 Try.byt35 Try.zero35 Try.agg36 Try.sz36 Try.byt36 Try.zero36 Try.agg37 Try.sz37 Try.byt37 Try.zero37 Try.agg39 Try.sz39 Try.byt39 Try.zero39 Try.agg40 Try.sz40 Try.byt40 Try.zero40 Try.agg42 Try.sz42 Try.byt42 Try.zero42 Try.agg44 Try.sz44 Try.byt44 Try.zero44 Try.agg45 Try.sz45 Try.byt45 Try.zero45 Try.agg46 Try.sz46 Try.byt46 Try.zero46 Try.agg47 Try.sz47 Try.byt47 Try.el47 Try.zero47 Try.agg48 Try.sz48 Try.byt48 Try.zero48 Try.agg49 Try.sz49 Try.byt49 Try.zero49 Try.agg50 Try.sz50 Try.byt50 Try.zero50 Try.agg51 Try.sz51 Try.byt51 Try.zero51 Try.agg52 Try.sz52 Try.byt52 Try.zero52 Try.agg53 Try.sz53 Try.byt53 Try.zero53 Try.agg54 Try.sz54 Try.byt54 Try.zero54 Try.agg55 Try.sz55 Try.byt55 Try.zero55 Try.agg56 Try.sz56 Try.byt56 Try.zero56 Try.agg57 Try.sz57 Try.byt57 Try.zero57 Try.agg58 Try.sz58 Try.byt58 Try.zero58 Try.agg59 Try.sz59 Try.byt59 Try.zero59 Try.agg60 Try.sz60 Try.byt60 Try.zero60 Try.agg61 Try.sz61 Try.byt61 Try.zero61 Try.agg62 Try.sz62 Try.byt62 Try.zero62 Try.agg63 Try.sz63 Try.byt63 Try.zero63 Try.agg64 Try.sz64 Try.byt64 Try.zero64 Try.agg65 Try.sz65 Try.byt65 Try.zero65 Try.agg66 Try.sz66 Try.byt66 Try.zero66 Try.agg67 Try.sz67 Try.byt67 Try.zero67 Try.agg69 Try.sz69 Try.byt69 Try.zero69 Try.agg70 Try.sz70 Try.byt70 Try.zero70 Try.agg72 Try.sz72 Try.byt72 Try.zero72 Try.agg74 Try.sz74 Try.byt74 Try.zero74 Try.agg75 Try.sz75 Try.byt75 Try.zero75 Try.agg76 Try.sz76 Try.byt76 Try.zero76 Try.agg77 Try.sz77 Try.byt77 Try.zero77 Try.agg78 Try.sz78 Try.byt78 Try.zero78 Try.agg79 Try.sz79 Try.byt79 Try.zero79 Try.agg80 Try.sz80 Try.byt80 Try.zero80 Try.agg81 Try.sz81 Try.byt81 Try.zero81 Try.agg82 Try.sz82 Try.byt82 Try.zero82 Try.agg83 Try.sz83 Try.byt83 Try.zero83 Try.agg84 Try.sz84 Try.byt84 Try.zero84 Try.agg85 Try.sz85 Try.byt85 Try.zero85 Try.agg86 Try.sz86 Try.byt86 Try.zero86 Try.agg88 Try.sz88 Try.byt88 Try.zero88 Try.agg89 Try.sz89 Try.byt89 Try.zero89 Try.agg90 Try.sz90 Try.byt90 Try.zero90 Try.agg91 Try.sz91 Try.byt91 Try.zero91 Try.agg92 Try.sz92 Try.byt92 Try.zero92 Try.agg93 Try.sz93 Try.byt93 Try.zero93 Try.agg94 Try.sz94 Try.byt94 Try.zero94 Try.agg95 Try.sz95 Try.byt95 Try.zero95 Try.agg96 Try.sz96 Try.byt96 Try.zero96 Try.agg97 Try.sz97 Try.byt97 Try.zero97 Try.agg98 Try.sz98 Try.byt98 Try.zero98 Try.agg99 Try.sz99 Try.byt99 Try.zero99 Try.agg100 Try.sz100 Try.byt100 Try.zero100 Try.agg101 Try.sz101 Try.byt101 Try.zero101 Try.agg102 Try.sz102 Try.byt102 Try.zero102 Try.body0 Try.body1 Try.body2 Try.body3 Try.body4 Try.body5 Try.body6 Try.body7 Try.body8 Try.body9 Try.body10 Try.body11 Try.body12 Try.body13 Try.body14 Try.body15 Try.body16 Try.body17 Try.body18 Try.body19 Try.body20 Try.body21 Try.body22 Try.body23 Try.body24 Try.body25 Try.body26 Try.body27 Try.body28 Try.body29 Try.body30 Try.body31 Try.body32 Try.body33 Try.body34 Try.body35 Try.body36 Try.body37 Try.body38 Try.body39 Try.body40 Try.body41 Try.body42 Try.body43 Try.body44 Try.body45 Try.body46 Try.body47 Try.body48 Try.body49 Try.body50 Try.body51 Try.body52 Try.body53 Try.body54 Try.body55 Try.body56 Try.body57 Try.body58 Try.body59 Try.body60 Try.body61 Try.body62 Try.body63 Try.body64 Try.body65 Try.body66 Try.body67 Try.body68 Try.body69 Try.body70 Try.body71 Try.body72 Try.build7 Try.build8 Try.build13 Try.build14 Try.build18 Try.build19 Try.bsl22 Try.bsl27 Try.bsl28 Try.bsl29 Try.build30 Try.build31 Try.bsl33 Try.bsl47 Try.build48 Try.build49 Try.build62 Try.build63 Try.build88 Try.build89 Try.build91 Try.build92 Try.build100 Try.build101 Try.underlying1 Try.underlying2 Try.underlying3 Try.underlying4 Try.underlying5 Try.underlying6 Try.underlying7 Try.underlying8 Try.underlying9 Try.underlying10 Try.underlying11 Try.underlying12 Try.underlying13 Try.underlying14 Try.underlying15 Try.underlying16 Try.underlying17 Try.underlying18 Try.underlying19 Try.underlying20 Try.underlying21 Try.underlying22 Try.underlying23 Try.underlying24 Try.underlying25 Try.underlying26 Try.underlying27 Try.underlying28 Try.underlying29 Try.underlying30 Try.underlying31 Try.underlying32 Try.underlying33 Try.underlying34 Try.underlying35 Try.underlying36 Try.underlying37 Try.underlying39 Try.underlying40 Try.underlying42 Try.underlying44 Try.underlying45 Try.underlying46 Try.underlying47 Try.underlying48 Try.underlying49 Try.underlying50 Try.underlying51 Try.underlying52 Try.underlying53 Try.underlying54 Try.underlying55 Try.underlying56 Try.underlying57 Try.underlying58 Try.underlying59 Try.underlying60 Try.underlying61 Try.underlying62 Try.underlying63 Try.underlying64 Try.underlying65 Try.underlying66 Try.underlying67 Try.underlying69 Try.underlying70 Try.underlying72 Try.underlying74 Try.underlying75 Try.underlying76 Try.underlying77 Try.underlying78 Try.underlying79 Try.underlying80 Try.underlying81 Try.underlying82 Try.underlying83 Try.underlying84 Try.underlying85 Try.underlying86 Try.underlying88 Try.underlying89 Try.underlying90 Try.underlying91 Try.underlying92 Try.underlying93 Try.underlying94 Try.underlying95 Try.underlying96 Try.underlying97 Try.underlying98 Try.underlying99 Try.underlying100 Try.underlying101 Try.underlying102
theorem Try.enters12 : Enters Try.prog 12 := enters_of Try.func12 rfl (by kernel_rfl)
theorem set_all (cs vs : List Value) (h : vs.length = cs.length) : setList cs 0 vs = vs := by
  have := setList_at0 vs [] cs [] h
  simpa using this
/-- Bytes pushed onto bytes. -/
theorem by_src {A : St} {lo xT : Nat} {acc new : List Int} {x v : Value} {ux : TypeDesc} (hx : Try.prog.underlying xT = some ux) (hux : ∀ k, ux ≠ .int k) (h : Row A 5 1 lo (acc.map (.int .u8 ·)) acc.length v) (hlo : lo ≤ A.next) (hsrc : srcCells A 1 x = some (new.length, new.map (.int .u8 ·))) (hl : acc.length + new.length ≤ 1073741824) :
    ∃ v' A', aappend Try.prog A 33 xT v x = some (v', A') ∧ Row A' 5 1 lo ((acc ++ new).map (.int .u8 ·)) (acc ++ new).length v' ∧ A.next ≤ A'.next ∧ (∀ b, b < A.next → rowB v ≠ some b → A'.get b = A.get b) ∧ (∀ b, rowB v' = some b → rowB v = some b ∨ A.next ≤ b) := by
  obtain ⟨v', A2, hap, hr2, hn2, hf2, hrb, hz0⟩ := row_src (P := Try.prog) (m := new.length) Try.el33 hx hux Try.sz5 Try.byt5 Try.zero5 rfl h hlo hsrc (by simp) (by omega) (by omega) (by simp [cell1])
  refine ⟨v', A2, hap, ?_, hn2, hf2, hrb⟩
  rw [List.map_append, List.length_append]; exact hr2
theorem src_str (A : St) (l : List Int) (h : ∀ x ∈ l, Byte x) : srcCells A 1 (.string (strOfNums l)) = some (l.length, l.map (.int .u8 ·)) := by
  rw [srcCells_string, bcells_nums, nums_str h, str_size]
/-- A version's bytes. -/
def blkL (l : List HashT) : List Int := l.flatMap (·.1)
def namL (l : List (ByteArray × Int)) : List Int := l.flatMap fun p => enc p.1.size ++ nums p.1 ++ enc p.2.toNat
def encV (V : VerT) : List Int := bigL V.id.toNat 4 ++ enc V.blocks.length ++ blkL V.blocks ++ enc V.names.length ++ namL (V.names.zip V.sizes)
def encR (V : VerT) : ByteArray × Int := if mayB V then (strOfNums (encV V), 0) else (ByteArray.empty, 1)
def strIntV (r : ByteArray × Int) : Value := .tuple #[.string r.1, .int .i64 r.2]
theorem bnd_strIntV (n : Nat) (r : ByteArray × Int) : Bnd n (strIntV r) := by unfold strIntV; simp only [bnd_tuple, bndL_cons, bndL_nil, bnd_int, bnd_string, and_self]
theorem blkL_len (l : List HashT) : (blkL l).length = 32 * l.length := by
  induction l with
  | nil => rfl
  | cons h l ih => unfold blkL at *; rw [List.flatMap_cons, List.length_append, ih, h.2, List.length_cons]; omega
theorem enc_le10 (n : Nat) (h : n < 18446744073709551616) : (enc n).length ≤ 10 := enc_len 9 n (by omega)
/-- What may be of a version's id and hashes. -/
def VerT.ok (V : VerT) : Prop := 0 ≤ V.id ∧ V.id < 4294967296 ∧ ∀ h ∈ V.blocks, ∀ x ∈ h.1, Byte x
/-- A hash's bytes pushed, that were laid into a variable ahead. -/
theorem hash_push {A : St} {lo : Nat} {acc : List Int} {p : Value} (h : HashT) (hr : Row A 5 1 lo (acc.map (.int .u8 ·)) acc.length p) (hlo : lo ≤ A.next) (hl : acc.length + 32 ≤ 1073741824) (z : List Value) :
    ∃ v' A', aappend Try.prog ((A.alloc (.cells z 24 (some 0))).upd A.next (some (.cells (hsC h) 24 (some 0)))) 33 33 p (.slice (some ⟨A.next, 0, none⟩) 32 32) = some (v', A') ∧ Row A' 5 1 lo ((acc ++ h.1).map (.int .u8 ·)) (acc ++ h.1).length v' ∧ A.next ≤ A'.next ∧ ∀ b, b < A.next → rowB p ≠ some b → A'.get b = A.get b := by
  have o : Over A ((A.alloc (.cells z 24 (some 0))).upd A.next (some (.cells (hsC h) 24 (some 0)))) := ((Over.refl A).alloc _).upd (Nat.le_refl _) _
  obtain ⟨v', A', h1, h2, h3, h4, h5⟩ := by_src (x := .slice (some ⟨A.next, 0, none⟩) 32 32) (new := h.1) Try.underlying33 (by intro k; exact TypeDesc.noConfusion) (hr.over o) (Nat.le_trans hlo o.next) (by
    rw [srcCells_slice (by decide) (get_upd_same ..) (by rw [hsC_len]; decide), List.drop_zero, List.take_of_length_le (by rw [hsC_len]; decide), h.2]; rfl) (by rw [h.2]; exact hl)
  exact ⟨v', A', h1, h2, Nat.le_trans o.next h3, fun b hb hp => by rw [h4 b (Nat.lt_of_lt_of_le hb o.next) hp]; exact o.get b hb⟩
set_option maxHeartbeats 8000000 in
theorem encode_ok (w0 : World) (A : St) (V : VerT) (v : Value) (hv : VerV A V v) (hs : V.small) (hk : V.ok) : ACalls Try.prog w0 12 #[v] A (fin (strIntV (encR V)) A) := by
  have hmayok := fun (A' : St) (o : Over A A') => may_ok w0 A' V v (hv.over o) hs
  have hmi := may_iff V
  obtain ⟨b, n, s, rfl, vb, vn, vs⟩ := hv
  obtain ⟨hs1, hs2, hs3⟩ := hs
  obtain ⟨hk1, hk2, hk3⟩ := hk
  obtain ⟨ab, cb, rfl⟩ := View.sl0 vb
  obtain ⟨an, cn, rfl⟩ := View.sl0 vn
  obtain ⟨az, cs, rfl⟩ := View.sl0 vs
  refine call_E Try.enters12 Try.func12 rfl (Nat.le_of_ble_eq_true rfl) fun hw hbd => ?_
  have hres : encR V = if mayB V then (strOfNums (encV V), 0) else (ByteArray.empty, 1) := rfl
  rw [hres]
  have henc : encV V = bigL V.id.toNat 4 ++ enc V.blocks.length ++ blkL V.blocks ++ enc V.names.length ++ namL (V.names.zip V.sizes) := rfl
  obtain ⟨id, B, N, S⟩ := V
  simp only at vb vn vs hs1 hs2 hs3 hk1 hk2 hk3 hmi hmayok henc ⊢
  obtain ⟨id, rfl⟩ := Int.eq_ofNat_of_zero_le hk1
  rw [Int.toNat_natCast] at henc
  obtain ⟨A1, hA1⟩ : ∃ A1, A1 = A.alloc (.cells [.int .u32 id, .slice ab B.length cb, .slice an N.length cn, .slice az S.length cs] 31 (some 0)) := ⟨_, rfl⟩
  have ov1 : Over A A1 := hA1 ▸ (Over.refl A).alloc _
  have hn1 : A1.next = A.next + 1 := by rw [hA1]; rfl
  have hbx : A1.get A.next = some (.cells [.int .u32 id, .slice ab B.length cb, .slice an N.length cn, .slice az S.length cs] 31 (some 0)) := by rw [hA1]; exact get_alloc_same ..
  have vb1 : HsView A1 B _ := View.over vb ov1
  have vn1 : StView A1 N _ := View.over vn ov1
  have vs1 : InView A1 S _ := View.over vs ov1
  simp (maxSteps := 1000000) (disch := (first | omega | (simp only [nx_alloc, nx_upd, len_cons, len_nil, List.length_set, List.length_map, List.length_append] <;> omega) | fail)) only [Nat.reduceAdd, Nat.reduceSub, Nat.reduceMul, Nat.reduceLT, Nat.reduceLeDiff, Nat.reduceEqDiff, ↓reduceIte, reduceCtorEq, Int.reduceAdd, Int.reduceSub, Int.reduceMul, Int.reduceLT, Int.reduceLE, Int.reduceEq, Int.reduceNe, Int.reduceToNat, Int.reduceNeg, go_sem, Try.ntmps12, Try.results12]
  rw [← hA1]
  refine call1 (hmayok A1 ov1) ?_
  cases hm : mayB ⟨id, B, N, S⟩
  · simp (maxSteps := 1000000) (disch := (first | omega | (simp only [nx_alloc, nx_upd, len_cons, len_nil, List.length_set, List.length_map, List.length_append] <;> omega) | fail)) only [Nat.reduceAdd, Nat.reduceSub, Nat.reduceMul, Nat.reduceLT, Nat.reduceLeDiff, Nat.reduceEqDiff, ↓reduceIte, reduceCtorEq, Int.reduceAdd, Int.reduceSub, Int.reduceMul, Int.reduceLT, Int.reduceLE, Int.reduceEq, Int.reduceNe, Int.reduceToNat, Int.reduceNeg, go_sem, Try.results12]
    exact gc_fin' hw ov1 rfl (bnd_strIntV _ _)
  obtain ⟨m1, m2, m3, m4⟩ := hmi.1 hm
  simp (maxSteps := 1000000) (disch := (first | omega | (simp only [nx_alloc, nx_upd, len_cons, len_nil, List.length_set, List.length_map, List.length_append] <;> omega) | fail)) only [Nat.reduceAdd, Nat.reduceSub, Nat.reduceMul, Nat.reduceLT, Nat.reduceLeDiff, Nat.reduceEqDiff, ↓reduceIte, reduceCtorEq, Int.reduceAdd, Int.reduceSub, Int.reduceMul, Int.reduceLT, Int.reduceLE, Int.reduceEq, Int.reduceNe, Int.reduceToNat, Int.reduceNeg, go_sem]
  have hb4 : bigS id 4 = bigL id 4 := rfl
  have hbl4 : (bigL id 4).length = 4 := bigL_length id 4
  have hby4 : ∀ x ∈ bigL id 4, Byte x := bigL_byte id 4
  have heb := enc_le10 B.length (by omega)
  have hz1 : (strOfNums (bigL id 4)).size = 4 := by rw [str_size, hbl4]
  have hz2 : (strOfNums (enc B.length)).size = (enc B.length).length := str_size _
  have hcat : strOfNums (bigL id 4) ++ strOfNums (enc B.length) = strOfNums (bigL id 4 ++ enc B.length) := str_append ..
  refine aw_draw2 [⟨false, [], [0]⟩, ⟨false, [0], [0]⟩, ⟨false, [0, 1], [0]⟩, ⟨false, [0, 1, 2], [0]⟩, ⟨false, [], [0]⟩, ⟨false, [4], [0]⟩, ⟨false, [4, 5], [0]⟩, ⟨false, [4, 5, 6], [0]⟩, ⟨false, [0, 1, 2, 3, 4, 5, 6, 7], [0]⟩, ⟨false, [0, 1, 2, 3, 4, 5, 6, 7, 8], [0]⟩, ⟨true, [0, 1, 2, 3, 4, 5, 6, 7, 8, 9], [0]⟩, ⟨false, [0, 1, 2, 3, 4, 5, 6, 7, 8, 9, 10], [1]⟩] [A1, A1.alloc (.cells ((bigL id 4 ++ enc B.length).map (.int .u8 ·)) 5 (some 0))] 1 (by kernel_rfl) (by kernel_rfl) rfl ?_
  simp (maxSteps := 1000000) (disch := (first | omega | (simp only [nx_alloc, nx_upd, len_cons, len_nil, List.length_set, List.length_map, List.length_append] <;> omega) | fail)) only [Nat.reduceAdd, Nat.reduceSub, Nat.reduceMul, Nat.reduceLT, Nat.reduceLeDiff, Nat.reduceEqDiff, ↓reduceIte, reduceCtorEq, Int.reduceAdd, Int.reduceSub, Int.reduceMul, Int.reduceLT, Int.reduceLE, Int.reduceEq, Int.reduceNe, Int.reduceToNat, Int.reduceNeg, go_sem, hbx]
  refine ⟨_, big_ok w0 A1 id 4 (by omega), _, put_ok w0 A1 B.length (by omega), ?_⟩
  rw [hb4]
  have hl0 : (bigL id 4 ++ enc B.length).length = 4 + (enc B.length).length := by rw [List.length_append, hbl4]
  have hb0 : ∀ x ∈ bigL id 4 ++ enc B.length, Byte x := fun x hx => by
    rcases List.mem_append.1 hx with h | h
    · exact hby4 x h
    · exact enc_byte _ x h
  generalize hL0 : bigL id 4 ++ enc B.length = L0 at *
  have hsz0 := str_size L0
  have hbc0 : bcells (strOfNums L0) = L0.map (.int .u8 ·) := by rw [bcells_nums, nums_str hb0]
  simp (maxSteps := 1000000) (disch := (first | omega | (simp only [nx_alloc, nx_upd, len_cons, len_nil, List.length_set, List.length_map, List.length_append] <;> omega) | fail)) only [Nat.reduceAdd, Nat.reduceSub, Nat.reduceMul, Nat.reduceLT, Nat.reduceLeDiff, Nat.reduceEqDiff, ↓reduceIte, reduceCtorEq, Int.reduceAdd, Int.reduceSub, Int.reduceMul, Int.reduceLT, Int.reduceLE, Int.reduceEq, Int.reduceNe, Int.reduceToNat, Int.reduceNeg, go_sem, hcat, hz1, hz2, hsz0, hbc0, hbx]
  obtain ⟨A2, hA2⟩ : ∃ A2, A2 = A1.alloc (.cells (L0.map (.int .u8 ·)) 5 (some 0)) := ⟨_, rfl⟩
  have ov2 : Over A1 A2 := hA2 ▸ (Over.refl A1).alloc _
  have hr2 : Row A2 5 1 A1.next (L0.map (.int .u8 ·)) L0.length (.slice (some ⟨A1.next, 0, some 1⟩) L0.length L0.length) := ⟨by simp, .inr ⟨A1.next, some 1, rfl, .inr rfl, Nat.le_refl _, by rw [hA2]; simp, by rw [hA2]; exact get_alloc_same ..⟩⟩
  have hbx2 : A2.get A.next = _ := (ov2.get _ (by omega)).trans hbx
  rw [← hA2]
  -- the blocks
  refine aw_loop (fun k x A' => ∃ (ρ : Nat → Value) (i : Nat) (p : Value), x = E 64 ρ [] ∧ Over A1 A' ∧ k = B.length - i ∧ i ≤ B.length ∧ Row A' 5 1 A1.next ((L0 ++ blkL (B.take i)).map (.int .u8 ·)) (L0 ++ blkL (B.take i)).length p ∧
      ρ 1 = .pointer (some ⟨A.next, 0, none⟩) ∧ ρ 4 = p ∧ ρ 24 = .slice ab B.length cb ∧ ρ 25 = .int .i64 B.length ∧ ρ 26 = .int .i64 i) B.length
    ⟨_, 0, .slice (some ⟨A1.next, 0, some 1⟩) L0.length L0.length, rfl, ov2, rfl, Nat.zero_le _, by simpa [blkL] using hr2, rfl, rfl, rfl, rfl, rfl⟩ ?_
  clear hr2 hbx2 hA2
  rintro k x A' ⟨ρ, i, p, rfl, ov3, hk, hi, hrow, g1, g4, g24, g25, g26⟩
  refine aw_of ?_
  have hbx3 : A'.get A.next = _ := (ov3.get _ (by omega)).trans hbx
  have hnx3 := ov3.next
  have hlB := blkL_len (B.take i)
  have htB : (B.take i).length ≤ i := List.length_take_le ..
  by_cases hend : i = B.length
  rotate_left
  · have e1 : ((i : Int) < B.length) := by omega
    obtain ⟨h, hx⟩ : ∃ x, B[i]? = some x := ⟨_, List.getElem?_eq_getElem (by omega)⟩
    obtain ⟨pb, po, cells, e', m, hb1, hb2, hb3, hb4, hb5, hb6⟩ := View.en (P := Try.prog) (e := 24) (View.over vb1 ov3) hsC_len Try.sz24 hx
    have hlen32 := hsC_len h
    have hcell := hsC_cell h
    simp (maxSteps := 1000000) (disch := (first | omega | (simp only [nx_alloc, nx_upd, len_cons, len_nil, List.length_set, List.length_map, List.length_append] <;> omega) | fail)) only [Nat.reduceAdd, Nat.reduceSub, Nat.reduceMul, Nat.reduceLT, Nat.reduceLeDiff, Nat.reduceEqDiff, ↓reduceIte, reduceCtorEq, Int.reduceAdd, Int.reduceSub, Int.reduceMul, Int.reduceLT, Int.reduceLE, Int.reduceEq, Int.reduceNe, Int.reduceToNat, Int.reduceNeg, go_sem, g1, g4, g24, g25, g26, hb3, hb4, hb5, hcell]
    rw [set_all _ (hsC h) (by rw [hsC_len]; rfl)]
    obtain ⟨v', A4, hap, hr4, hn4, hf4⟩ := hash_push h hrow (by omega) (by rw [List.length_append]; omega) (List.replicate 32 (.int .u8 0))
    simp only [List.reduceReplicate] at hap
    rw [hap]
    simp (maxSteps := 1000000) (disch := (first | omega | (simp only [nx_alloc, nx_upd, len_cons, len_nil, List.length_set, List.length_map, List.length_append] <;> omega) | fail)) only [Nat.reduceAdd, Nat.reduceSub, Nat.reduceMul, Nat.reduceLT, Nat.reduceLeDiff, Nat.reduceEqDiff, ↓reduceIte, reduceCtorEq, Int.reduceAdd, Int.reduceSub, Int.reduceMul, Int.reduceLT, Int.reduceLE, Int.reduceEq, Int.reduceNe, Int.reduceToNat, Int.reduceNeg, go_sem, g26]
    have hst : blkL (B.take (i + 1)) = blkL (B.take i) ++ h.1 := by unfold blkL; rw [List.take_add_one, hx]; simp
    refine ⟨k - 1, by omega, _, i + 1, v', rfl, Row.push_over (by omega) (fun b hb => (Row.rb hrow b hb).1) hn4 hf4 ov3 (Nat.le_refl _), by omega, by omega, by rw [hst, ← List.append_assoc]; exact hr4, ?_, ?_, ?_, ?_, ?_⟩
    · simp (maxSteps := 1000000) (disch := (first | omega | (simp only [nx_alloc, nx_upd, len_cons, len_nil, List.length_set, List.length_map, List.length_append] <;> omega) | fail)) only [Nat.reduceAdd, Nat.reduceSub, Nat.reduceMul, Nat.reduceLT, Nat.reduceLeDiff, Nat.reduceEqDiff, ↓reduceIte, reduceCtorEq, Int.reduceAdd, Int.reduceSub, Int.reduceMul, Int.reduceLT, Int.reduceLE, Int.reduceEq, Int.reduceNe, Int.reduceToNat, Int.reduceNeg, go_sem, g1]
    · simp (maxSteps := 1000000) (disch := (first | omega | (simp only [nx_alloc, nx_upd, len_cons, len_nil, List.length_set, List.length_map, List.length_append] <;> omega) | fail)) only [Nat.reduceAdd, Nat.reduceSub, Nat.reduceMul, Nat.reduceLT, Nat.reduceLeDiff, Nat.reduceEqDiff, ↓reduceIte, reduceCtorEq, Int.reduceAdd, Int.reduceSub, Int.reduceMul, Int.reduceLT, Int.reduceLE, Int.reduceEq, Int.reduceNe, Int.reduceToNat, Int.reduceNeg, go_sem]
    · simp (maxSteps := 1000000) (disch := (first | omega | (simp only [nx_alloc, nx_upd, len_cons, len_nil, List.length_set, List.length_map, List.length_append] <;> omega) | fail)) only [Nat.reduceAdd, Nat.reduceSub, Nat.reduceMul, Nat.reduceLT, Nat.reduceLeDiff, Nat.reduceEqDiff, ↓reduceIte, reduceCtorEq, Int.reduceAdd, Int.reduceSub, Int.reduceMul, Int.reduceLT, Int.reduceLE, Int.reduceEq, Int.reduceNe, Int.reduceToNat, Int.reduceNeg, go_sem, g24]
    · simp (maxSteps := 1000000) (disch := (first | omega | (simp only [nx_alloc, nx_upd, len_cons, len_nil, List.length_set, List.length_map, List.length_append] <;> omega) | fail)) only [Nat.reduceAdd, Nat.reduceSub, Nat.reduceMul, Nat.reduceLT, Nat.reduceLeDiff, Nat.reduceEqDiff, ↓reduceIte, reduceCtorEq, Int.reduceAdd, Int.reduceSub, Int.reduceMul, Int.reduceLT, Int.reduceLE, Int.reduceEq, Int.reduceNe, Int.reduceToNat, Int.reduceNeg, go_sem, g25]
    · simp (maxSteps := 1000000) (disch := (first | omega | (simp only [nx_alloc, nx_upd, len_cons, len_nil, List.length_set, List.length_map, List.length_append] <;> omega) | fail)) only [Nat.reduceAdd, Nat.reduceSub, Nat.reduceMul, Nat.reduceLT, Nat.reduceLeDiff, Nat.reduceEqDiff, ↓reduceIte, reduceCtorEq, Int.reduceAdd, Int.reduceSub, Int.reduceMul, Int.reduceLT, Int.reduceLE, Int.reduceEq, Int.reduceNe, Int.reduceToNat, Int.reduceNeg, go_sem]
      rfl
  have e1 : ¬ ((i : Int) < B.length) := by omega
  rw [hend, List.take_length] at hrow
  have hlB2 := blkL_len B
  have hen := enc_le10 N.length (by omega)
  simp (maxSteps := 1000000) (disch := (first | omega | (simp only [nx_alloc, nx_upd, len_cons, len_nil, List.length_set, List.length_map, List.length_append] <;> omega) | fail)) only [Nat.reduceAdd, Nat.reduceSub, Nat.reduceMul, Nat.reduceLT, Nat.reduceLeDiff, Nat.reduceEqDiff, ↓reduceIte, reduceCtorEq, Int.reduceAdd, Int.reduceSub, Int.reduceMul, Int.reduceLT, Int.reduceLE, Int.reduceEq, Int.reduceNe, Int.reduceToNat, Int.reduceNeg, go_sem, g1, g4, g24, g25, g26, hbx3]
  refine call1 (put_ok w0 A' N.length (by omega)) ?_
  obtain ⟨v5, A5, hap5, hr5, hn5, hf5, hrb5⟩ := by_src (x := .string (strOfNums (enc N.length))) (new := enc N.length) Try.underlying9 (by intro k; exact TypeDesc.noConfusion) hrow (by omega) (src_str _ _ (enc_byte _)) (by rw [List.length_append]; omega)
  have ov5 : Over A1 A5 := Row.push_over (by omega) (fun b hb => (Row.rb hrow b hb).1) hn5 hf5 ov3 (Nat.le_refl _)
  have hbx5 : A5.get A.next = _ := (ov5.get _ (by omega)).trans hbx
  simp (maxSteps := 1000000) (disch := (first | omega | (simp only [nx_alloc, nx_upd, len_cons, len_nil, List.length_set, List.length_map, List.length_append] <;> omega) | fail)) only [Nat.reduceAdd, Nat.reduceSub, Nat.reduceMul, Nat.reduceLT, Nat.reduceLeDiff, Nat.reduceEqDiff, ↓reduceIte, reduceCtorEq, Int.reduceAdd, Int.reduceSub, Int.reduceMul, Int.reduceLT, Int.reduceLE, Int.reduceEq, Int.reduceNe, Int.reduceToNat, Int.reduceNeg, go_sem]
  rw [hap5]
  simp (maxSteps := 1000000) (disch := (first | omega | (simp only [nx_alloc, nx_upd, len_cons, len_nil, List.length_set, List.length_map, List.length_append] <;> omega) | fail)) only [Nat.reduceAdd, Nat.reduceSub, Nat.reduceMul, Nat.reduceLT, Nat.reduceLeDiff, Nat.reduceEqDiff, ↓reduceIte, reduceCtorEq, Int.reduceAdd, Int.reduceSub, Int.reduceMul, Int.reduceLT, Int.reduceLE, Int.reduceEq, Int.reduceNe, Int.reduceToNat, Int.reduceNeg, go_sem, g1, hbx5]
  have hzl : (N.zip S).length = N.length := by rw [List.length_zip]; omega
  have hL1 : L0 ++ blkL B ++ enc N.length = (L0 ++ blkL B ++ enc N.length) ++ namL ((N.zip S).take 0) := by simp [namL]
  have hl1 : (L0 ++ blkL B ++ enc N.length).length = L0.length + (blkL B).length + (enc N.length).length := by rw [List.length_append, List.length_append]
  rw [hL1] at hr5
  have henc' : encV ⟨id, B, N, S⟩ = (L0 ++ blkL B ++ enc N.length) ++ namL (N.zip S) := henc
  generalize L0 ++ blkL B ++ enc N.length = L1 at *
  refine aw_loop (fun k x A' => ∃ (ρ : Nat → Value) (i : Nat) (p : Value), x = E 64 ρ [] ∧ Over A1 A' ∧ k = N.length - i ∧ i ≤ N.length ∧ Row A' 5 1 A1.next ((L1 ++ namL ((N.zip S).take i)).map (.int .u8 ·)) (L1 ++ namL ((N.zip S).take i)).length p ∧ (namL ((N.zip S).take i)).length ≤ i * 40 ∧
      ρ 1 = .pointer (some ⟨A.next, 0, none⟩) ∧ ρ 4 = p ∧ ρ 42 = .slice an N.length cn ∧ ρ 43 = .int .i64 N.length ∧ ρ 44 = .int .i64 i) N.length
    ⟨_, 0, v5, rfl, ov5, rfl, Nat.zero_le _, hr5, by simp [namL], g1, rfl, rfl, rfl, rfl⟩ ?_
  clear hr5 hbx5 hap5 hf5 hrb5 hrow ov3 hbx3 g1 g4 g24 g25 g26
  rintro k x A' ⟨ρ, i, p, rfl, ov3, hk, hi, hrow, hnl, g1, g4, g42, g43, g44⟩
  refine aw_of ?_
  have hbx3 : A'.get A.next = _ := (ov3.get _ (by omega)).trans hbx
  have hnx3 := ov3.next
  by_cases hend : i = N.length
  · have e1 : ¬ ((i : Int) < N.length) := by omega
    rw [hend, List.take_of_length_le (by omega)] at hrow
    have htx := hrow.view.text (P := Try.prog) (e := 5) Try.underlying5
    simp (maxSteps := 1000000) (disch := (first | omega | (simp only [nx_alloc, nx_upd, len_cons, len_nil, List.length_set, List.length_map, List.length_append] <;> omega) | fail)) only [Nat.reduceAdd, Nat.reduceSub, Nat.reduceMul, Nat.reduceLT, Nat.reduceLeDiff, Nat.reduceEqDiff, ↓reduceIte, reduceCtorEq, Int.reduceAdd, Int.reduceSub, Int.reduceMul, Int.reduceLT, Int.reduceLE, Int.reduceEq, Int.reduceNe, Int.reduceToNat, Int.reduceNeg, go_sem, g1, g4, g42, g43, g44, htx, Try.results12]
    exact gc_fin' hw (ov1.trans ov3) (by rw [henc']; rfl) (bnd_strIntV _ _)
  have e1 : ((i : Int) < N.length) := by omega
  obtain ⟨nm, hx⟩ : ∃ x, N[i]? = some x := ⟨_, List.getElem?_eq_getElem (by omega)⟩
  obtain ⟨sz, hy⟩ : ∃ x, S[i]? = some x := ⟨_, List.getElem?_eq_getElem (by omega)⟩
  obtain ⟨pb, po, hb1, hb2, hb3, cells, e', md, hb4, hb5⟩ := View.at1 (P := Try.prog) (e := 9) (View.over vn1 ov3) Try.sz9 (strE_at _ i nm hx)
  obtain ⟨qb, qo, hc1, hc2, hc3, cells2, e2', md2, hc4, hc5⟩ := View.at1 (P := Try.prog) (e := 3) (View.over vs1 ov3) Try.sz3 (i64E_at _ i sz hy)
  obtain ⟨o1, o2, o3, o4, _⟩ := m4 i (by omega)
  rw [nmN_at hx] at o1 o2
  rw [szN_at hy] at o3 o4
  obtain ⟨sz, rfl⟩ := Int.eq_ofNat_of_zero_le o3
  have q1 := enc_le10 nm.size (by omega)
  have q2 := enc_le10 sz (by omega)
  have hzi : (N.zip S)[i]? = some (nm, (sz : Int)) := by rw [List.getElem?_zip_eq_some]; exact ⟨hx, hy⟩
  have hst : namL ((N.zip S).take (i + 1)) = namL ((N.zip S).take i) ++ (enc nm.size ++ nums nm ++ enc sz) := by
    unfold namL; rw [List.take_add_one, hzi, List.flatMap_append]; simp
  have hbs : ∀ x ∈ enc nm.size ++ nums nm ++ enc sz, Byte x := fun x hx => by
    rcases List.mem_append.1 hx with h | h
    · rcases List.mem_append.1 h with h | h
      · exact enc_byte _ x h
      · exact nums_byte _ x h
    · exact enc_byte _ x h
  have hln : (enc nm.size ++ nums nm ++ enc sz).length = (enc nm.size).length + nm.size + (enc sz).length := by rw [List.length_append, List.length_append, nums_length]
  have hcat2 : strOfNums (enc nm.size ++ nums nm) ++ strOfNums (enc sz) = strOfNums (enc nm.size ++ nums nm ++ enc sz) := str_append ..
  have hz3 : (strOfNums (enc nm.size ++ nums nm)).size = (enc nm.size).length + nm.size := by rw [str_size, List.length_append, nums_length]
  have hz4 : (strOfNums (enc sz)).size = (enc sz).length := str_size _
  obtain ⟨v6, A6, hap6, hr6, hn6, hf6, hrb6⟩ := by_src (x := .string (strOfNums (enc nm.size ++ nums nm ++ enc sz))) (new := enc nm.size ++ nums nm ++ enc sz) Try.underlying9 (by intro k; exact TypeDesc.noConfusion) hrow (by omega) (src_str _ _ hbs) (by rw [List.length_append]; omega)
  simp (maxSteps := 1000000) (disch := (first | omega | (simp only [nx_alloc, nx_upd, len_cons, len_nil, List.length_set, List.length_map, List.length_append] <;> omega) | fail)) only [Nat.reduceAdd, Nat.reduceSub, Nat.reduceMul, Nat.reduceLT, Nat.reduceLeDiff, Nat.reduceEqDiff, ↓reduceIte, reduceCtorEq, Int.reduceAdd, Int.reduceSub, Int.reduceMul, Int.reduceLT, Int.reduceLE, Int.reduceEq, Int.reduceNe, Int.reduceToNat, Int.reduceNeg, go_sem, g1, g4, g42, g43, g44, hb3, hb4, hb5]
  refine aw_draw2 [⟨false, [], [0]⟩, ⟨false, [], [0]⟩, ⟨false, [1], [0]⟩, ⟨false, [], [0]⟩, ⟨false, [3], [0]⟩, ⟨false, [], [0]⟩, ⟨false, [3, 4, 5], [0]⟩, ⟨false, [3, 4, 5, 6], [0]⟩, ⟨false, [3, 4, 5, 6, 7], [0]⟩, ⟨false, [1, 2, 3, 4, 5, 6, 7, 8], [0]⟩, ⟨false, [1, 2, 3, 4, 5, 6, 7, 8, 9], [0]⟩, ⟨true, [0, 1, 2, 3, 4, 5, 6, 7, 8, 9, 10], [0]⟩, ⟨false, [0, 1, 2, 3, 4, 5, 6, 7, 8, 9, 10, 11], [1]⟩] [A', A6] 1 (by kernel_rfl) (by kernel_rfl) rfl ?_
  simp (maxSteps := 1000000) (disch := (first | omega | (simp only [nx_alloc, nx_upd, len_cons, len_nil, List.length_set, List.length_map, List.length_append] <;> omega) | fail)) only [Nat.reduceAdd, Nat.reduceSub, Nat.reduceMul, Nat.reduceLT, Nat.reduceLeDiff, Nat.reduceEqDiff, ↓reduceIte, reduceCtorEq, Int.reduceAdd, Int.reduceSub, Int.reduceMul, Int.reduceLT, Int.reduceLE, Int.reduceEq, Int.reduceNe, Int.reduceToNat, Int.reduceNeg, go_sem, g1, g4, hbx3, hc3, hc4, hc5]
  refine ⟨_, text_ok w0 A' nm (by omega), _, put_ok w0 A' sz (by omega), ?_⟩
  simp (maxSteps := 1000000) (disch := (first | omega | (simp only [nx_alloc, nx_upd, len_cons, len_nil, List.length_set, List.length_map, List.length_append] <;> omega) | fail)) only [Nat.reduceAdd, Nat.reduceSub, Nat.reduceMul, Nat.reduceLT, Nat.reduceLeDiff, Nat.reduceEqDiff, ↓reduceIte, reduceCtorEq, Int.reduceAdd, Int.reduceSub, Int.reduceMul, Int.reduceLT, Int.reduceLE, Int.reduceEq, Int.reduceNe, Int.reduceToNat, Int.reduceNeg, go_sem, hcat2, hz3, hz4]
  rw [hap6]
  simp (maxSteps := 1000000) (disch := (first | omega | (simp only [nx_alloc, nx_upd, len_cons, len_nil, List.length_set, List.length_map, List.length_append] <;> omega) | fail)) only [Nat.reduceAdd, Nat.reduceSub, Nat.reduceMul, Nat.reduceLT, Nat.reduceLeDiff, Nat.reduceEqDiff, ↓reduceIte, reduceCtorEq, Int.reduceAdd, Int.reduceSub, Int.reduceMul, Int.reduceLT, Int.reduceLE, Int.reduceEq, Int.reduceNe, Int.reduceToNat, Int.reduceNeg, go_sem, g44]
  refine ⟨k - 1, by omega, _, i + 1, v6, rfl, Row.push_over (by omega) (fun b hb => (Row.rb hrow b hb).1) hn6 hf6 ov3 (Nat.le_refl _), by omega, by omega, by rw [hst, ← List.append_assoc]; exact hr6, by rw [hst, List.length_append, hln]; omega, ?_, ?_, ?_, ?_, ?_⟩
  · simp (maxSteps := 1000000) (disch := (first | omega | (simp only [nx_alloc, nx_upd, len_cons, len_nil, List.length_set, List.length_map, List.length_append] <;> omega) | fail)) only [Nat.reduceAdd, Nat.reduceSub, Nat.reduceMul, Nat.reduceLT, Nat.reduceLeDiff, Nat.reduceEqDiff, ↓reduceIte, reduceCtorEq, Int.reduceAdd, Int.reduceSub, Int.reduceMul, Int.reduceLT, Int.reduceLE, Int.reduceEq, Int.reduceNe, Int.reduceToNat, Int.reduceNeg, go_sem, g1]
  · simp (maxSteps := 1000000) (disch := (first | omega | (simp only [nx_alloc, nx_upd, len_cons, len_nil, List.length_set, List.length_map, List.length_append] <;> omega) | fail)) only [Nat.reduceAdd, Nat.reduceSub, Nat.reduceMul, Nat.reduceLT, Nat.reduceLeDiff, Nat.reduceEqDiff, ↓reduceIte, reduceCtorEq, Int.reduceAdd, Int.reduceSub, Int.reduceMul, Int.reduceLT, Int.reduceLE, Int.reduceEq, Int.reduceNe, Int.reduceToNat, Int.reduceNeg, go_sem]
  · simp (maxSteps := 1000000) (disch := (first | omega | (simp only [nx_alloc, nx_upd, len_cons, len_nil, List.length_set, List.length_map, List.length_append] <;> omega) | fail)) only [Nat.reduceAdd, Nat.reduceSub, Nat.reduceMul, Nat.reduceLT, Nat.reduceLeDiff, Nat.reduceEqDiff, ↓reduceIte, reduceCtorEq, Int.reduceAdd, Int.reduceSub, Int.reduceMul, Int.reduceLT, Int.reduceLE, Int.reduceEq, Int.reduceNe, Int.reduceToNat, Int.reduceNeg, go_sem, g42]
  · simp (maxSteps := 1000000) (disch := (first | omega | (simp only [nx_alloc, nx_upd, len_cons, len_nil, List.length_set, List.length_map, List.length_append] <;> omega) | fail)) only [Nat.reduceAdd, Nat.reduceSub, Nat.reduceMul, Nat.reduceLT, Nat.reduceLeDiff, Nat.reduceEqDiff, ↓reduceIte, reduceCtorEq, Int.reduceAdd, Int.reduceSub, Int.reduceMul, Int.reduceLT, Int.reduceLE, Int.reduceEq, Int.reduceNe, Int.reduceToNat, Int.reduceNeg, go_sem, g43]
  · simp (maxSteps := 1000000) (disch := (first | omega | (simp only [nx_alloc, nx_upd, len_cons, len_nil, List.length_set, List.length_map, List.length_append] <;> omega) | fail)) only [Nat.reduceAdd, Nat.reduceSub, Nat.reduceMul, Nat.reduceLT, Nat.reduceLeDiff, Nat.reduceEqDiff, ↓reduceIte, reduceCtorEq, Int.reduceAdd, Int.reduceSub, Int.reduceMul, Int.reduceLT, Int.reduceLE, Int.reduceEq, Int.reduceNe, Int.reduceToNat, Int.reduceNeg, go_sem]
    rfl
end Go.Fw
