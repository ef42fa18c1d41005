import Derived.Test.YtlpdpdaieeaajaaFwB
import Derived.Test.YtlpdpdaieeaajaaFwC
import Derived.Test.YtlpdpdaieeaajaaFw33
set_option linter.unusedSimpArgs false
set_option linter.unusedVariables false
namespace Go.Fw
open Go.Proofs Go.RowKit
attribute [local go_sem] List.length_cons List.length_nil Nat.zero_add Nat.add_zero Nat.zero_mul Nat.mul_one Int.toNat_zero Int.toNat_natCast List.map_cons List.map_nil List.map_toArray List.toList_toArray List.append_toArray List.append_eq List.nil_append List.cons_append List.append_nil List.all_toArray List.all_cons List.all_nil Bool.and_true Bool.true_and Bool.and_self List.getElem?_toArray List.getElem?_cons_zero List.getElem?_cons_succ List.set_cons_zero List.set_cons_succ List.drop_zero List.drop_succ_cons List.take_zero List.take_succ_cons Option.bind_some Option.map_some id true_and and_true and_self St.next_alloc St.next_upd beq_self_eq_true Bool.not_true Bool.not_false Bool.false_eq_true false_implies true_implies Option.isNone_none Option.isNone_some Option.isSome_none Option.isSome_some ge_iff_le gt_iff_lt Nat.sub_zero Nat.add_assoc IntWalk.i64_in IntWalk.u64_in IntWalk.u8_in IntWalk.u32_in IntWalk.i32_in IntWalk.u16_in dec_not Bool.not_eq_true decide_true decide_false ne_eq not_true_eq_false not_false_eq_true Bool.true_or Bool.or_true Bool.or_false Bool.false_or Bool.and_false Bool.false_and upd_apply rd_eq ar_zero ar_succ ar_nil tm_size tm_getD tm_set E_tmps E_defers put_E put_none eval_tmp eval_const eval_func setArgs_0 setArgs_1 setArgs_2 append_lit stepV_some stepA_some guardO_true ifB_true ifB_false wantV_true wantV_false wantV_dec_t wantV_dec_f ifB_dec_t ifB_dec_f condV_bool dec_and dec_or isB_bool someB_t someB_f okO_tmp okO_func okO_int okO_bool okO_string okO_ptr0 okO_slice0 okO_nilFunc okO_nilIface okO_map0 okO_agg wanted_none wanted_some lookT_some aopsL_nil aopsL_cons wpA_skip wpA_label wpA_exit wpA_goto wpA_ret wpA_seq wpA_block wpA_region wpA_cond wpA_loop wpA_rangeFunc wpA_draw thenQ_normal thenQ_exit thenQ_ret thenQ_panic blockQ_normal blockQ_ret blockQ_panic blockQ_exit funQ_ret funQ_normal funQ_panic op_move op_assign pickV_or pickV_and pickV_t pickV_f pickV_true pickV_false op_pick allocV_some op_alloc op_box op_load op_nilCheck op_bin op_lookup bptr btype op_un op_convert op_makeInterface op_makeSlice op_fieldAddr op_field op_indexAddr op_index op_extract op_typeAssert storeV_some op_store op_makeMap op_mapUpdate op_slice00 op_slice10 op_slice01 op_slice11 op_slice111 op_slice011 op_makeFunc callV_true op_call op_builtin panicV_iface op_panic ACallV_func ACallF_false ACallF_true ACallV_yield afterCall_returned afterCall_panicked bin_add bin_sub bin_mul bin_and bin_or bin_xor bin_andNot bin_eql bin_neq bin_lss bin_leq bin_gtr bin_geq mval_some mval_none lookup_map lookU_map lookK_smap mapSet_map msetU_map msetK_int conv_to conv_from unsT_cells unsF_cells bin_same bin_nil bdata_nil bdata_some builtin_data builtin_str bin_quo bin_rem bin_shl bin_shr bin_sadd bin_seql bin_sneq bin_slss uB_bool bin_beql bin_bneq uP_pointer bin_peql bin_pneq uS_slice bin_leql bin_lneq bin_ieql bin_ineq un_neg un_xor un_not nilCheck_ptr nilCheck_func nilCheck_yield load_ptr loadC_one loadC_agg store_ptr slice_eq sliceU_string sliceU_slice sliceU_array sliceS_eq boundsS_some sliceL_eq boundsL_nil boundsL_exact boundsL_least boundsL_own boundsL_ownN bounds_11 bounds_10 bounds_01 bounds_00 builtin_len len_string len_array len_slice builtin_append builtin_copy pairA_some builtin_min builtin_max min_two max_two index_eq index_string index_array indexAddr_eq indexAddr_array indexAddr_slice fieldAddr_eq posO_some fAddr_some fieldAddr_struct partC_some field_eq field_struct part_eq partU_one partU_agg extract_tuple conv_eq conv_int conv_string u8O_u8 conv_bytes conv_text_nil conv_text_zero conv_text mkIface_eq get_upd_same consO_some finR_0 finR_1 finR_2 aresL_nil aresL_cons ares1_tmp ares1_cell retV_some aleave_nil aleave_coll bnd_int bnd_bool bnd_string bnd_nilIface bnd_slice0 bnd_iface bnd_slice bnd_ptr bnd_ptr0 bndL_nil bndL_cons bndA_lit bnd_tuple bnd_agg calm_same skipC_eq aopsC_nil aopsC_cons stepC_call stepC_move stepC_assign stepC_pick stepC_alloc stepC_box stepC_build stepC_buildSlice stepC_load stepC_store stepC_nilCheck stepC_binOp stepC_unOp stepC_convert stepC_makeInterface stepC_makeFunc stepC_makeSlice stepC_slice stepC_fieldAddr stepC_field stepC_indexAddr stepC_index stepC_extract stepC_typeAssert stepC_lookup stepC_mapUpdate stepC_makeMap stepC_builtin to_same sameA_eq aopsX_nil aopsX_cons stepX_heavy stepX_light lightK_eq allC_nil allC_cons hs_zero hs_succ stepT_call pure_call stepT_move pure_move stepT_assign pure_assign stepT_pick pure_pick stepT_alloc pure_alloc stepT_box pure_box stepT_build pure_build stepT_buildSlice pure_buildSlice stepT_load pure_load stepT_store pure_store stepT_nilCheck pure_nilCheck stepT_binOp pure_binOp stepT_unOp pure_unOp stepT_convert pure_convert stepT_makeInterface pure_makeInterface stepT_makeFunc pure_makeFunc stepT_makeSlice pure_makeSlice stepT_slice pure_slice stepT_fieldAddr pure_fieldAddr stepT_field pure_field stepT_indexAddr pure_indexAddr stepT_index pure_index stepT_extract pure_extract stepT_typeAssert pure_typeAssert stepT_lookup pure_lookup stepT_mapUpdate pure_mapUpdate stepT_makeMap pure_makeMap stepT_builtin pure_b_len pure_b_append pure_b_copy pure_b_min pure_b_max pure_b_unsafeSliceData pure_b_unsafeString leaveK_eq aleave_fn op_defer deferV_func resK_some defQ_ret defQ_normal storeC_int storeC_bool storeC_string storeC_slice storeC_func storeC_pointer len_cons len_nil cells_int cells_bool cells_string cells_slice cells_pointer cells_func cells_map cells_nilFunc cells_agg cell1_bool cell1_string cell1_slice cell1_pointer cell1_func cell1_i cell1_map cell1_nilFunc setList_nil setList_cons storeC_aggS fillP_nil fillP_cons fillAt_1 fillAt_n aggO_some sliceO_some places_0 places_s zerosR_0 zerosR_s thenElse_true evP_nil evP_cons okP_nil okP_cons op_buildL op_buildSliceL isBu_t isBu_f mk_E get_alloc_old get_alloc_new get_upd_old Try.agg1 Try.sz1 Try.byt1 Try.zero1 Try.agg2 Try.sz2 Try.byt2 Try.zero2 Try.agg3 Try.sz3 Try.byt3 Try.zero3 Try.agg4 Try.sz4 Try.byt4 Try.zero4 Try.agg5 Try.sz5 Try.byt5 Try.zero5 Try.agg6 Try.sz6 Try.byt6 Try.zero6 Try.agg7 Try.sz7 Try.byt7 Try.zero7 Try.agg8 Try.sz8 Try.byt8 Try.zero8 Try.agg9 Try.sz9 Try.byt9 Try.zero9 Try.agg10 Try.sz10 Try.byt10 Try.zero10 Try.agg11 Try.sz11 Try.byt11 Try.zero11 Try.agg12 Try.sz12 Try.byt12 Try.zero12 Try.agg13 Try.sz13 Try.byt13 Try.zero13 Try.agg14 Try.sz14 Try.byt14 Try.zero14 Try.agg15 Try.sz15 Try.byt15 Try.zero15 Try.agg16 Try.sz16 Try.byt16 Try.zero16 Try.agg17 Try.sz17 Try.byt17 Try.zero17 Try.agg18 Try.sz18 Try.byt18 Try.zero18 Try.agg19 Try.sz19 Try.byt19 Try.zero19 Try.agg20 Try.sz20 Try.byt20 Try.zero20 Try.agg21 Try.sz21 Try.byt21 Try.zero21 Try.agg22 Try.sz22 Try.byt22 Try.el22 Try.zero22 Try.agg23 Try.sz23 Try.byt23 Try.zero23 Try.agg24 Try.sz24 Try.byt24 Try.zero24 Try.agg25 Try.sz25 Try.byt25 Try.zero25 Try.agg26 Try.sz26 Try.byt26 Try.zero26 Try.agg27 Try.sz27 Try.byt27 Try.el27 Try.zero27 Try.agg28 Try.sz28 Try.byt28 Try.el28 Try.zero28 Try.agg29 Try.sz29 Try.byt29 Try.el29 Try.zero29 Try.agg30 Try.sz30 Try.byt30 Try.zero30 Try.agg31 Try.sz31 Try.byt31 Try.zero31 Try.agg32 Try.sz32 Try.byt32 Try.zero32 Try.agg33 Try.sz33 Try.byt33 Try.el33 Try.zero33 Try.agg34 Try.sz34 Try.byt34 Try.zero34 Try.agg35 Try.sz35 Try.byt35 Try.zero35 Try.agg36 Try.sz36 Try.byt36 Try.zero36 Try.agg37 Try.sz37 Try.byt37 Try.zero37 Try.agg39 Try.sz39 Try.byt39 Try.zero39 Try.agg40 Try.sz40 Try.byt40 Try.zero40 Try.agg42 Try.sz42 Try.byt42 Try.zero42 Try.agg44 Try.sz44 Try.byt44 Try.zero44 Try.agg45 Try.sz45 Try.byt45 Try.zero45 Try.agg46 Try.sz46 Try.byt46 Try.zero46 Try.agg47 Try.sz47 Try.byt47 Try.el47 Try.zero47 Try.agg48 Try.sz48 Try.byt48 Try.zero48 Try.agg49 Try.sz49 Try.byt49 Try.zero49 Try.agg50 Try.sz50 Try.byt50 Try.zero50 Try.agg51 Try.sz51 Try.byt51 Try.zero51 Try.agg52 Try.sz52 Try.byt52 Try.zero52 Try.agg53 Try.sz53 Try.byt53 Try.zero53 Try.agg54 Try.sz54 Try.byt54 Try.zero54 Try.agg55 Try.sz55 Try.byt55 Try.zero55 Try.agg56 Try.sz56 Try.byt56 Try.zero56 Try.agg57 Try.sz57 Try.byt57 Try.zero57 Try.agg58 Try.sz58 Try.byt58 Try.zero58 Try.agg59 Try.sz59 Try.byt59 Try.zero59 Try.agg60 Try.sz60 Try.byt60 Try.zero60 Try.agg61 Try.sz61 Try.byt61 Try.zero61 Try.agg62 Try.sz62 Try.byt62 Try.zero62 Try.agg63 Try.sz63 Try.byt63 Try.zero63 Try.agg64 Try.sz64 Try.byt64 Try.zero64 Try.agg65 Try.sz65 Try.byt65 Try.zero65 Try.agg66 Try.sz66 Try.byt66 Try.zero66 Try.agg67 Try.sz67 Try.byt67 Try.zero67 Try.agg69 Try.sz69 Try.byt69 Try.zero69 Try.agg70 Try.sz70 Try.byt70 Try.zero70 Try.agg72 Try.sz72 Try.byt72 Try.zero72 Try.agg74 Try.sz74 Try.byt74 Try.zero74 Try.agg75 Try.sz75 Try.byt75 Try.zero75 Try.agg76 Try.sz76 Try.byt76 Try.zero76 Try.agg77 Try.sz77 Try.byt77 Try.zero77 Try.agg78 Try.sz78 Try.byt78 Try.zero78 Try.agg79 Try.sz79 Try.byt79 Try.zero79 Try.agg80 Try.sz80 Try.byt80 Try.zero80 Try.agg81 Try.sz81 Try.byt81 Try.zero81 Try.agg82 Try.sz82 Try.byt82 Try.zero82 Try.agg83 Try.sz83 Try.byt83 Try.zero83 Try.agg84 Try.sz84 Try.byt84 Try.zero84 Try.agg85 Try.sz85 Try.byt85 Try.zero85 Try.agg86 Try.sz86 Try.byt86 Try.zero86 Try.agg88 Try.sz88 Try.byt88 Try.zero88 Try.agg89 Try.sz89 Try.byt89 Try.zero89 Try.agg90 Try.sz90 Try.byt90 Try.zero90 Try.agg91 Try.sz91 Try.byt91 Try.zero91 Try.agg92 Try.sz92 Try.byt92 Try.zero92 Try.agg93 Try.sz93 Try.byt93 Try.zero93 Try.agg94 Try.sz94 Try.byt94 Try.zero94 Try.agg95 Try.sz95 Try.byt95 Try.zero95 Try.agg96 Try.sz96 Try.byt96 Try.zero96 Try.agg97 Try.sz97 Try.byt97 Try.zero97 Try.agg98 Try.sz98 Try.byt98 Try.zero98 Try.agg99 Try.sz99 Try.byt99 Try.zero99 Try.agg100 Try.sz100 Try.byt100 Try.zero100 Try.agg101 Try.sz101 Try.byt101 Try.zero101 Try.agg102 Try.sz102 Try.byt102 Try.zero102 Try.body0 Try.body1 Try.body2 Try.body3 Try.body4 Try.body5 Try.body6 Try.body7 Try.body8 Try.body9 Try.body10 Try.body11 Try.body12 Try.body13 Try.body14 Try.body15 Try.body16 Try.body17 Try.body18 Try.body19 Try.body20 Try.body21 Try.body22 Try.body23 Try.body24 Try.body25 Try.body26 Try.body27 Try.body28 Try.body29 Try.body30 Try.body31 Try.body32 Try.body33 Try.body34 Try.body35 Try.body36 Try.body37 Try.body38 Try.body39 Try.body40 Try.body41 Try.body42 Try.body43 Try.body44 Try.body45 Try.body46 Try.body47 Try.body48 Try.body49 Try.body50 Try.body51 Try.body52 Try.body53 Try.body54 Try.body55 Try.body56 Try.body57 Try.body58 Try.body59 Try.body60 Try.body61 Try.body62 Try.body63 Try.body64 Try.body65 Try.body66 Try.body67 Try.body68 Try.body69 Try.body70 Try.body71 Try.body72 Try.build7 Try.build8 Try.build13 Try.build14 Try.build18 Try.build19 Try.bsl22 Try.bsl27 Try.bsl28 Try.bsl29 Try.build30 Try.build31 Try.bsl33 Try.bsl47 Try.build48 Try.build49 Try.build62 Try.build63 Try.build88 Try.build89 Try.build91 Try.build92 Try.build100 Try.build101 Try.underlying1 Try.underlying2 Try.underlying3 Try.underlying4 Try.underlying5 Try.underlying6 Try.underlying7 Try.underlying8 Try.underlying9 Try.underlying10 Try.underlying11 Try.underlying12 Try.underlying13 Try.underlying14 Try.underlying15 Try.underlying16 Try.underlying17 Try.underlying18 Try.underlying19 Try.underlying20 Try.underlying21 Try.underlying22 Try.underlying23 Try.underlying24 Try.underlying25 Try.underlying26 Try.underlying27 Try.underlying28 Try.underlying29 Try.underlying30 Try.underlying31 Try.underlying32 Try.underlying33 Try.underlying34 Try.underlying35 Try.underlying36 Try.underlying37 Try.underlying39 Try.underlying40 Try.underlying42 Try.underlying44 Try.underlying45 Try.underlying46 Try.underlying47 Try.underlying48 Try.underlying49 Try.underlying50 Try.underlying51 Try.underlying52 Try.underlying53 Try.underlying54 Try.underlying55 Try.underlying56 Try.underlying57 Try.underlying58 Try.underlying59 Try.underlying60 Try.underlying61 Try.underlying62 Try.underlying63 Try.underlying64 Try.underlying65 Try.underlying66 Try.underlying67 Try.underlying69 Try.underlying70 Try.underlying72 Try.underlying74 Try.underlying75 Try.underlying76 Try.underlying77 Try.underlying78 Try.underlying79 Try.underlying80 Try.underlying81 Try.underlying82 Try.underlying83 Try.underlying84 Try.underlying85 Try.underlying86 Try.underlying88 Try.underlying89 Try.underlying90 Try.underlying91 Try.underlying92 Try.underlying93 Try.underlying94 Try.underlying95 Try.underlying96 Try.underlying97 Try.underlying98 Try.underlying99 Try.underlying100 Try.underlying101 Try.underlying102
theorem Try.enters3 : Enters Try.prog 3 := enters_of Try.func3 rfl (by kernel_rfl)
def u16E (i : Int) : List Value := [.int .u16 i]
theorem u16E_len (i : Int) : (u16E i).length = 1 := rfl
theorem u16E_pl (i : Int) : (u16E i).all plainV = true := rfl
def u16Ok (i : Int) : Prop := 0 ≤ i ∧ i ≤ 65535
theorem u16E_dec {H : Type} {enc : TypeId × Value → H} {w : World} {held : Bool} (n : Nat) (cs : List Value) (y : DataW H × List MemPlace) (h : DataW.trod enc Try.prog w 0 (fun _ => true) held n 32 cs = some y) : ∃ a, cs = u16E a ∧ u16Ok a := by
  obtain ⟨a, e0, _, w0⟩ := DataW.trod_int Try.underlying32 h
  refine ⟨a, e0, ?_⟩
  have := w0
  simp [Lit.wf, IntKind.min, IntKind.max, IntKind.bits, IntKind.signed] at this
  unfold u16Ok
  omega
theorem u16E_at (l : List Int) (i : Nat) (x : Int) (h : l[i]? = some x) : (l.flatMap u16E)[i]? = some (.int .u16 x) := by
  have := flatMap_at (encE := u16E) (sz := 1) l (fun y _ => rfl) i 0 (by decide)
  rw [Nat.mul_one, Nat.add_zero, h] at this
  exact this
def nmAt (i : Nat) : ByteArray := strOfNums [((97 + i : Nat) : Int)]
def nmL (i : Nat) : List ByteArray := (List.range i).map nmAt
theorem nmL_succ (i : Nat) : nmL (i + 1) = nmL i ++ [nmAt i] := by unfold nmL; rw [List.range_succ, List.map_append]; rfl
theorem nmL_len (i : Nat) : (nmL i).length = i := by unfold nmL; rw [List.length_map, List.length_range]
def szM (l : List Int) : List Int := l.map fun k => ((k.toNat % 301 : Nat) : Int)
theorem szM_len (l : List Int) : (szM l).length = l.length := List.length_map ..
theorem szM_sum (l : List Int) (i : Nat) (k : Nat) (h : l[i]? = some (k : Int)) : sumSz (szM (l.take (i + 1))) = sumSz (szM (l.take i)) + k % 301 := by
  have e : okSz ((k % 301 : Nat) : Int) = k % 301 := by unfold okSz; rw [if_pos ⟨by omega, by omega⟩, Int.toNat_natCast]
  unfold sumSz szM; rw [List.take_add_one, h]
  simp only [Option.toList_some, List.map_append, List.map_cons, List.map_nil, List.sum_append, List.sum_cons, List.sum_nil, Int.toNat_natCast, e]
  omega
theorem szM_take (l : List Int) (i : Nat) (k : Nat) (h : l[i]? = some (k : Int)) : szM (l.take (i + 1)) = szM (l.take i) ++ [((k % 301 : Nat) : Int)] := by
  unfold szM; rw [List.take_add_one, h, List.map_append]; rfl
theorem nm_ok (l : List Int) (hl : l.length ≤ 12) : ∀ j, j < (nmL l.length).length → okAt (nmL l.length) (szM l) j := by
  intro j hj
  rw [nmL_len] at hj
  have e : ∀ i, i < l.length → nmN (nmL l.length) i = nmAt i := fun i hi => nmN_at (by unfold nmL; rw [List.getElem?_map, List.getElem?_range hi]; rfl)
  obtain ⟨k, hk⟩ : ∃ k, l[j]? = some k := ⟨_, List.getElem?_eq_getElem hj⟩
  have es : szN (szM l) j = ((k.toNat % 301 : Nat) : Int) := szN_at (by unfold szM; rw [List.getElem?_map, hk]; rfl)
  have sz1 : (nmAt j).size = 1 := str_size _
  unfold okAt
  rw [e j hj, es, sz1]
  refine ⟨by decide, by decide, by omega, by omega, fun h0 => ?_⟩
  rw [e (j - 1) (by omega)]
  obtain ⟨m, rfl⟩ : ∃ m, j = m + 1 := ⟨j - 1, by omega⟩
  have : ∀ m, m < 12 → lessS (nmAt m) (nmAt (m + 1)) = true := by
    unfold lessS
    simp only [ByteArray.toList_eq]
    decide
  exact this m (by omega)
theorem may_blocks (id : Int) (l : List Int) (hl : l.length ≤ 12) (B : List HashT) : mayB ⟨id, B, nmL l.length, szM l⟩ = decide (B.length = blocksN (szM l)) := by
  rw [Bool.eq_iff_iff, may_iff, decide_eq_true_eq]
  constructor
  · rintro ⟨_, _, h, _⟩; exact h
  · intro h; exact ⟨by simp only [nmL_len]; exact hl, by simp only [nmL_len, szM_len], h, nm_ok l hl⟩
theorem hs_app {A : St} {lo : Nat} {l m : List HashT} {v x : Value} (hr : HsRow A lo l v) (hlo : lo ≤ A.next) (hx : HsView A m x) (hl : l.length + m.length ≤ 1048576) :
    ∃ v' A2, aappend Try.prog A 27 27 v x = some (v', A2) ∧ HsRow A2 lo (l ++ m) v' ∧ A.next ≤ A2.next ∧ (∀ b, b < A.next → rowB v ≠ some b → A2.get b = A.get b) ∧ (∀ b, b < lo → A2.get b = A.get b) := by
  have hcell : (m.flatMap hsC).all cell1 = true := by
    rw [List.all_eq_true]; intro y hy
    obtain ⟨z, _, hz⟩ := List.mem_flatMap.1 hy
    exact List.all_eq_true.1 (hsC_cell z) y hz
  obtain ⟨v', A2, h1, h2, h3, h4⟩ := row_app (P := Try.prog) (sT := 27) (xT := 27) Try.el27 Try.underlying27 (by intro k; exact TypeDesc.noConfusion) Try.sz24 Try.byt24 Try.zero24 rfl hr hlo hx (by omega) (by omega) hcell
  refine ⟨v', A2, h1, ?_, h3, h4, fun b hb => h4 b (by omega) (fun e => by have := (Row.rb hr b e).1; omega)⟩
  unfold HsRow
  rw [List.flatMap_append, List.length_append]; exact h2
theorem hs_one (A : St) (b : Nat) (h : HashT) (hb : A.get b = some (.cells (hsC h) 24 (some 0))) (hlt : b < A.next) : HsView A [h] (.slice (some ⟨b, 0, none⟩) 1 1) :=
  ⟨by simp [hsC_len], .inr ⟨b, 0, none, 1, hsC h, _, _, rfl, hlt, hb, by rw [hsC_len]; simp, by rw [List.drop_zero, List.take_of_length_le (by rw [hsC_len]; simp)]; simp⟩⟩
theorem hs_zero_row (A : St) (b lo : Nat) (hb : A.get b = some (.cells [] 24 (some 0))) (hlt : b < A.next) (hlo : lo ≤ b) : HsRow A lo [] (.slice (some ⟨b, 0, none⟩) 0 0) :=
  ⟨by simp, .inr ⟨b, none, rfl, .inl rfl, hlo, hlt, hb⟩⟩
set_option maxHeartbeats 8000000 in
theorem blocks_all (w0 : World) (A : St) (v : Value) (l : List Int) (h : HashT) (hv : View A 1 (l.flatMap u16E) l.length v) (okl : ∀ y ∈ l, u16Ok y) (okh : hsOk h) : ACalls Try.prog w0 3 #[v, .agg (hsC h).toArray] A (fin (.bool true) A) := by
  refine call_E Try.enters3 Try.func3 rfl (Nat.le_of_ble_eq_true rfl) fun hw hbd => ?_
  have hcl := hsC_len h
  have hv1 : View (A.alloc (.cells (hsC h) 24 (some 0))) 1 (l.flatMap u16E) l.length v := View.over hv ((Over.refl A).alloc _)
  have hlen := View.lenU (e := 32) hv1
  by_cases hl : 12 < l.length
  · have h1 : (l.length : Int) > 12 := by omega
    simp (maxSteps := 1000000) (disch := (first | omega | (simp only [nx_alloc, nx_upd, len_cons, len_nil, List.length_set, List.length_map, List.length_append] <;> omega) | fail)) only [Nat.reduceAdd, Nat.reduceSub, Nat.reduceMul, Nat.reduceLT, Nat.reduceLeDiff, Nat.reduceEqDiff, ↓reduceIte, reduceCtorEq, Int.reduceAdd, Int.reduceSub, Int.reduceMul, Int.reduceLT, Int.reduceLE, Int.reduceEq, Int.reduceNe, Int.reduceToNat, Int.reduceNeg, go_sem, Try.ntmps3, Try.results3, hlen]
    refine call1 (shown_ok w0 _) ?_
    simp (maxSteps := 1000000) (disch := (first | omega | (simp only [nx_alloc, nx_upd, len_cons, len_nil, List.length_set, List.length_map, List.length_append] <;> omega) | fail)) only [Nat.reduceAdd, Nat.reduceSub, Nat.reduceMul, Nat.reduceLT, Nat.reduceLeDiff, Nat.reduceEqDiff, ↓reduceIte, reduceCtorEq, Int.reduceAdd, Int.reduceSub, Int.reduceMul, Int.reduceLT, Int.reduceLE, Int.reduceEq, Int.reduceNe, Int.reduceToNat, Int.reduceNeg, go_sem, Try.results3]
    exact gc_fin' hw ((Over.refl _).alloc _) rfl (.bool _)
  have h1 : ¬ (l.length : Int) > 12 := by omega
  simp (maxSteps := 1000000) (disch := (first | omega | (simp only [nx_alloc, nx_upd, len_cons, len_nil, List.length_set, List.length_map, List.length_append] <;> omega) | fail)) only [Nat.reduceAdd, Nat.reduceSub, Nat.reduceMul, Nat.reduceLT, Nat.reduceLeDiff, Nat.reduceEqDiff, ↓reduceIte, reduceCtorEq, Int.reduceAdd, Int.reduceSub, Int.reduceMul, Int.reduceLT, Int.reduceLE, Int.reduceEq, Int.reduceNe, Int.reduceToNat, Int.reduceNeg, go_sem, Try.ntmps3, Try.results3, hlen]
  refine call1 (shown_ok w0 _) ?_
  simp (maxSteps := 1000000) (disch := (first | omega | (simp only [nx_alloc, nx_upd, len_cons, len_nil, List.length_set, List.length_map, List.length_append] <;> omega) | fail)) only [Nat.reduceAdd, Nat.reduceSub, Nat.reduceMul, Nat.reduceLT, Nat.reduceLeDiff, Nat.reduceEqDiff, ↓reduceIte, reduceCtorEq, Int.reduceAdd, Int.reduceSub, Int.reduceMul, Int.reduceLT, Int.reduceLE, Int.reduceEq, Int.reduceNe, Int.reduceToNat, Int.reduceNeg, go_sem]
  have j1 : RK (.cells (hsC h) 24 (some 0)) A 3 (.slice none 0 0) (.slice none 0 0) (.slice none 0 0) [] [] [] (((A.alloc (.cells (hsC h) 24 (some 0))).alloc (verB 0 (.slice none 0 0) (.slice none 0 0) (.slice none 0 0))).upd (A.next + 1) (some (verB 3 (.slice none 0 0) (.slice none 0 0) (.slice none 0 0)))) :=
    ⟨(((Over.refl A).alloc _).alloc _).upd (by omega) _, Nat.le_refl _, by simp (disch := (first | omega | (simp only [nx_alloc, nx_upd, len_cons, len_nil, List.length_set, List.length_map, List.length_append] <;> omega) | fail)) only [St.get_upd, St.get_alloc, St.next_alloc, St.next_upd, ↓reduceIte, natF_lt, natF_gt, natF_ne, Nat.add_assoc, Nat.reduceAdd, Nat.reduceEqDiff, Nat.add_left_cancel_iff], get_upd_same .., Row.nil .., Row.nil .., Row.nil .., fun b hb => (by cases hb), fun b hb => (by cases hb), fun b hb => (by cases hb)⟩
  change AW _ _ _ _ _ _ _ (((A.alloc (.cells (hsC h) 24 (some 0))).alloc (verB 0 (.slice none 0 0) (.slice none 0 0) (.slice none 0 0))).upd (A.next + 1) (some (verB 3 (.slice none 0 0) (.slice none 0 0) (.slice none 0 0))))
  clear hv1 hlen
  generalize (((A.alloc (.cells (hsC h) 24 (some 0))).alloc (verB 0 (.slice none 0 0) (.slice none 0 0) (.slice none 0 0))).upd (A.next + 1) (some (verB 3 (.slice none 0 0) (.slice none 0 0) (.slice none 0 0)))) = A1 at *
  refine aw_loop (fun k x A' => ∃ (ρ : Nat → Value) (i : Nat) (q u : Value), x = E 101 ρ [] ∧ k = l.length - i ∧ i ≤ l.length ∧ RK (.cells (hsC h) 24 (some 0)) A 3 (.slice none 0 0) q u [] (nmL i) (szM (l.take i)) A' ∧
      ρ 0 = v ∧ ρ 3 = .pointer (some ⟨A.next, 0, none⟩) ∧ ρ 5 = .pointer (some ⟨A.next + 1, 0, none⟩) ∧ ρ 6 = .int .i64 (sumSz (szM (l.take i)) : Nat) ∧ ρ 7 = .int .i64 i) l.length
    ⟨_, 0, _, _, rfl, rfl, Nat.zero_le _, j1, rfl, rfl, rfl, rfl, rfl⟩ ?_
  clear j1
  rintro k x A' ⟨ρ, i, q, u, rfl, hk, hi, j, g0, g3, g5, g6, g7⟩
  refine aw_of ?_
  have hlo := j.lo
  have jr := j.res
  have jv := j.vs
  unfold verB at jv
  have hv1 : View A' 1 (l.flatMap u16E) l.length v := View.over hv j.over
  have hlen := View.lenU (e := 32) hv1
  by_cases hend : i = l.length
  rotate_left
  · have e1 : ((i : Int) < l.length) := by omega
    obtain ⟨n, hx⟩ : ∃ x, l[i]? = some x := ⟨_, List.getElem?_eq_getElem (by omega)⟩
    obtain ⟨n0, n1⟩ := okl n (List.mem_of_getElem? hx)
    obtain ⟨n, rfl⟩ := Int.eq_ofNat_of_zero_le n0
    obtain ⟨pb, po, hb1, hb2, hb3, cells, e', md, hb4, hb5⟩ := View.at1 (P := Try.prog) (e := 32) hv1 Try.sz32 (u16E_at _ i n hx)
    have hrem : ((n : Int).tmod 301) = ((n % 301 : Nat) : Int) := rfl
    have hsum := szM_sum l i n hx
    have hle := sumSz_le (szM (l.take i))
    have hsl : (szM (l.take i)).length = i := by rw [szM_len, List.length_take]; omega
    simp (maxSteps := 1000000) (disch := (first | omega | (simp only [nx_alloc, nx_upd, len_cons, len_nil, List.length_set, List.length_map, List.length_append] <;> omega) | fail)) only [Nat.reduceAdd, Nat.reduceSub, Nat.reduceMul, Nat.reduceLT, Nat.reduceLeDiff, Nat.reduceEqDiff, ↓reduceIte, reduceCtorEq, Int.reduceAdd, Int.reduceSub, Int.reduceMul, Int.reduceLT, Int.reduceLE, Int.reduceEq, Int.reduceNe, Int.reduceToNat, Int.reduceNeg, go_sem, g0, g3, g5, g6, g7, jv, hlen, hb3, hb4, hb5, hrem]
    rw [textC_some (l := [((97 + i : Nat) : Int)]) (by simp) (by simp)]
    have j2 := j.ext ((Over.refl A').alloc (.cells [.int .u8 (97 + (i : Int))] 5 (some 0)))
    obtain ⟨v1, A4, hap, hv4, hv41, j4⟩ := j2.pushN (nmAt i) (by rw [nmL_len]; omega)
    have hv5 := j4.vs
    rw [nx_alloc] at hap
    obtain ⟨v2, A6, hap2, hv6, hv61, j6⟩ := j4.pushS ((n % 301 : Nat) : Int) (by rw [hsl]; omega)
    rw [nx_upd] at hap2
    unfold verB at hv4 hap2 hv6 hv5
    simp (maxSteps := 1000000) (disch := (first | omega | (simp only [nx_alloc, nx_upd, len_cons, len_nil, List.length_set, List.length_map, List.length_append] <;> omega) | fail)) only [Nat.reduceAdd, Nat.reduceSub, Nat.reduceMul, Nat.reduceLT, Nat.reduceLeDiff, Nat.reduceEqDiff, ↓reduceIte, reduceCtorEq, Int.reduceAdd, Int.reduceSub, Int.reduceMul, Int.reduceLT, Int.reduceLE, Int.reduceEq, Int.reduceNe, Int.reduceToNat, Int.reduceNeg, go_sem]
    change stepA (aappend Try.prog ((A'.alloc (.cells [.int .u8 (97 + (i : Int))] 5 (some 0))).alloc (.cells [.string (nmAt i)] 9 (some 0))) _ _ _ _) _ _ _
    rw [hap]
    simp (maxSteps := 1000000) (disch := (first | omega | (simp only [nx_alloc, nx_upd, len_cons, len_nil, List.length_set, List.length_map, List.length_append] <;> omega) | fail)) only [Nat.reduceAdd, Nat.reduceSub, Nat.reduceMul, Nat.reduceLT, Nat.reduceLeDiff, Nat.reduceEqDiff, ↓reduceIte, reduceCtorEq, Int.reduceAdd, Int.reduceSub, Int.reduceMul, Int.reduceLT, Int.reduceLE, Int.reduceEq, Int.reduceNe, Int.reduceToNat, Int.reduceNeg, go_sem, g5, hv4]
    rw [storeC_val hv41]
    simp (maxSteps := 1000000) (disch := (first | omega | (simp only [nx_alloc, nx_upd, len_cons, len_nil, List.length_set, List.length_map, List.length_append] <;> omega) | fail)) only [Nat.reduceAdd, Nat.reduceSub, Nat.reduceMul, Nat.reduceLT, Nat.reduceLeDiff, Nat.reduceEqDiff, ↓reduceIte, reduceCtorEq, Int.reduceAdd, Int.reduceSub, Int.reduceMul, Int.reduceLT, Int.reduceLE, Int.reduceEq, Int.reduceNe, Int.reduceToNat, Int.reduceNeg, go_sem, g5, hv5]
    rw [hap2]
    simp (maxSteps := 1000000) (disch := (first | omega | (simp only [nx_alloc, nx_upd, len_cons, len_nil, List.length_set, List.length_map, List.length_append] <;> omega) | fail)) only [Nat.reduceAdd, Nat.reduceSub, Nat.reduceMul, Nat.reduceLT, Nat.reduceLeDiff, Nat.reduceEqDiff, ↓reduceIte, reduceCtorEq, Int.reduceAdd, Int.reduceSub, Int.reduceMul, Int.reduceLT, Int.reduceLE, Int.reduceEq, Int.reduceNe, Int.reduceToNat, Int.reduceNeg, go_sem, g5, hv6]
    rw [storeC_val hv61]
    simp (maxSteps := 1000000) (disch := (first | omega | (simp only [nx_alloc, nx_upd, len_cons, len_nil, List.length_set, List.length_map, List.length_append] <;> omega) | fail)) only [Nat.reduceAdd, Nat.reduceSub, Nat.reduceMul, Nat.reduceLT, Nat.reduceLeDiff, Nat.reduceEqDiff, ↓reduceIte, reduceCtorEq, Int.reduceAdd, Int.reduceSub, Int.reduceMul, Int.reduceLT, Int.reduceLE, Int.reduceEq, Int.reduceNe, Int.reduceToNat, Int.reduceNeg, go_sem, g7]
    refine ⟨k - 1, by omega, _, i + 1, v1, v2, rfl, by omega, by omega, ?_, ?_, ?_, ?_, ?_, ?_⟩
    · rw [nmL_succ, szM_take l i n hx]; exact j6
    · simp (maxSteps := 1000000) (disch := (first | omega | (simp only [nx_alloc, nx_upd, len_cons, len_nil, List.length_set, List.length_map, List.length_append] <;> omega) | fail)) only [Nat.reduceAdd, Nat.reduceSub, Nat.reduceMul, Nat.reduceLT, Nat.reduceLeDiff, Nat.reduceEqDiff, ↓reduceIte, reduceCtorEq, Int.reduceAdd, Int.reduceSub, Int.reduceMul, Int.reduceLT, Int.reduceLE, Int.reduceEq, Int.reduceNe, Int.reduceToNat, Int.reduceNeg, go_sem, g0]
    · simp (maxSteps := 1000000) (disch := (first | omega | (simp only [nx_alloc, nx_upd, len_cons, len_nil, List.length_set, List.length_map, List.length_append] <;> omega) | fail)) only [Nat.reduceAdd, Nat.reduceSub, Nat.reduceMul, Nat.reduceLT, Nat.reduceLeDiff, Nat.reduceEqDiff, ↓reduceIte, reduceCtorEq, Int.reduceAdd, Int.reduceSub, Int.reduceMul, Int.reduceLT, Int.reduceLE, Int.reduceEq, Int.reduceNe, Int.reduceToNat, Int.reduceNeg, go_sem, g3]
    · simp (maxSteps := 1000000) (disch := (first | omega | (simp only [nx_alloc, nx_upd, len_cons, len_nil, List.length_set, List.length_map, List.length_append] <;> omega) | fail)) only [Nat.reduceAdd, Nat.reduceSub, Nat.reduceMul, Nat.reduceLT, Nat.reduceLeDiff, Nat.reduceEqDiff, ↓reduceIte, reduceCtorEq, Int.reduceAdd, Int.reduceSub, Int.reduceMul, Int.reduceLT, Int.reduceLE, Int.reduceEq, Int.reduceNe, Int.reduceToNat, Int.reduceNeg, go_sem, g5]
    · simp (maxSteps := 1000000) (disch := (first | omega | (simp only [nx_alloc, nx_upd, len_cons, len_nil, List.length_set, List.length_map, List.length_append] <;> omega) | fail)) only [Nat.reduceAdd, Nat.reduceSub, Nat.reduceMul, Nat.reduceLT, Nat.reduceLeDiff, Nat.reduceEqDiff, ↓reduceIte, reduceCtorEq, Int.reduceAdd, Int.reduceSub, Int.reduceMul, Int.reduceLT, Int.reduceLE, Int.reduceEq, Int.reduceNe, Int.reduceToNat, Int.reduceNeg, go_sem, hsum]
      rfl
    · simp (maxSteps := 1000000) (disch := (first | omega | (simp only [nx_alloc, nx_upd, len_cons, len_nil, List.length_set, List.length_map, List.length_append] <;> omega) | fail)) only [Nat.reduceAdd, Nat.reduceSub, Nat.reduceMul, Nat.reduceLT, Nat.reduceLeDiff, Nat.reduceEqDiff, ↓reduceIte, reduceCtorEq, Int.reduceAdd, Int.reduceSub, Int.reduceMul, Int.reduceLT, Int.reduceLE, Int.reduceEq, Int.reduceNe, Int.reduceToNat, Int.reduceNeg, go_sem]
      rfl
  have e1 : ¬ ((i : Int) < l.length) := by omega
  rw [hend, List.take_length] at g6 j
  subst hend
  have hm15 : blocksN (szM l) ≤ 15 := by have := sumSz_le (szM l); rw [szM_len] at this; unfold blocksN; omega
  have hquo : (((sumSz (szM l) : Nat) : Int) + 255).tdiv 256 = ((blocksN (szM l) : Nat) : Int) := rfl
  have hsle := sumSz_le (szM l)
  have hsl := szM_len l
  have hset := set_all [.int .u8 0, .int .u8 0, .int .u8 0, .int .u8 0, .int .u8 0, .int .u8 0, .int .u8 0, .int .u8 0, .int .u8 0, .int .u8 0, .int .u8 0, .int .u8 0, .int .u8 0, .int .u8 0, .int .u8 0, .int .u8 0, .int .u8 0, .int .u8 0, .int .u8 0, .int .u8 0, .int .u8 0, .int .u8 0, .int .u8 0, .int .u8 0, .int .u8 0, .int .u8 0, .int .u8 0, .int .u8 0, .int .u8 0, .int .u8 0, .int .u8 0, .int .u8 0] (hsC h) (by rw [hsC_len]; rfl)
  simp (maxSteps := 1000000) (disch := (first | omega | (simp only [nx_alloc, nx_upd, len_cons, len_nil, List.length_set, List.length_map, List.length_append] <;> omega) | fail)) only [Nat.reduceAdd, Nat.reduceSub, Nat.reduceMul, Nat.reduceLT, Nat.reduceLeDiff, Nat.reduceEqDiff, ↓reduceIte, reduceCtorEq, Int.reduceAdd, Int.reduceSub, Int.reduceMul, Int.reduceLT, Int.reduceLE, Int.reduceEq, Int.reduceNe, Int.reduceToNat, Int.reduceNeg, go_sem, g0, g3, g5, g6, g7, hlen]
  generalize hm : blocksN (szM l) = m at *
  refine aw_loop (fun k x A' => ∃ (ρ : Nat → Value) (i : Nat) (p : Value), x = E 101 ρ [] ∧ k = m - i ∧ i ≤ m ∧ RK (.cells (hsC h) 24 (some 0)) A 3 p q u (List.replicate i h) (nmL l.length) (szM l) A' ∧
      ρ 3 = .pointer (some ⟨A.next, 0, none⟩) ∧ ρ 5 = .pointer (some ⟨A.next + 1, 0, none⟩) ∧ ρ 6 = .int .i64 (sumSz (szM l) : Nat) ∧ ρ 9 = .int .i64 i) m
    ⟨_, 0, _, rfl, rfl, Nat.zero_le _, j, g3, g5, g6, rfl⟩ ?_
  clear j jr jv g0 g3 g5 g6 g7 hv1 hlen hlo hk hi e1
  rintro k x A' ⟨ρ, i, p, rfl, hk, hi, j, g3, g5, g6, g9⟩
  refine aw_of ?_
  have hlo := j.lo
  have jr := j.res
  have jv := j.vs
  unfold verB at jv
  by_cases hend : i = m
  rotate_left
  · have e1 : ((i : Int) < m) := by omega
    obtain ⟨v1, A4, hap, hv4, hv41, j4⟩ := j.pushB h (by rw [List.length_replicate]; omega)
    unfold verB at hv4
    simp (maxSteps := 1000000) (disch := (first | omega | (simp only [nx_alloc, nx_upd, len_cons, len_nil, List.length_set, List.length_map, List.length_append] <;> omega) | fail)) only [Nat.reduceAdd, Nat.reduceSub, Nat.reduceMul, Nat.reduceLT, Nat.reduceLeDiff, Nat.reduceEqDiff, ↓reduceIte, reduceCtorEq, Int.reduceAdd, Int.reduceSub, Int.reduceMul, Int.reduceLT, Int.reduceLE, Int.reduceEq, Int.reduceNe, Int.reduceToNat, Int.reduceNeg, go_sem, g3, g5, g6, g9, hquo, jv, jr, loadHs, hset]
    rw [hap]
    simp (maxSteps := 1000000) (disch := (first | omega | (simp only [nx_alloc, nx_upd, len_cons, len_nil, List.length_set, List.length_map, List.length_append] <;> omega) | fail)) only [Nat.reduceAdd, Nat.reduceSub, Nat.reduceMul, Nat.reduceLT, Nat.reduceLeDiff, Nat.reduceEqDiff, ↓reduceIte, reduceCtorEq, Int.reduceAdd, Int.reduceSub, Int.reduceMul, Int.reduceLT, Int.reduceLE, Int.reduceEq, Int.reduceNe, Int.reduceToNat, Int.reduceNeg, go_sem, g5, hv4]
    rw [storeC_val hv41]
    simp (maxSteps := 1000000) (disch := (first | omega | (simp only [nx_alloc, nx_upd, len_cons, len_nil, List.length_set, List.length_map, List.length_append] <;> omega) | fail)) only [Nat.reduceAdd, Nat.reduceSub, Nat.reduceMul, Nat.reduceLT, Nat.reduceLeDiff, Nat.reduceEqDiff, ↓reduceIte, reduceCtorEq, Int.reduceAdd, Int.reduceSub, Int.reduceMul, Int.reduceLT, Int.reduceLE, Int.reduceEq, Int.reduceNe, Int.reduceToNat, Int.reduceNeg, go_sem, g9]
    refine ⟨k - 1, by omega, _, i + 1, v1, rfl, by omega, by omega, ?_, ?_, ?_, ?_, ?_⟩
    · rw [List.replicate_succ']; exact j4
    · simp (maxSteps := 1000000) (disch := (first | omega | (simp only [nx_alloc, nx_upd, len_cons, len_nil, List.length_set, List.length_map, List.length_append] <;> omega) | fail)) only [Nat.reduceAdd, Nat.reduceSub, Nat.reduceMul, Nat.reduceLT, Nat.reduceLeDiff, Nat.reduceEqDiff, ↓reduceIte, reduceCtorEq, Int.reduceAdd, Int.reduceSub, Int.reduceMul, Int.reduceLT, Int.reduceLE, Int.reduceEq, Int.reduceNe, Int.reduceToNat, Int.reduceNeg, go_sem, g3]
    · simp (maxSteps := 1000000) (disch := (first | omega | (simp only [nx_alloc, nx_upd, len_cons, len_nil, List.length_set, List.length_map, List.length_append] <;> omega) | fail)) only [Nat.reduceAdd, Nat.reduceSub, Nat.reduceMul, Nat.reduceLT, Nat.reduceLeDiff, Nat.reduceEqDiff, ↓reduceIte, reduceCtorEq, Int.reduceAdd, Int.reduceSub, Int.reduceMul, Int.reduceLT, Int.reduceLE, Int.reduceEq, Int.reduceNe, Int.reduceToNat, Int.reduceNeg, go_sem, g5]
    · simp (maxSteps := 1000000) (disch := (first | omega | (simp only [nx_alloc, nx_upd, len_cons, len_nil, List.length_set, List.length_map, List.length_append] <;> omega) | fail)) only [Nat.reduceAdd, Nat.reduceSub, Nat.reduceMul, Nat.reduceLT, Nat.reduceLeDiff, Nat.reduceEqDiff, ↓reduceIte, reduceCtorEq, Int.reduceAdd, Int.reduceSub, Int.reduceMul, Int.reduceLT, Int.reduceLE, Int.reduceEq, Int.reduceNe, Int.reduceToNat, Int.reduceNeg, go_sem, g6]
    · simp (maxSteps := 1000000) (disch := (first | omega | (simp only [nx_alloc, nx_upd, len_cons, len_nil, List.length_set, List.length_map, List.length_append] <;> omega) | fail)) only [Nat.reduceAdd, Nat.reduceSub, Nat.reduceMul, Nat.reduceLT, Nat.reduceLeDiff, Nat.reduceEqDiff, ↓reduceIte, reduceCtorEq, Int.reduceAdd, Int.reduceSub, Int.reduceMul, Int.reduceLT, Int.reduceLE, Int.reduceEq, Int.reduceNe, Int.reduceToNat, Int.reduceNeg, go_sem]
      rfl
  have e1 : ¬ ((i : Int) < m) := by omega
  subst hend
  have hld : loadC (some true) (some 4) (some (.cells [.int .u32 3, p, q, u] 31 (some 0))) 0 = some (.agg #[.int .u32 3, p, q, u]) := by rw [loadC_agg _ _ _ _ _ (by simp), List.drop_zero]; rfl
  have hc1 := cell_of (Row.sing j.rb)
  have hc2 := cell_of (Row.sing j.rn)
  have hc3 := cell_of (Row.sing j.rs)
  simp (maxSteps := 1000000) (disch := (first | omega | (simp only [nx_alloc, nx_upd, len_cons, len_nil, List.length_set, List.length_map, List.length_append] <;> omega) | fail)) only [Nat.reduceAdd, Nat.reduceSub, Nat.reduceMul, Nat.reduceLT, Nat.reduceLeDiff, Nat.reduceEqDiff, ↓reduceIte, reduceCtorEq, Int.reduceAdd, Int.reduceSub, Int.reduceMul, Int.reduceLT, Int.reduceLE, Int.reduceEq, Int.reduceNe, Int.reduceToNat, Int.reduceNeg, go_sem, g3, g5, g6, g9, hquo, jv, hld, hc1, hc2, hc3]
  have hb0 : ∀ X : St, abuildSlice Try.prog X 27 0 #[] = some (.slice (some ⟨X.next, 0, none⟩) 0 0, X.alloc (.cells [] 24 (some 0))) := fun X => buildSlice_zero Try.el27 Try.sz24 Try.zero24 (by decide)
  obtain ⟨p1, n1, z1⟩ := var_ver A' (.cells [.int .u32 3, p, q, u] 31 (some 0))
  have jA1 := j.ext p1
  change AW _ _ _ _ _ _ _ ((A'.alloc zeroVer).upd A'.next (some (.cells [.int .u32 3, p, q, u] 31 (some 0))))
  generalize (A'.alloc zeroVer).upd A'.next (some (.cells [.int .u32 3, p, q, u] 31 (some 0))) = A1 at *
  have y0 := jA1.res
  have y1 := jA1.vs
  unfold verB at y1
  have vB : HsView A1 (List.replicate i h) p := Row.view jA1.rb
  have hBl : (List.replicate i h).length = i := List.length_replicate
  refine AW.mono (Q := fun e a A9 => e = .normal ∧ ∃ ρ' v9, a = E 101 ρ' [] ∧ ρ' 5 = .pointer (some ⟨A.next + 1, 0, none⟩) ∧ ρ' 10 = .pointer (some ⟨A'.next, 0, none⟩) ∧ A1.next ≤ A9.next ∧ HsRow A9 A1.next (List.replicate i h ++ [h]) v9 ∧ A9.get A'.next = some (.cells [.int .u32 3, v9, q, u] 31 (some 0)) ∧ ∀ b, b < A1.next → b ≠ A'.next → A9.get b = A1.get b) ?_ ?_
  · refine aw_drawS (by kernel_rfl) ?_
    refine Ords.split 5 0 rfl ?_ ?_
    · -- [h], [], append, append
      have o1 := ((Over.refl A1).alloc (.cells (hsC h) 24 (some 0))).alloc (.cells [] 24 (some 0))
      have r0 : HsRow ((A1.alloc (.cells (hsC h) 24 (some 0))).alloc (.cells [] 24 (some 0))) A1.next [] (.slice (some ⟨A1.next + 1, 0, none⟩) 0 0) := hs_zero_row _ _ _ (get_alloc_same ..) (by simp only [nx_alloc]; omega) (by omega)
      obtain ⟨v3, E2, ha3, r3, n3, k3, l3⟩ := hs_app r0 (by simp only [nx_alloc]; omega) (View.over vB o1) (by rw [hBl]; simp only [List.length_nil]; omega)
      have hh : E2.get A1.next = some (.cells (hsC h) 24 (some 0)) := by
        rw [k3 _ (by simp only [nx_alloc]; omega) (by simp [rowB]), get_alloc_old (by simp only [nx_alloc]; omega), get_alloc_same]
      simp only [nx_alloc] at n3
      obtain ⟨v6, E4, ha6, r6, n6, k6, l6⟩ := hs_app r3 (by omega) (hs_one E2 A1.next h hh (by omega)) (by rw [List.nil_append, hBl]; simp only [List.length_cons, List.length_nil]; omega)
      have c6 := cell_of (Row.sing r6)
      have g4 : ∀ b, b < A1.next → E4.get b = A1.get b := fun b hb => by
        rw [l6 b hb, l3 b hb, get_alloc_old (by simp only [nx_alloc]; omega), get_alloc_old hb]
      have gz : E4.get A'.next = some (.cells [.int .u32 3, p, q, u] 31 (some 0)) := by rw [g4 _ (by omega)]; exact z1
      refine Ords.run [⟨true, [5, 4], [1]⟩, ⟨false, [], [0, 1, 2]⟩, ⟨false, [1], [0, 1, 2]⟩, ⟨true, [0, 2, 5, 1, 4], [2]⟩, ⟨false, [], [0]⟩, ⟨true, [4], [0]⟩, ⟨true, [3, 5, 0, 2, 4, 1], [3]⟩, ⟨false, [0, 1, 2, 3, 4, 5, 6], [4]⟩, ⟨true, [7, 6, 0, 1, 2, 3, 4, 5], [4]⟩] [A1, A1.alloc (.cells (hsC h) 24 (some 0)), (A1.alloc (.cells (hsC h) 24 (some 0))).alloc (.cells [] 24 (some 0)), E2, E4, E4.upd A'.next (some (.cells [.int .u32 3, v6, q, u] 31 (some 0)))] 5 (by kernel_rfl) (by kernel_rfl) rfl ?_
      simp (maxSteps := 1000000) (disch := (first | omega | (simp only [nx_alloc, nx_upd, len_cons, len_nil, List.length_set, List.length_map, List.length_append] <;> omega) | fail)) only [Nat.reduceAdd, Nat.reduceSub, Nat.reduceMul, Nat.reduceLT, Nat.reduceLeDiff, Nat.reduceEqDiff, ↓reduceIte, reduceCtorEq, Int.reduceAdd, Int.reduceSub, Int.reduceMul, Int.reduceLT, Int.reduceLE, Int.reduceEq, Int.reduceNe, Int.reduceToNat, Int.reduceNeg, go_sem, g3, g5, g6, y0, y1, loadHs, hset, hb0, ha3, ha6]
      rw [gz, storeC_val (Row.sing r6)]
      simp (maxSteps := 1000000) (disch := (first | omega | (simp only [nx_alloc, nx_upd, len_cons, len_nil, List.length_set, List.length_map, List.length_append] <;> omega) | fail)) only [Nat.reduceAdd, Nat.reduceSub, Nat.reduceMul, Nat.reduceLT, Nat.reduceLeDiff, Nat.reduceEqDiff, ↓reduceIte, reduceCtorEq, Int.reduceAdd, Int.reduceSub, Int.reduceMul, Int.reduceLT, Int.reduceLE, Int.reduceEq, Int.reduceNe, Int.reduceToNat, Int.reduceNeg, go_sem]
      refine ⟨_, v6, rfl, ?_, ?_, by omega, Row.keep r6 (Nat.le_refl _) (fun b hb y _ => by rw [St.get_upd, if_neg (by omega)]) (Nat.le_refl _), ?_, fun b hb hne => ?_⟩
      · simp (maxSteps := 1000000) (disch := (first | omega | (simp only [nx_alloc, nx_upd, len_cons, len_nil, List.length_set, List.length_map, List.length_append] <;> omega) | fail)) only [Nat.reduceAdd, Nat.reduceSub, Nat.reduceMul, Nat.reduceLT, Nat.reduceLeDiff, Nat.reduceEqDiff, ↓reduceIte, reduceCtorEq, Int.reduceAdd, Int.reduceSub, Int.reduceMul, Int.reduceLT, Int.reduceLE, Int.reduceEq, Int.reduceNe, Int.reduceToNat, Int.reduceNeg, go_sem, g5]
      · simp (maxSteps := 1000000) (disch := (first | omega | (simp only [nx_alloc, nx_upd, len_cons, len_nil, List.length_set, List.length_map, List.length_append] <;> omega) | fail)) only [Nat.reduceAdd, Nat.reduceSub, Nat.reduceMul, Nat.reduceLT, Nat.reduceLeDiff, Nat.reduceEqDiff, ↓reduceIte, reduceCtorEq, Int.reduceAdd, Int.reduceSub, Int.reduceMul, Int.reduceLT, Int.reduceLE, Int.reduceEq, Int.reduceNe, Int.reduceToNat, Int.reduceNeg, go_sem]
      · simp (disch := (first | omega | (simp only [nx_alloc, nx_upd, len_cons, len_nil, List.length_set, List.length_map, List.length_append] <;> omega) | fail)) only [St.get_upd, St.get_alloc, St.next_alloc, St.next_upd, ↓reduceIte, natF_lt, natF_gt, natF_ne, Nat.add_assoc, Nat.reduceAdd, Nat.reduceEqDiff, Nat.add_left_cancel_iff]
      · rw [St.get_upd, if_neg hne]; exact g4 b hb
    · refine Ords.split 5 3 rfl ?_ ?_
      · -- [], [h], append, append
        have o1 := ((Over.refl A1).alloc (.cells [] 24 (some 0))).alloc (.cells (hsC h) 24 (some 0))
        have r0 : HsRow ((A1.alloc (.cells [] 24 (some 0))).alloc (.cells (hsC h) 24 (some 0))) A1.next [] (.slice (some ⟨A1.next, 0, none⟩) 0 0) := hs_zero_row _ _ _ (by rw [get_alloc_old (by simp only [nx_alloc]; omega), get_alloc_same]) (by simp only [nx_alloc]; omega) (by omega)
        obtain ⟨v3, E2, ha3, r3, n3, k3, l3⟩ := hs_app r0 (by simp only [nx_alloc]; omega) (View.over vB o1) (by rw [hBl]; simp only [List.length_nil]; omega)
        have hh : E2.get (A1.next + 1) = some (.cells (hsC h) 24 (some 0)) := by
          rw [k3 _ (by simp only [nx_alloc]; omega) (by simp [rowB])]
          exact get_alloc_same ..
        simp only [nx_alloc] at n3
        obtain ⟨v6, E4, ha6, r6, n6, k6, l6⟩ := hs_app r3 (by omega) (hs_one E2 (A1.next + 1) h hh (by omega)) (by rw [List.nil_append, hBl]; simp only [List.length_cons, List.length_nil]; omega)
        have c6 := cell_of (Row.sing r6)
        have g4 : ∀ b, b < A1.next → E4.get b = A1.get b := fun b hb => by
          rw [l6 b hb, l3 b hb, get_alloc_old (by simp only [nx_alloc]; omega), get_alloc_old hb]
        have gz : E4.get A'.next = some (.cells [.int .u32 3, p, q, u] 31 (some 0)) := by rw [g4 _ (by omega)]; exact z1
        refine Ords.run [⟨true, [], [0]⟩, ⟨false, [], [0, 1, 2]⟩, ⟨false, [1], [0, 1, 2]⟩, ⟨true, [0, 2, 5, 1, 4], [2]⟩, ⟨false, [], [0, 1]⟩, ⟨true, [4, 0], [1]⟩, ⟨true, [3, 5, 0, 2, 4, 1], [3]⟩, ⟨false, [0, 1, 2, 3, 4, 5, 6], [4]⟩, ⟨true, [7, 6, 0, 1, 2, 3, 4, 5], [4]⟩] [A1, A1.alloc (.cells [] 24 (some 0)), (A1.alloc (.cells [] 24 (some 0))).alloc (.cells (hsC h) 24 (some 0)), E2, E4, E4.upd A'.next (some (.cells [.int .u32 3, v6, q, u] 31 (some 0)))] 5 (by kernel_rfl) (by kernel_rfl) rfl ?_
        simp (maxSteps := 1000000) (disch := (first | omega | (simp only [nx_alloc, nx_upd, len_cons, len_nil, List.length_set, List.length_map, List.length_append] <;> omega) | fail)) only [Nat.reduceAdd, Nat.reduceSub, Nat.reduceMul, Nat.reduceLT, Nat.reduceLeDiff, Nat.reduceEqDiff, ↓reduceIte, reduceCtorEq, Int.reduceAdd, Int.reduceSub, Int.reduceMul, Int.reduceLT, Int.reduceLE, Int.reduceEq, Int.reduceNe, Int.reduceToNat, Int.reduceNeg, go_sem, g3, g5, g6, y0, y1, loadHs, hset, hb0, ha3, ha6]
        rw [gz, storeC_val (Row.sing r6)]
        simp (maxSteps := 1000000) (disch := (first | omega | (simp only [nx_alloc, nx_upd, len_cons, len_nil, List.length_set, List.length_map, List.length_append] <;> omega) | fail)) only [Nat.reduceAdd, Nat.reduceSub, Nat.reduceMul, Nat.reduceLT, Nat.reduceLeDiff, Nat.reduceEqDiff, ↓reduceIte, reduceCtorEq, Int.reduceAdd, Int.reduceSub, Int.reduceMul, Int.reduceLT, Int.reduceLE, Int.reduceEq, Int.reduceNe, Int.reduceToNat, Int.reduceNeg, go_sem]
        refine ⟨_, v6, rfl, ?_, ?_, by omega, Row.keep r6 (Nat.le_refl _) (fun b hb y _ => by rw [St.get_upd, if_neg (by omega)]) (Nat.le_refl _), ?_, fun b hb hne => ?_⟩
        · simp (maxSteps := 1000000) (disch := (first | omega | (simp only [nx_alloc, nx_upd, len_cons, len_nil, List.length_set, List.length_map, List.length_append] <;> omega) | fail)) only [Nat.reduceAdd, Nat.reduceSub, Nat.reduceMul, Nat.reduceLT, Nat.reduceLeDiff, Nat.reduceEqDiff, ↓reduceIte, reduceCtorEq, Int.reduceAdd, Int.reduceSub, Int.reduceMul, Int.reduceLT, Int.reduceLE, Int.reduceEq, Int.reduceNe, Int.reduceToNat, Int.reduceNeg, go_sem, g5]
        · simp (maxSteps := 1000000) (disch := (first | omega | (simp only [nx_alloc, nx_upd, len_cons, len_nil, List.length_set, List.length_map, List.length_append] <;> omega) | fail)) only [Nat.reduceAdd, Nat.reduceSub, Nat.reduceMul, Nat.reduceLT, Nat.reduceLeDiff, Nat.reduceEqDiff, ↓reduceIte, reduceCtorEq, Int.reduceAdd, Int.reduceSub, Int.reduceMul, Int.reduceLT, Int.reduceLE, Int.reduceEq, Int.reduceNe, Int.reduceToNat, Int.reduceNeg, go_sem]
        · simp (disch := (first | omega | (simp only [nx_alloc, nx_upd, len_cons, len_nil, List.length_set, List.length_map, List.length_append] <;> omega) | fail)) only [St.get_upd, St.get_alloc, St.next_alloc, St.next_upd, ↓reduceIte, natF_lt, natF_gt, natF_ne, Nat.add_assoc, Nat.reduceAdd, Nat.reduceEqDiff, Nat.add_left_cancel_iff]
        · rw [St.get_upd, if_neg hne]; exact g4 b hb
      · -- [], append, [h], append
        have o1 := (Over.refl A1).alloc (.cells [] 24 (some 0))
        have r0 : HsRow (A1.alloc (.cells [] 24 (some 0))) A1.next [] (.slice (some ⟨A1.next, 0, none⟩) 0 0) := hs_zero_row _ _ _ (get_alloc_same ..) (by simp only [nx_alloc]; omega) (by omega)
        obtain ⟨v3, E2, ha3, r3, n3, k3, l3⟩ := hs_app r0 (by simp only [nx_alloc]; omega) (View.over vB o1) (by rw [hBl]; simp only [List.length_nil]; omega)
        simp only [nx_alloc] at n3
        obtain ⟨v6, E4, ha6, r6, n6, k6, l6⟩ := hs_app (r3.over ((Over.refl E2).alloc (.cells (hsC h) 24 (some 0)))) (by simp only [nx_alloc]; omega) (hs_one _ E2.next h (get_alloc_same ..) (by simp only [nx_alloc]; omega)) (by rw [List.nil_append, hBl]; simp only [List.length_cons, List.length_nil]; omega)
        simp only [nx_alloc] at n6
        have c6 := cell_of (Row.sing r6)
        have gE2 : ∀ b, b < A1.next → E2.get b = A1.get b := fun b hb => by rw [l3 b hb, get_alloc_old hb]
        have g4 : ∀ b, b < A1.next → E4.get b = A1.get b := fun b hb => by
          rw [l6 b hb, get_alloc_old (by omega), gE2 b hb]
        have gz : E4.get A'.next = some (.cells [.int .u32 3, p, q, u] 31 (some 0)) := by rw [g4 _ (by omega)]; exact z1
        have y0' : E2.get A.next = some (.cells (hsC h) 24 (some 0)) := by rw [gE2 _ (by omega)]; exact y0
        refine Ords.run [⟨true, [], [0]⟩, ⟨false, [], [0, 1]⟩, ⟨false, [1], [0, 1]⟩, ⟨true, [0, 2, 1], [1]⟩, ⟨false, [], [0, 1, 2]⟩, ⟨true, [4, 0, 3, 2, 1], [2]⟩, ⟨true, [3, 5, 0, 2, 4, 1], [3]⟩, ⟨false, [0, 1, 2, 3, 4, 5, 6], [4]⟩, ⟨true, [7, 6, 0, 1, 2, 3, 4, 5], [4]⟩] [A1, A1.alloc (.cells [] 24 (some 0)), E2, E2.alloc (.cells (hsC h) 24 (some 0)), E4, E4.upd A'.next (some (.cells [.int .u32 3, v6, q, u] 31 (some 0)))] 5 (by kernel_rfl) (by kernel_rfl) rfl ?_
        simp (maxSteps := 1000000) (disch := (first | omega | (simp only [nx_alloc, nx_upd, len_cons, len_nil, List.length_set, List.length_map, List.length_append] <;> omega) | fail)) only [Nat.reduceAdd, Nat.reduceSub, Nat.reduceMul, Nat.reduceLT, Nat.reduceLeDiff, Nat.reduceEqDiff, ↓reduceIte, reduceCtorEq, Int.reduceAdd, Int.reduceSub, Int.reduceMul, Int.reduceLT, Int.reduceLE, Int.reduceEq, Int.reduceNe, Int.reduceToNat, Int.reduceNeg, go_sem, g3, g5, g6, y0, y1, loadHs, hset, hb0, ha3, ha6, y0']
        rw [gz, storeC_val (Row.sing r6)]
        simp (maxSteps := 1000000) (disch := (first | omega | (simp only [nx_alloc, nx_upd, len_cons, len_nil, List.length_set, List.length_map, List.length_append] <;> omega) | fail)) only [Nat.reduceAdd, Nat.reduceSub, Nat.reduceMul, Nat.reduceLT, Nat.reduceLeDiff, Nat.reduceEqDiff, ↓reduceIte, reduceCtorEq, Int.reduceAdd, Int.reduceSub, Int.reduceMul, Int.reduceLT, Int.reduceLE, Int.reduceEq, Int.reduceNe, Int.reduceToNat, Int.reduceNeg, go_sem]
        refine ⟨_, v6, rfl, ?_, ?_, by omega, Row.keep r6 (Nat.le_refl _) (fun b hb y _ => by rw [St.get_upd, if_neg (by omega)]) (Nat.le_refl _), ?_, fun b hb hne => ?_⟩
        · simp (maxSteps := 1000000) (disch := (first | omega | (simp only [nx_alloc, nx_upd, len_cons, len_nil, List.length_set, List.length_map, List.length_append] <;> omega) | fail)) only [Nat.reduceAdd, Nat.reduceSub, Nat.reduceMul, Nat.reduceLT, Nat.reduceLeDiff, Nat.reduceEqDiff, ↓reduceIte, reduceCtorEq, Int.reduceAdd, Int.reduceSub, Int.reduceMul, Int.reduceLT, Int.reduceLE, Int.reduceEq, Int.reduceNe, Int.reduceToNat, Int.reduceNeg, go_sem, g5]
        · simp (maxSteps := 1000000) (disch := (first | omega | (simp only [nx_alloc, nx_upd, len_cons, len_nil, List.length_set, List.length_map, List.length_append] <;> omega) | fail)) only [Nat.reduceAdd, Nat.reduceSub, Nat.reduceMul, Nat.reduceLT, Nat.reduceLeDiff, Nat.reduceEqDiff, ↓reduceIte, reduceCtorEq, Int.reduceAdd, Int.reduceSub, Int.reduceMul, Int.reduceLT, Int.reduceLE, Int.reduceEq, Int.reduceNe, Int.reduceToNat, Int.reduceNeg, go_sem]
        · simp (disch := (first | omega | (simp only [nx_alloc, nx_upd, len_cons, len_nil, List.length_set, List.length_map, List.length_append] <;> omega) | fail)) only [St.get_upd, St.get_alloc, St.next_alloc, St.next_upd, ↓reduceIte, natF_lt, natF_gt, natF_ne, Nat.add_assoc, Nat.reduceAdd, Nat.reduceEqDiff, Nat.add_left_cancel_iff]
        · rw [St.get_upd, if_neg hne]; exact g4 b hb
  · rintro e a A9 ⟨rfl, ρ', v9, rfl, r5, r10, n9, hr9, hz9, hk9⟩
    have o9 : Over A' A9 := ⟨by omega, fun b hb => by rw [hk9 b (by omega) (by omega)]; exact p1.get b hb⟩
    have j9 := j.ext o9
    have jv9 := j9.vs
    unfold verB at jv9
    have vB9 : HsView A9 (List.replicate i h) p := Row.view j9.rb
    have hlenB := View.lenU (e := 24) vB9
    rw [hBl] at hlenB
    simp (maxSteps := 1000000) (disch := (first | omega | (simp only [nx_alloc, nx_upd, len_cons, len_nil, List.length_set, List.length_map, List.length_append] <;> omega) | fail)) only [Nat.reduceAdd, Nat.reduceSub, Nat.reduceMul, Nat.reduceLT, Nat.reduceLeDiff, Nat.reduceEqDiff, ↓reduceIte, reduceCtorEq, Int.reduceAdd, Int.reduceSub, Int.reduceMul, Int.reduceLT, Int.reduceLE, Int.reduceEq, Int.reduceNe, Int.reduceToNat, Int.reduceNeg, go_sem, r5, r10, jv9, hlenB]
    have hc9 := cell_of (Row.sing hr9)
    have hld9 : loadC (some true) (some 4) (some (.cells [.int .u32 3, v9, q, u] 31 (some 0))) 0 = some (.agg #[.int .u32 3, v9, q, u]) := by rw [loadC_agg _ _ _ _ _ (by simp), List.drop_zero]; rfl
    have ver1 : VerV A9 ⟨3, List.replicate i h, nmL l.length, szM l⟩ (.agg #[.int .u32 3, p, q, u]) := j9.ver
    have ver2 : VerV A9 ⟨3, List.replicate i h ++ [h], nmL l.length, szM l⟩ (.agg #[.int .u32 3, v9, q, u]) := ⟨v9, q, u, rfl, Row.view hr9, Row.view j9.rn, Row.view j9.rs⟩
    have sm1 : VerT.small ⟨3, List.replicate i h, nmL l.length, szM l⟩ := ⟨by simp only [List.length_replicate]; omega, by simp only [nmL_len]; omega, by simp only [szM_len]; omega⟩
    have sm2 : VerT.small ⟨3, List.replicate i h ++ [h], nmL l.length, szM l⟩ := ⟨by simp only [List.length_replicate, List.length_append, List.length_cons, List.length_nil]; omega, by simp only [nmL_len]; omega, by simp only [szM_len]; omega⟩
    have mb1 : mayB ⟨3, List.replicate i h, nmL l.length, szM l⟩ = true := by rw [may_blocks _ _ (by omega), hm, List.length_replicate]; simp
    have mb2 : mayB ⟨3, List.replicate i h ++ [h], nmL l.length, szM l⟩ = false := by rw [may_blocks _ _ (by omega), hm]; simp
    have hsv : InView A9 (szM l) u := Row.view j9.rs
    have hoA9 : Over A A9 := j.over.trans o9
    by_cases hi0 : i = 0
    · have e2 : ¬ ((i : Int) > 0) := by omega
      have may1 := may_ok w0 A9 _ _ ver1 sm1
      have may2 := may_ok w0 A9 _ _ ver2 sm2
      have bl1 := blocks_ok w0 A9 (szM l) u hsv (by omega)
      rw [mb1] at may1
      rw [mb2] at may2
      rw [hm] at bl1
      simp (maxSteps := 1000000) (disch := (first | omega | (simp only [nx_alloc, nx_upd, len_cons, len_nil, List.length_set, List.length_map, List.length_append] <;> omega) | fail)) only [Nat.reduceAdd, Nat.reduceSub, Nat.reduceMul, Nat.reduceLT, Nat.reduceLeDiff, Nat.reduceEqDiff, ↓reduceIte, reduceCtorEq, Int.reduceAdd, Int.reduceSub, Int.reduceMul, Int.reduceLT, Int.reduceLE, Int.reduceEq, Int.reduceNe, Int.reduceToNat, Int.reduceNeg, go_sem]
      refine aw_draw2 [⟨false, [], [0]⟩, ⟨false, [0], [0]⟩, ⟨false, [0, 1], [0]⟩, ⟨false, [0, 1, 2], [0]⟩, ⟨false, [0, 1, 2, 3], [0]⟩, ⟨false, [0, 1, 2, 3, 4], [0]⟩, ⟨false, [0, 1, 2, 3, 4, 5], [0]⟩, ⟨false, [0, 1, 2, 3, 4, 5, 6], [0]⟩, ⟨false, [0, 1, 2, 3, 4, 5, 6, 7], [0]⟩, ⟨false, [0, 1, 2, 3, 4, 5, 6, 7, 8], [0]⟩, ⟨false, [0, 1, 2, 3, 4, 5, 6, 7, 8, 9], [0]⟩, ⟨false, [0, 1, 2, 3, 4, 5, 6, 7], [0]⟩, ⟨false, [0, 1, 2, 3, 4, 5, 6, 7, 11], [0]⟩, ⟨false, [0, 1, 2, 3, 4, 5, 6, 7, 11, 12], [0]⟩, ⟨false, [0, 1, 2, 3, 4, 5, 6, 7, 8, 9, 10, 11, 12, 13], [0]⟩, ⟨false, [0, 1, 2, 3, 4, 5, 6, 7, 8, 9, 10, 11, 12, 13, 14], [0]⟩, ⟨false, [0, 1, 2, 3, 4, 5, 6, 7, 8, 9, 10, 11, 12, 13, 14, 15], [0]⟩] [A9] 0 (by kernel_rfl) (by kernel_rfl) rfl ?_
      simp (maxSteps := 1000000) (disch := (first | omega | (simp only [nx_alloc, nx_upd, len_cons, len_nil, List.length_set, List.length_map, List.length_append] <;> omega) | fail)) only [Nat.reduceAdd, Nat.reduceSub, Nat.reduceMul, Nat.reduceLT, Nat.reduceLeDiff, Nat.reduceEqDiff, ↓reduceIte, reduceCtorEq, Int.reduceAdd, Int.reduceSub, Int.reduceMul, Int.reduceLT, Int.reduceLE, Int.reduceEq, Int.reduceNe, Int.reduceToNat, Int.reduceNeg, go_sem, r5, r10, jv9, hz9, hld, hld9]
      refine ⟨_, may1, ?_⟩
      simp (maxSteps := 1000000) (disch := (first | omega | (simp only [nx_alloc, nx_upd, len_cons, len_nil, List.length_set, List.length_map, List.length_append] <;> omega) | fail)) only [Nat.reduceAdd, Nat.reduceSub, Nat.reduceMul, Nat.reduceLT, Nat.reduceLeDiff, Nat.reduceEqDiff, ↓reduceIte, reduceCtorEq, Int.reduceAdd, Int.reduceSub, Int.reduceMul, Int.reduceLT, Int.reduceLE, Int.reduceEq, Int.reduceNe, Int.reduceToNat, Int.reduceNeg, go_sem, r5, r10, jv9, hz9, hld, hld9]
      refine ⟨_, may2, ?_⟩
      simp (maxSteps := 1000000) (disch := (first | omega | (simp only [nx_alloc, nx_upd, len_cons, len_nil, List.length_set, List.length_map, List.length_append] <;> omega) | fail)) only [Nat.reduceAdd, Nat.reduceSub, Nat.reduceMul, Nat.reduceLT, Nat.reduceLeDiff, Nat.reduceEqDiff, ↓reduceIte, reduceCtorEq, Int.reduceAdd, Int.reduceSub, Int.reduceMul, Int.reduceLT, Int.reduceLE, Int.reduceEq, Int.reduceNe, Int.reduceToNat, Int.reduceNeg, go_sem, r5, r10, jv9, hz9, hld, hld9]
      refine ⟨_, bl1, ?_⟩
      simp (maxSteps := 1000000) (disch := (first | omega | (simp only [nx_alloc, nx_upd, len_cons, len_nil, List.length_set, List.length_map, List.length_append] <;> omega) | fail)) only [Nat.reduceAdd, Nat.reduceSub, Nat.reduceMul, Nat.reduceLT, Nat.reduceLeDiff, Nat.reduceEqDiff, ↓reduceIte, reduceCtorEq, Int.reduceAdd, Int.reduceSub, Int.reduceMul, Int.reduceLT, Int.reduceLE, Int.reduceEq, Int.reduceNe, Int.reduceToNat, Int.reduceNeg, go_sem, r5, r10, jv9, hz9, hld, hld9, hlenB, Try.results3]
      exact gc_fin' hw hoA9 rfl (.bool _)
    have e2 : ((i : Int) > 0) := by omega
    obtain ⟨v11, hsuf, vw11, sl11, _⟩ := View.suf (P := Try.prog) (k := 1) (e := 24) (ik := .i64) vB9 (Row.sl j9.rb) Try.sz24 (by decide) (by rw [hBl]; omega)
    have hc11 : one1 v11 = true := by obtain ⟨_, _, _, rfl, _⟩ := sl11; rfl
    have hc11' := cell_of hc11
    simp (maxSteps := 1000000) (disch := (first | omega | (simp only [nx_alloc, nx_upd, len_cons, len_nil, List.length_set, List.length_map, List.length_append] <;> omega) | fail)) only [Nat.reduceAdd, Nat.reduceSub, Nat.reduceMul, Nat.reduceLT, Nat.reduceLeDiff, Nat.reduceEqDiff, ↓reduceIte, reduceCtorEq, Int.reduceAdd, Int.reduceSub, Int.reduceMul, Int.reduceLT, Int.reduceLE, Int.reduceEq, Int.reduceNe, Int.reduceToNat, Int.reduceNeg, go_sem, r5, jv9, hld, hc1, hc2, hc3]
    have hsuf' : sliceU (some (TypeDesc.slice 24)) (tsz Try.prog) p (some (.int .i64 1)) none none = some v11 := hsuf
    rw [hsuf']
    obtain ⟨p4, n4, z4⟩ := var_ver A9 (.cells [.int .u32 3, v11, q, u] 31 (some 0))
    simp (maxSteps := 1000000) (disch := (first | omega | (simp only [nx_alloc, nx_upd, len_cons, len_nil, List.length_set, List.length_map, List.length_append] <;> omega) | fail)) only [Nat.reduceAdd, Nat.reduceSub, Nat.reduceMul, Nat.reduceLT, Nat.reduceLeDiff, Nat.reduceEqDiff, ↓reduceIte, reduceCtorEq, Int.reduceAdd, Int.reduceSub, Int.reduceMul, Int.reduceLT, Int.reduceLE, Int.reduceEq, Int.reduceNe, Int.reduceToNat, Int.reduceNeg, go_sem, hc2, hc3]
    rw [storeC_val hc11]
    simp (maxSteps := 1000000) (disch := (first | omega | (simp only [nx_alloc, nx_upd, len_cons, len_nil, List.length_set, List.length_map, List.length_append] <;> omega) | fail)) only [Nat.reduceAdd, Nat.reduceSub, Nat.reduceMul, Nat.reduceLT, Nat.reduceLeDiff, Nat.reduceEqDiff, ↓reduceIte, reduceCtorEq, Int.reduceAdd, Int.reduceSub, Int.reduceMul, Int.reduceLT, Int.reduceLE, Int.reduceEq, Int.reduceNe, Int.reduceToNat, Int.reduceNeg, go_sem]
    have o10 := p4
    unfold zeroVer at o10
    have o10 : Over A9 (((A9.alloc (.cells [.int .u32 0, .slice none 0 0, .slice none 0 0, .slice none 0 0] 31 (some 0))).upd A9.next (some (.cells [.int .u32 3, p, q, u] 31 (some 0)))).upd A9.next (some (.cells [.int .u32 3, v11, q, u] 31 (some 0)))) := (((Over.refl A9).alloc _).upd (Nat.le_refl _) _).upd (Nat.le_refl _) _
    generalize (((A9.alloc (.cells [.int .u32 0, .slice none 0 0, .slice none 0 0, .slice none 0 0] 31 (some 0))).upd A9.next (some (.cells [.int .u32 3, p, q, u] 31 (some 0)))).upd A9.next (some (.cells [.int .u32 3, v11, q, u] 31 (some 0)))) = A10 at *
    obtain ⟨i, rfl⟩ : ∃ j, i = j + 1 := ⟨i - 1, by omega⟩
    have hvB11 : HsView A9 (List.replicate i h) v11 := by
      unfold HsView
      rw [List.length_replicate]
      rw [List.replicate_succ, List.flatMap_cons, List.drop_left' (by rw [hsC_len])] at vw11
      simpa using vw11
    have ver3 : VerV A10 ⟨3, List.replicate i h, nmL l.length, szM l⟩ (.agg #[.int .u32 3, v11, q, u]) := VerV.over (A := A9) ⟨v11, q, u, rfl, hvB11, Row.view j9.rn, Row.view j9.rs⟩ o10
    have sm3 : VerT.small ⟨3, List.replicate i h, nmL l.length, szM l⟩ := ⟨by simp only [List.length_replicate]; omega, by simp only [nmL_len]; omega, by simp only [szM_len]; omega⟩
    have mb3 : mayB ⟨3, List.replicate i h, nmL l.length, szM l⟩ = false := by rw [may_blocks _ _ (by omega), hm]; simp
    have may3 := may_ok w0 A10 _ _ ver3 sm3
    have may1 := may_ok w0 A10 _ _ (ver1.over o10) sm1
    have may2 := may_ok w0 A10 _ _ (ver2.over o10) sm2
    have bl1 := blocks_ok w0 A10 (szM l) u (View.over hsv o10) (by omega)
    rw [mb1] at may1
    rw [mb2] at may2
    rw [mb3] at may3
    rw [hm] at bl1
    rw [← o10.get _ (by omega)] at jv9 hz9
    have hlenB := View.lenU (e := 24) (View.over vB9 o10)
    rw [hBl] at hlenB
    have hoA10 := hoA9.trans o10
    refine call1 may3 ?_
    simp (maxSteps := 1000000) (disch := (first | omega | (simp only [nx_alloc, nx_upd, len_cons, len_nil, List.length_set, List.length_map, List.length_append] <;> omega) | fail)) only [Nat.reduceAdd, Nat.reduceSub, Nat.reduceMul, Nat.reduceLT, Nat.reduceLeDiff, Nat.reduceEqDiff, ↓reduceIte, reduceCtorEq, Int.reduceAdd, Int.reduceSub, Int.reduceMul, Int.reduceLT, Int.reduceLE, Int.reduceEq, Int.reduceNe, Int.reduceToNat, Int.reduceNeg, go_sem]
    refine aw_draw2 [⟨false, [], [0]⟩, ⟨false, [0], [0]⟩, ⟨false, [0, 1], [0]⟩, ⟨false, [0, 1, 2], [0]⟩, ⟨false, [0, 1, 2, 3], [0]⟩, ⟨false, [0, 1, 2, 3, 4], [0]⟩, ⟨false, [0, 1, 2, 3, 4, 5], [0]⟩, ⟨false, [0, 1, 2, 3, 4, 5, 6], [0]⟩, ⟨false, [0, 1, 2, 3, 4, 5, 6, 7], [0]⟩, ⟨false, [0, 1, 2, 3, 4, 5, 6, 7, 8], [0]⟩, ⟨false, [0, 1, 2, 3, 4, 5, 6, 7, 8, 9], [0]⟩, ⟨false, [0, 1, 2, 3, 4, 5, 6, 7], [0]⟩, ⟨false, [0, 1, 2, 3, 4, 5, 6, 7, 11], [0]⟩, ⟨false, [0, 1, 2, 3, 4, 5, 6, 7, 11, 12], [0]⟩, ⟨false, [0, 1, 2, 3, 4, 5, 6, 7, 8, 9, 10, 11, 12, 13], [0]⟩, ⟨false, [0, 1, 2, 3, 4, 5, 6, 7, 8, 9, 10, 11, 12, 13, 14], [0]⟩, ⟨false, [0, 1, 2, 3, 4, 5, 6, 7, 8, 9, 10, 11, 12, 13, 14, 15], [0]⟩] [A10] 0 (by kernel_rfl) (by kernel_rfl) rfl ?_
    simp (maxSteps := 1000000) (disch := (first | omega | (simp only [nx_alloc, nx_upd, len_cons, len_nil, List.length_set, List.length_map, List.length_append] <;> omega) | fail)) only [Nat.reduceAdd, Nat.reduceSub, Nat.reduceMul, Nat.reduceLT, Nat.reduceLeDiff, Nat.reduceEqDiff, ↓reduceIte, reduceCtorEq, Int.reduceAdd, Int.reduceSub, Int.reduceMul, Int.reduceLT, Int.reduceLE, Int.reduceEq, Int.reduceNe, Int.reduceToNat, Int.reduceNeg, go_sem, r5, r10, jv9, hz9, hld, hld9]
    refine ⟨_, may1, ?_⟩
    simp (maxSteps := 1000000) (disch := (first | omega | (simp only [nx_alloc, nx_upd, len_cons, len_nil, List.length_set, List.length_map, List.length_append] <;> omega) | fail)) only [Nat.reduceAdd, Nat.reduceSub, Nat.reduceMul, Nat.reduceLT, Nat.reduceLeDiff, Nat.reduceEqDiff, ↓reduceIte, reduceCtorEq, Int.reduceAdd, Int.reduceSub, Int.reduceMul, Int.reduceLT, Int.reduceLE, Int.reduceEq, Int.reduceNe, Int.reduceToNat, Int.reduceNeg, go_sem, r5, r10, jv9, hz9, hld, hld9]
    refine ⟨_, may2, ?_⟩
    simp (maxSteps := 1000000) (disch := (first | omega | (simp only [nx_alloc, nx_upd, len_cons, len_nil, List.length_set, List.length_map, List.length_append] <;> omega) | fail)) only [Nat.reduceAdd, Nat.reduceSub, Nat.reduceMul, Nat.reduceLT, Nat.reduceLeDiff, Nat.reduceEqDiff, ↓reduceIte, reduceCtorEq, Int.reduceAdd, Int.reduceSub, Int.reduceMul, Int.reduceLT, Int.reduceLE, Int.reduceEq, Int.reduceNe, Int.reduceToNat, Int.reduceNeg, go_sem, r5, r10, jv9, hz9, hld, hld9]
    refine ⟨_, bl1, ?_⟩
    simp (maxSteps := 1000000) (disch := (first | omega | (simp only [nx_alloc, nx_upd, len_cons, len_nil, List.length_set, List.length_map, List.length_append] <;> omega) | fail)) only [Nat.reduceAdd, Nat.reduceSub, Nat.reduceMul, Nat.reduceLT, Nat.reduceLeDiff, Nat.reduceEqDiff, ↓reduceIte, reduceCtorEq, Int.reduceAdd, Int.reduceSub, Int.reduceMul, Int.reduceLT, Int.reduceLE, Int.reduceEq, Int.reduceNe, Int.reduceToNat, Int.reduceNeg, go_sem, r5, r10, jv9, hz9, hld, hld9, hlenB, Try.results3]
    exact gc_fin' hw hoA10 rfl (.bool _)
end Go.Fw
