import Derived.Test.YtlpdpdaieeaajaaFwHeader8
set_option linter.unusedSimpArgs false
set_option linter.unusedVariables false
namespace Go.Fw
open Go.Proofs Go.RowKit
attribute [local go_sem] List.length_cons List.length_nil Nat.zero_add Nat.add_zero Nat.zero_mul Nat.mul_one Int.toNat_zero Int.toNat_natCast List.map_cons List.map_nil List.map_toArray List.toList_toArray List.append_toArray List.append_eq List.nil_append List.cons_append List.append_nil List.all_toArray List.all_cons List.all_nil Bool.and_true Bool.true_and Bool.and_self List.getElem?_toArray List.getElem?_cons_zero List.getElem?_cons_succ List.set_cons_zero List.set_cons_succ List.drop_zero List.drop_succ_cons List.take_zero List.take_succ_cons Option.bind_some Option.map_some id true_and and_true and_self St.next_alloc St.next_upd beq_self_eq_true Bool.not_true Bool.not_false Bool.false_eq_true false_implies true_implies Option.isNone_none Option.isNone_some Option.isSome_none Option.isSome_some ge_iff_le gt_iff_lt Nat.sub_zero Nat.add_assoc IntWalk.i64_in IntWalk.u64_in IntWalk.u8_in IntWalk.u32_in IntWalk.i32_in IntWalk.u16_in dec_not Bool.not_eq_true decide_true decide_false ne_eq not_true_eq_false not_false_eq_true Bool.true_or Bool.or_true Bool.or_false Bool.false_or Bool.and_false Bool.false_and upd_apply rd_eq ar_zero ar_succ ar_nil tm_size tm_getD tm_set E_tmps E_defers put_E put_none eval_tmp eval_const eval_func setArgs_0 setArgs_1 setArgs_2 append_lit stepV_some stepA_some guardO_true ifB_true ifB_false wantV_true wantV_false wantV_dec_t wantV_dec_f ifB_dec_t ifB_dec_f condV_bool dec_and dec_or isB_bool someB_t someB_f okO_tmp okO_func okO_int okO_bool okO_string okO_ptr0 okO_slice0 okO_nilFunc okO_nilIface okO_map0 okO_agg wanted_none wanted_some lookT_some aopsL_nil aopsL_cons wpA_skip wpA_label wpA_exit wpA_goto wpA_ret wpA_seq wpA_block wpA_region wpA_cond wpA_loop wpA_rangeFunc wpA_draw thenQ_normal thenQ_exit thenQ_ret thenQ_panic blockQ_normal blockQ_ret blockQ_panic blockQ_exit funQ_ret funQ_normal funQ_panic op_move op_assign pickV_or pickV_and pickV_t pickV_f pickV_true pickV_false op_pick allocV_some op_alloc op_box op_load op_nilCheck op_bin op_lookup bptr btype op_un op_convert op_makeInterface op_makeSlice op_fieldAddr op_field op_indexAddr op_index op_extract op_typeAssert storeV_some op_store op_makeMap op_mapUpdate op_slice00 op_slice10 op_slice01 op_slice11 op_slice111 op_slice011 op_makeFunc callV_true op_call op_builtin panicV_iface op_panic ACallV_func ACallF_false ACallF_true ACallV_yield afterCall_returned afterCall_panicked bin_add bin_sub bin_mul bin_and bin_or bin_xor bin_andNot bin_eql bin_neq bin_lss bin_leq bin_gtr bin_geq mval_some mval_none lookup_map lookU_map lookK_smap mapSet_map msetU_map msetK_int conv_to conv_from unsT_cells unsF_cells bin_same bin_nil bdata_nil bdata_some builtin_data builtin_str bin_quo bin_rem bin_shl bin_shr bin_sadd bin_seql bin_sneq bin_slss uB_bool bin_beql bin_bneq uP_pointer bin_peql bin_pneq uS_slice bin_leql bin_lneq bin_ieql bin_ineq un_neg un_xor un_not nilCheck_ptr nilCheck_func nilCheck_yield load_ptr loadC_one loadC_agg store_ptr slice_eq sliceU_string sliceU_slice sliceU_array sliceS_eq boundsS_some sliceL_eq boundsL_nil boundsL_exact boundsL_least boundsL_own boundsL_ownN bounds_11 bounds_10 bounds_01 bounds_00 builtin_len len_string len_array len_slice builtin_append builtin_copy pairA_some builtin_min builtin_max min_two max_two index_eq index_string index_array indexAddr_eq indexAddr_array indexAddr_slice fieldAddr_eq posO_some fAddr_some fieldAddr_struct partC_some field_eq field_struct part_eq partU_one partU_agg extract_tuple conv_eq conv_int conv_string u8O_u8 conv_bytes conv_text_nil conv_text_zero conv_text mkIface_eq get_upd_same consO_some finR_0 finR_1 finR_2 aresL_nil aresL_cons ares1_tmp ares1_cell retV_some aleave_nil aleave_coll bnd_int bnd_bool bnd_string bnd_nilIface bnd_slice0 bnd_iface bnd_slice bnd_ptr bnd_ptr0 bndL_nil bndL_cons bndA_lit bnd_tuple bnd_agg calm_same skipC_eq aopsC_nil aopsC_cons stepC_call stepC_move stepC_assign stepC_pick stepC_alloc stepC_box stepC_build stepC_buildSlice stepC_load stepC_store stepC_nilCheck stepC_binOp stepC_unOp stepC_convert stepC_makeInterface stepC_makeFunc stepC_makeSlice stepC_slice stepC_fieldAddr stepC_field stepC_indexAddr stepC_index stepC_extract stepC_typeAssert stepC_lookup stepC_mapUpdate stepC_makeMap stepC_builtin to_same sameA_eq aopsX_nil aopsX_cons stepX_heavy stepX_light lightK_eq allC_nil allC_cons hs_zero hs_succ stepT_call pure_call stepT_move pure_move stepT_assign pure_assign stepT_pick pure_pick stepT_alloc pure_alloc stepT_box pure_box stepT_build pure_build stepT_buildSlice pure_buildSlice stepT_load pure_load stepT_store pure_store stepT_nilCheck pure_nilCheck stepT_binOp pure_binOp stepT_unOp pure_unOp stepT_convert pure_convert stepT_makeInterface pure_makeInterface stepT_makeFunc pure_makeFunc stepT_makeSlice pure_makeSlice stepT_slice pure_slice stepT_fieldAddr pure_fieldAddr stepT_field pure_field stepT_indexAddr pure_indexAddr stepT_index pure_index stepT_extract pure_extract stepT_typeAssert pure_typeAssert stepT_lookup pure_lookup stepT_mapUpdate pure_mapUpdate stepT_makeMap pure_makeMap stepT_builtin pure_b_len pure_b_append pure_b_copy pure_b_min pure_b_max pure_b_unsafeSliceData pure_b_unsafeString leaveK_eq aleave_fn op_defer deferV_func resK_some defQ_ret defQ_normal storeC_int storeC_bool storeC_string storeC_slice storeC_func storeC_pointer len_cons len_nil cells_int cells_bool cells_string cells_slice cells_pointer cells_func cells_map cells_nilFunc cells_agg cell1_bool cell1_string cell1_slice cell1_pointer cell1_func cell1_i cell1_map cell1_nilFunc setList_nil setList_cons storeC_aggS fillP_nil fillP_cons fillAt_1 fillAt_n aggO_some sliceO_some places_0 places_s zerosR_0 zerosR_s thenElse_true evP_nil evP_cons okP_nil okP_cons op_buildL op_buildSliceL isBu_t isBu_f mk_E get_alloc_old get_alloc_new get_upd_old Try.agg1 Try.sz1 Try.byt1 Try.zero1 Try.agg2 Try.sz2 Try.byt2 Try.zero2 Try.agg3 Try.sz3 Try.byt3 Try.zero3 Try.agg4 Try.sz4 Try.byt4 Try.zero4 Try.agg5 Try.sz5 Try.byt5 Try.zero5 Try.agg6 Try.sz6 Try.byt6 Try.zero6 Try.agg7 Try.sz7 Try.byt7 Try.zero7 Try.agg8 Try.sz8 Try.byt8 Try.zero8 Try.agg9 Try.sz9 Try.byt9 Try.zero9 Try.agg10 Try.sz10 Try.byt10 Try.zero10 Try.agg11 Try.sz11 Try.byt11 Try.zero11 Try.agg12 Try.sz12 Try.byt12 Try.zero12 Try.agg13 Try.sz13 Try.byt13 Try.zero13 Try.agg14 Try.sz14 Try.byt14 Try.zero14 Try.agg15 Try.sz15 Try.byt15 Try.zero15 Try.agg16 Try.sz16 Try.byt16 Try.zero16 Try.agg17 Try.sz17 Try.byt17 Try.zero17 Try.agg18 Try.sz18 Try.byt18 Try.zero18 Try.agg19 Try.sz19 Try.byt19 Try.zero19 Try.agg20 Try.sz20 Try.byt20 Try.zero20 Try.agg21 Try.sz21 Try.byt21 Try.zero21 Try.agg22 Try.sz22 Try.byt22 Try.el22 Try.zero22 Try.agg23 Try.sz23 Try.byt23 Try.zero23 Try.agg24 Try.sz24 Try.byt24 Try.zero24 Try.agg25 Try.sz25 Try.byt25 Try.zero25 Try.agg26 Try.sz26 Try.byt26 Try.zero26 Try.agg27 Try.sz27 Try.byt27 Try.el27 Try.zero27 Try.agg28 Try.sz28 Try.byt28 Try.el28 Try.zero28 Try.agg29 Try.sz29 Try.byt29 Try.el29 Try.zero29 Try.agg30 Try.sz30 Try.byt30 Try.zero30 Try.agg31 Try.sz31 Try.byt31 Try.zero31 Try.agg32 Try.sz32 Try.byt32 Try.zero32 Try.agg33 Try.sz33 Try.byt33 Try.el33 Try.zero33 Try.agg34 Try.sz34 Try.byt34 Try.zero34 Try.agg35 Try.sz35 Try.byt35 Try.zero35 Try.agg36 Try.sz36 Try.byt36 Try.zero36 Try.agg37 Try.sz37 Try.byt37 Try.zero37 Try.agg39 Try.sz39 Try.byt39 Try.zero39 Try.agg40 Try.sz40 Try.byt40 Try.zero40 Try.agg42 Try.sz42 Try.byt42 Try.zero42 Try.agg44 Try.sz44 Try.byt44 Try.zero44 Try.agg45 Try.sz45 Try.byt45 Try.zero45 Try.agg46 Try.sz46 Try.byt46 Try.zero46 Try.agg47 Try.sz47 Try.byt47 Try.el47 Try.zero47 Try.agg48 Try.sz48 Try.byt48 Try.zero48 Try.agg49 Try.sz49 Try.byt49 Try.zero49 Try.agg50 Try.sz50 Try.byt50 Try.zero50 Try.agg51 Try.sz51 Try.byt51 Try.zero51 Try.agg52 Try.sz52 Try.byt52 Try.zero52 Try.agg53 Try.sz53 Try.byt53 Try.zero53 Try.agg54 Try.sz54 Try.byt54 Try.zero54 Try.agg55 Try.sz55 Try.byt55 Try.zero55 Try.agg56 Try.sz56 Try.byt56 Try.zero56 Try.agg57 Try.sz57 Try.byt57 Try.zero57 Try.agg58 Try.sz58 Try.byt58 Try.zero58 Try.agg59 Try.sz59 Try.byt59 Try.zero59 Try.agg60 Try.sz60 Try.byt60 Try.zero60 Try.agg61 Try.sz61 Try.byt61 Try.zero61 Try.agg62 Try.sz62 Try.byt62 Try.zero62 Try.agg63 Try.sz63 Try.byt63 Try.zero63 Try.agg64 Try.sz64 Try.byt64 Try.zero64 Try.agg65 Try.sz65 Try.byt65 Try.zero65 Try.agg66 Try.sz66 Try.byt66 Try.zero66 Try.agg67 Try.sz67 Try.byt67 Try.zero67 Try.agg69 Try.sz69 Try.byt69 Try.zero69 Try.agg70 Try.sz70 Try.byt70 Try.zero70 Try.agg72 Try.sz72 Try.byt72 Try.zero72 Try.agg74 Try.sz74 Try.byt74 Try.zero74 Try.agg75 Try.sz75 Try.byt75 Try.zero75 Try.agg76 Try.sz76 Try.byt76 Try.zero76 Try.agg77 Try.sz77 Try.byt77 Try.zero77 Try.agg78 Try.sz78 Try.byt78 Try.zero78 Try.agg79 Try.sz79 Try.byt79 Try.zero79 Try.agg80 Try.sz80 Try.byt80 Try.zero80 Try.agg81 Try.sz81 Try.byt81 Try.zero81 Try.agg82 Try.sz82 Try.byt82 Try.zero82 Try.agg83 Try.sz83 Try.byt83 Try.zero83 Try.agg84 Try.sz84 Try.byt84 Try.zero84 Try.agg85 Try.sz85 Try.byt85 Try.zero85 Try.agg86 Try.sz86 Try.byt86 Try.zero86 Try.agg88 Try.sz88 Try.byt88 Try.zero88 Try.agg89 Try.sz89 Try.byt89 Try.zero89 Try.agg90 Try.sz90 Try.byt90 Try.zero90 Try.agg91 Try.sz91 Try.byt91 Try.zero91 Try.agg92 Try.sz92 Try.byt92 Try.zero92 Try.agg93 Try.sz93 Try.byt93 Try.zero93 Try.agg94 Try.sz94 Try.byt94 Try.zero94 Try.agg95 Try.sz95 Try.byt95 Try.zero95 Try.agg96 Try.sz96 Try.byt96 Try.zero96 Try.agg97 Try.sz97 Try.byt97 Try.zero97 Try.agg98 Try.sz98 Try.byt98 Try.zero98 Try.agg99 Try.sz99 Try.byt99 Try.zero99 Try.agg100 Try.sz100 Try.byt100 Try.zero100 Try.agg101 Try.sz101 Try.byt101 Try.zero101 Try.agg102 Try.sz102 Try.byt102 Try.zero102 Try.body0 Try.body1 Try.body2 Try.body3 Try.body4 Try.body5 Try.body6 Try.body7 Try.body8 Try.body9 Try.body10 Try.body11 Try.body12 Try.body13 Try.body14 Try.body15 Try.body16 Try.body17 Try.body18 Try.body19 Try.body20 Try.body21 Try.body22 Try.body23 Try.body24 Try.body25 Try.body26 Try.body27 Try.body28 Try.body29 Try.body30 Try.body31 Try.body32 Try.body33 Try.body34 Try.body35 Try.body36 Try.body37 Try.body38 Try.body39 Try.body40 Try.body41 Try.body42 Try.body43 Try.body44 Try.body45 Try.body46 Try.body47 Try.body48 Try.body49 Try.body50 Try.body51 Try.body52 Try.body53 Try.body54 Try.body55 Try.body56 Try.body57 Try.body58 Try.body59 Try.body60 Try.body61 Try.body62 Try.body63 Try.body64 Try.body65 Try.body66 Try.body67 Try.body68 Try.body69 Try.body70 Try.body71 Try.body72 Try.build7 Try.build8 Try.build13 Try.build14 Try.build18 Try.build19 Try.bsl22 Try.bsl27 Try.bsl28 Try.bsl29 Try.build30 Try.build31 Try.bsl33 Try.bsl47 Try.build48 Try.build49 Try.build62 Try.build63 Try.build88 Try.build89 Try.build91 Try.build92 Try.build100 Try.build101 Try.underlying1 Try.underlying2 Try.underlying3 Try.underlying4 Try.underlying5 Try.underlying6 Try.underlying7 Try.underlying8 Try.underlying9 Try.underlying10 Try.underlying11 Try.underlying12 Try.underlying13 Try.underlying14 Try.underlying15 Try.underlying16 Try.underlying17 Try.underlying18 Try.underlying19 Try.underlying20 Try.underlying21 Try.underlying22 Try.underlying23 Try.underlying24 Try.underlying25 Try.underlying26 Try.underlying27 Try.underlying28 Try.underlying29 Try.underlying30 Try.underlying31 Try.underlying32 Try.underlying33 Try.underlying34 Try.underlying35 Try.underlying36 Try.underlying37 Try.underlying39 Try.underlying40 Try.underlying42 Try.underlying44 Try.underlying45 Try.underlying46 Try.underlying47 Try.underlying48 Try.underlying49 Try.underlying50 Try.underlying51 Try.underlying52 Try.underlying53 Try.underlying54 Try.underlying55 Try.underlying56 Try.underlying57 Try.underlying58 Try.underlying59 Try.underlying60 Try.underlying61 Try.underlying62 Try.underlying63 Try.underlying64 Try.underlying65 Try.underlying66 Try.underlying67 Try.underlying69 Try.underlying70 Try.underlying72 Try.underlying74 Try.underlying75 Try.underlying76 Try.underlying77 Try.underlying78 Try.underlying79 Try.underlying80 Try.underlying81 Try.underlying82 Try.underlying83 Try.underlying84 Try.underlying85 Try.underlying86 Try.underlying88 Try.underlying89 Try.underlying90 Try.underlying91 Try.underlying92 Try.underlying93 Try.underlying94 Try.underlying95 Try.underlying96 Try.underlying97 Try.underlying98 Try.underlying99 Try.underlying100 Try.underlying101 Try.underlying102
theorem Try.enters20 : Enters Try.prog 20 := enters_of Try.func20 rfl (by kernel_rfl)
def hashN : Nat → RS → List HashT → List HashT × RS
  | 0, s, acc => (acc, s)
  | k + 1, s, acc => hashN k (hashS s).2 (acc ++ [(hashS s).1])
def pairN : Nat → RS → List ByteArray → List Int → (List ByteArray × List Int) × RS
  | 0, s, a, b => ((a, b), s)
  | k + 1, s, a, b => pairN k (manyS 300 (textS s).2).2 (a ++ [strOfNums (textS s).1]) (b ++ [(manyS 300 (textS s).2).1])
def V0 : VerT := ⟨0, [], [], []⟩
/-- What is read, as the reader does it. -/
def readI (r : List Int) : Int × RS := idS (r, 0)
def readN (r : List Int) : Int × RS := manyS 16 (readI r).2
def readB (r : List Int) : List HashT × RS := hashN (readN r).1.toNat (readN r).2 []
def readK (r : List Int) : Int × RS := manyS 12 (readB r).2
def readP (r : List Int) : (List ByteArray × List Int) × RS := pairN (readK r).1.toNat (readK r).2 [] []
def readVer (r : List Int) : VerT := ⟨(readI r).1, (readB r).1, (readP r).1.1, (readP r).1.2⟩
def progR (r : List Int) : VerT × List Int × Int :=
  if (readP r).2.2 ≠ 0 then (V0, [], (readP r).2.2) else if mayB (readVer r) then (readVer r, (readP r).2.1, 0) else (V0, [], 1)
/-- A state's bytes are bytes, no more than those at first. -/
def RSok (n : Nat) (s : RS) : Prop := (∀ x ∈ s.1, Byte x) ∧ s.1.length ≤ n
theorem manyS_ok {n : Nat} {s : RS} (most : Int) (h0 : 0 ≤ most) (h : RSok n s) : RSok n (manyS most s).2 ∧ 0 ≤ (manyS most s).1 ∧ (manyS most s).1 ≤ most := by
  obtain ⟨h1, h2⟩ := h
  rcases hg : getL 10 0 0 s.1 with ⟨m, t, e⟩
  obtain ⟨g1, g2, g3, g4, _⟩ := getL_facts _ h1 m t e hg
  unfold manyS
  rw [hg]
  simp only
  split
  · exact ⟨⟨h1, h2⟩, Int.le_refl _, h0⟩
  · split
    · exact ⟨⟨g3, by simp only; omega⟩, Int.le_refl _, h0⟩
    · rename_i hb
      refine ⟨⟨g3, by simp only; omega⟩, ?_, ?_⟩
      · show 0 ≤ (if e = 0 then m else 0); split <;> omega
      · show (if e = 0 then m else 0) ≤ _; split <;> omega
theorem readL_ok {s : List Int} (h : ∀ x ∈ s, Byte x) : (∀ x ∈ (readL s).2.1, Byte x) ∧ (readL s).2.1.length ≤ s.length ∧ (∀ x ∈ (readL s).1, Byte x) ∧ (readL s).1.length ≤ s.length := by
  rcases hg : getL 10 0 0 s with ⟨m, t, e⟩
  obtain ⟨g1, g2, g3, g4, _⟩ := getL_facts _ h m t e hg
  unfold readL
  rw [hg]
  simp only
  split
  · exact ⟨fun x hx => (by cases hx), by simp, fun x hx => (by cases hx), by simp⟩
  · split
    · exact ⟨fun x hx => (by cases hx), by simp, fun x hx => (by cases hx), by simp⟩
    · exact ⟨fun x hx => g3 x (List.mem_of_mem_drop hx), by simp only [List.length_drop]; omega, fun x hx => g3 x (List.mem_of_mem_take hx), by simp only [List.length_take]; omega⟩
theorem textS_ok {n : Nat} {s : RS} (h : RSok n s) : RSok n (textS s).2 := by
  obtain ⟨h1, h2⟩ := h
  obtain ⟨g1, g2, _⟩ := readL_ok h1
  unfold textS
  split
  · exact ⟨h1, h2⟩
  · exact ⟨g1, by simp only; omega⟩
theorem hashS_ok {n : Nat} {s : RS} (h : RSok n s) : RSok n (hashS s).2 := by
  obtain ⟨h1, h2⟩ := h
  unfold hashS
  split
  · exact ⟨h1, h2⟩
  · split
    · exact ⟨fun x hx => h1 x (List.mem_of_mem_drop hx), by simp only [List.length_drop]; omega⟩
    · exact ⟨h1, h2⟩
theorem idS_ok {r : List Int} (h : ∀ x ∈ r, Byte x) : RSok r.length (idS (r, 0)).2 ∧ 0 ≤ (idS (r, 0)).1 ∧ (idS (r, 0)).1 < 4294967296 := by
  unfold idS fixL
  rw [if_neg (by omega)]
  split
  · exact ⟨⟨fun x hx => (by cases hx), by simp⟩, by simp, by simp⟩
  · rename_i hl
    have hlt := beN_lt 4 (r.take 4) (by rw [List.length_take]; simp only at hl; omega) (fun x hx => h x (List.mem_of_mem_take hx))
    refine ⟨⟨fun x hx => h x (List.mem_of_mem_drop hx), by simp⟩, hlt.1, ?_⟩
    exact hlt.2
/-- A version whose rows are nobody else's. -/
def VerRow (A : St) (lo : Nat) (V : VerT) (v : Value) : Prop := ∃ p q u, v = .agg #[.int .u32 V.id, p, q, u] ∧ HsRow A lo V.blocks p ∧ StRow A lo V.names q ∧ InRow A lo V.sizes u
theorem VerRow.ver {A : St} {lo : Nat} {V : VerT} {v : Value} (h : VerRow A lo V v) : VerV A V v := by
  obtain ⟨p, q, u, h1, h2, h3, h4⟩ := h
  exact ⟨p, q, u, h1, Row.view h2, Row.view h3, Row.view h4⟩
theorem VerRow.keep {A A' : St} {lo lo' : Nat} {V : VerT} {v : Value} (h : VerRow A lo V v) (hn : A.next ≤ A'.next) (hk : ∀ b, lo ≤ b → b < A.next → A'.get b = A.get b) (hl : lo' ≤ lo) : VerRow A' lo' V v := by
  obtain ⟨p, q, u, h1, h2, h3, h4⟩ := h
  exact ⟨p, q, u, h1, Row.keep h2 hn (fun b _ hb hlt => hk b hb hlt) hl, Row.keep h3 hn (fun b _ hb hlt => hk b hb hlt) hl, Row.keep h4 hn (fun b _ hb hlt => hk b hb hlt) hl⟩
theorem verV0 (A : St) (lo : Nat) : VerRow A lo V0 (.agg #[.int .u32 0, .slice none 0 0, .slice none 0 0, .slice none 0 0]) :=
  ⟨_, _, _, rfl, Row.nil .., Row.nil .., Row.nil ..⟩
def ReadPost (A : St) (r : VerT × List Int × Int) (e : Ending) (A' : St) : Prop := ∃ v, e = .returned (.tuple #[v, .string (strOfNums r.2.1), .int .i64 r.2.2]) ∧ Over A A' ∧ VerRow A' A.next r.1 v
theorem hs_push {A : St} {lo : Nat} {l : List HashT} {v : Value} (h : HsRow A lo l v) (x : HashT) (hlo : lo ≤ A.next) (hl : l.length ≤ 1048576) :
    ∃ v' A', aappend Try.prog (A.alloc (.cells (hsC x) 24 (some 0))) 27 27 v (.slice (some ⟨A.next, 0, none⟩) 1 1) = some (v', A') ∧ HsRow A' lo (l ++ [x]) v' ∧ A'.next = A.next + 2 ∧ rowB v' = some (A.next + 1) ∧ ∀ b, b < A.next → rowB v ≠ some b → A'.get b = A.get b := by
  obtain ⟨v', A2, hap, hr2, hn2, hrb, hf2⟩ := row_push (A := A) (sp := none) (c := 1) (xs := hsC x) Try.el27 Try.underlying27 (by intro k; exact TypeDesc.noConfusion) Try.sz24 Try.byt24 Try.zero24 rfl h hlo (by omega) (by omega) (hsC_cell x) (hsC_len x)
  refine ⟨v', A2, hap, ?_, hn2, hrb, hf2⟩
  unfold HsRow
  rw [List.flatMap_append, List.length_append]; simpa using hr2
theorem st_push {A : St} {lo : Nat} {l : List ByteArray} {v : Value} (h : StRow A lo l v) (x : ByteArray) (hlo : lo ≤ A.next) (hl : l.length ≤ 1073741824) :
    ∃ v' A', aappend Try.prog (A.alloc (.cells [.string x] 9 (some 0))) 28 28 v (.slice (some ⟨A.next, 0, none⟩) 1 1) = some (v', A') ∧ StRow A' lo (l ++ [x]) v' ∧ A'.next = A.next + 2 ∧ rowB v' = some (A.next + 1) ∧ ∀ b, b < A.next → rowB v ≠ some b → A'.get b = A.get b := by
  obtain ⟨v', A2, hap, hr2, hn2, hrb, hf2⟩ := row_push (A := A) (sp := none) (c := 1) (xs := [.string x]) Try.el28 Try.underlying28 (by intro k; exact TypeDesc.noConfusion) Try.sz9 Try.byt9 Try.zero9 rfl h hlo (by omega) (by omega) rfl rfl
  refine ⟨v', A2, hap, ?_, hn2, hrb, hf2⟩
  unfold StRow
  rw [List.flatMap_append, List.length_append]; exact hr2
theorem in_push {A : St} {lo : Nat} {l : List Int} {v : Value} (h : InRow A lo l v) (x : Int) (hlo : lo ≤ A.next) (hl : l.length ≤ 1073741824) :
    ∃ v' A', aappend Try.prog (A.alloc (.cells [.int .i64 x] 3 (some 0))) 29 29 v (.slice (some ⟨A.next, 0, none⟩) 1 1) = some (v', A') ∧ InRow A' lo (l ++ [x]) v' ∧ A'.next = A.next + 2 ∧ rowB v' = some (A.next + 1) ∧ ∀ b, b < A.next → rowB v ≠ some b → A'.get b = A.get b := by
  obtain ⟨v', A2, hap, hr2, hn2, hrb, hf2⟩ := row_push (A := A) (sp := none) (c := 1) (xs := [.int .i64 x]) Try.el29 Try.underlying29 (by intro k; exact TypeDesc.noConfusion) Try.sz3 Try.byt3 Try.zero3 rfl h hlo (by omega) (by omega) rfl rfl
  refine ⟨v', A2, hap, ?_, hn2, hrb, hf2⟩
  unfold InRow
  rw [List.flatMap_append, List.length_append]; exact hr2
def verB (id : Int) (p q u : Value) : Blk := .cells [.int .u32 id, p, q, u] 31 (some 0)
/-- The heap while a version is read. -/
structure RJ (A : St) (id : Int) (s : RS) (p q u : Value) (B : List HashT) (N : List ByteArray) (S : List Int) (A' : St) : Prop where
  over : Over A A'
  lo : A.next + 3 ≤ A'.next
  res : A'.get A.next = some (verB 0 (.slice none 0 0) (.slice none 0 0) (.slice none 0 0))
  rd : A'.get (A.next + 1) = some (rdB s)
  vs : A'.get (A.next + 2) = some (verB id p q u)
  rb : HsRow A' (A.next + 3) B p
  rn : StRow A' (A.next + 3) N q
  rs : InRow A' (A.next + 3) S u
  d1 : ∀ b, rowB p = some b → rowB q ≠ some b
  d2 : ∀ b, rowB p = some b → rowB u ≠ some b
  d3 : ∀ b, rowB q = some b → rowB u ≠ some b
variable {A A' : St} {id : Int} {st : RS} {p q u : Value} {B : List HashT} {N : List ByteArray} {S : List Int}
theorem RJ.setRd (h : RJ A id st p q u B N S A') (s' : RS) : RJ A id s' p q u B N S (A'.upd (A.next + 1) (some (rdB s'))) := by
  have hl := h.lo
  refine ⟨h.over.upd (by omega) _, h.lo, ?_, get_upd_same .., ?_, Row.keep h.rb (Nat.le_refl _) (fun b hb y _ => by rw [St.get_upd, if_neg (by omega)]) (Nat.le_refl _), Row.keep h.rn (Nat.le_refl _) (fun b hb y _ => by rw [St.get_upd, if_neg (by omega)]) (Nat.le_refl _), Row.keep h.rs (Nat.le_refl _) (fun b hb y _ => by rw [St.get_upd, if_neg (by omega)]) (Nat.le_refl _), h.d1, h.d2, h.d3⟩
  · rw [St.get_upd, if_neg (by omega)]; exact h.res
  · rw [St.get_upd, if_neg (by omega)]; exact h.vs
theorem RJ.pushB (h : RJ A id st p q u B N S A') (x : HashT) (hl : B.length ≤ 1048576) :
    ∃ v' A2, aappend Try.prog (A'.alloc (.cells (hsC x) 24 (some 0))) 27 27 p (.slice (some ⟨A'.next, 0, none⟩) 1 1) = some (v', A2) ∧ A2.get (A.next + 2) = some (verB id p q u) ∧ one1 v' = true ∧ RJ A id st v' q u (B ++ [x]) N S (A2.upd (A.next + 2) (some (verB id v' q u))) := by
  have hlo := h.lo
  obtain ⟨v', A2, hap, hr2, hn2, hrb, hf2⟩ := hs_push h.rb x (by omega) hl
  have low : ∀ b, b < A.next + 3 → A2.get b = A'.get b := fun b hb => hf2 b (by omega) (fun e => by have := (Row.rb h.rb b e).1; omega)
  have kn : StRow A2 (A.next + 3) N q := Row.keep h.rn (by omega) (fun b hb _ hlt => hf2 b hlt (fun e => h.d1 b e hb)) (Nat.le_refl _)
  have ks : InRow A2 (A.next + 3) S u := Row.keep h.rs (by omega) (fun b hb _ hlt => hf2 b hlt (fun e => h.d2 b e hb)) (Nat.le_refl _)
  have bq := fun b hb => (Row.rb h.rn b hb).2
  have bu := fun b hb => (Row.rb h.rs b hb).2
  refine ⟨v', A2, hap, (low _ (by omega)).trans h.vs, Row.sing hr2, ⟨⟨by have := h.over.next; simp only [nx_upd]; omega, fun b hb => ?_⟩, by simp only [nx_upd]; omega, ?_, ?_, get_upd_same .., Row.keep hr2 (Nat.le_refl _) (fun b hb y _ => by rw [St.get_upd, if_neg (by omega)]) (Nat.le_refl _), Row.keep kn (Nat.le_refl _) (fun b hb y _ => by rw [St.get_upd, if_neg (by omega)]) (Nat.le_refl _), Row.keep ks (Nat.le_refl _) (fun b hb y _ => by rw [St.get_upd, if_neg (by omega)]) (Nat.le_refl _), fun b hb e => ?_, fun b hb e => ?_, h.d3⟩⟩
  · rw [St.get_upd, if_neg (by omega), low b (by omega)]; exact h.over.get b hb
  · rw [St.get_upd, if_neg (by omega), low _ (by omega)]; exact h.res
  · rw [St.get_upd, if_neg (by omega), low _ (by omega)]; exact h.rd
  · rw [hrb] at hb; have := Option.some.inj hb; have := bq b e; omega
  · rw [hrb] at hb; have := Option.some.inj hb; have := bu b e; omega
theorem RJ.pushN (h : RJ A id st p q u B N S A') (x : ByteArray) (hl : N.length ≤ 1048576) :
    ∃ v' A2, aappend Try.prog (A'.alloc (.cells [.string x] 9 (some 0))) 28 28 q (.slice (some ⟨A'.next, 0, none⟩) 1 1) = some (v', A2) ∧ A2.get (A.next + 2) = some (verB id p q u) ∧ one1 v' = true ∧ RJ A id st p v' u B (N ++ [x]) S (A2.upd (A.next + 2) (some (verB id p v' u))) := by
  have hlo := h.lo
  obtain ⟨v', A2, hap, hr2, hn2, hrb, hf2⟩ := st_push h.rn x (by omega) (by omega)
  have low : ∀ b, b < A.next + 3 → A2.get b = A'.get b := fun b hb => hf2 b (by omega) (fun e => by have := (Row.rb h.rn b e).1; omega)
  have kb : HsRow A2 (A.next + 3) B p := Row.keep h.rb (by omega) (fun b hb _ hlt => hf2 b hlt (fun e => h.d1 b hb e)) (Nat.le_refl _)
  have ks : InRow A2 (A.next + 3) S u := Row.keep h.rs (by omega) (fun b hb _ hlt => hf2 b hlt (fun e => h.d3 b e hb)) (Nat.le_refl _)
  have bp := fun b hb => (Row.rb h.rb b hb).2
  have bu := fun b hb => (Row.rb h.rs b hb).2
  refine ⟨v', A2, hap, (low _ (by omega)).trans h.vs, Row.sing hr2, ⟨⟨by have := h.over.next; simp only [nx_upd]; omega, fun b hb => ?_⟩, by simp only [nx_upd]; omega, ?_, ?_, get_upd_same .., Row.keep kb (Nat.le_refl _) (fun b hb y _ => by rw [St.get_upd, if_neg (by omega)]) (Nat.le_refl _), Row.keep hr2 (Nat.le_refl _) (fun b hb y _ => by rw [St.get_upd, if_neg (by omega)]) (Nat.le_refl _), Row.keep ks (Nat.le_refl _) (fun b hb y _ => by rw [St.get_upd, if_neg (by omega)]) (Nat.le_refl _), fun b hb e => ?_, h.d2, fun b hb e => ?_⟩⟩
  · rw [St.get_upd, if_neg (by omega), low b (by omega)]; exact h.over.get b hb
  · rw [St.get_upd, if_neg (by omega), low _ (by omega)]; exact h.res
  · rw [St.get_upd, if_neg (by omega), low _ (by omega)]; exact h.rd
  · rw [hrb] at e; have := Option.some.inj e; have := bp b hb; omega
  · rw [hrb] at hb; have := Option.some.inj hb; have := bu b e; omega
theorem RJ.pushS (h : RJ A id st p q u B N S A') (x : Int) (hl : S.length ≤ 1048576) :
    ∃ v' A2, aappend Try.prog (A'.alloc (.cells [.int .i64 x] 3 (some 0))) 29 29 u (.slice (some ⟨A'.next, 0, none⟩) 1 1) = some (v', A2) ∧ A2.get (A.next + 2) = some (verB id p q u) ∧ one1 v' = true ∧ RJ A id st p q v' B N (S ++ [x]) (A2.upd (A.next + 2) (some (verB id p q v'))) := by
  have hlo := h.lo
  obtain ⟨v', A2, hap, hr2, hn2, hrb, hf2⟩ := in_push h.rs x (by omega) (by omega)
  have low : ∀ b, b < A.next + 3 → A2.get b = A'.get b := fun b hb => hf2 b (by omega) (fun e => by have := (Row.rb h.rs b e).1; omega)
  have kb : HsRow A2 (A.next + 3) B p := Row.keep h.rb (by omega) (fun b hb _ hlt => hf2 b hlt (fun e => h.d2 b hb e)) (Nat.le_refl _)
  have kn : StRow A2 (A.next + 3) N q := Row.keep h.rn (by omega) (fun b hb _ hlt => hf2 b hlt (fun e => h.d3 b hb e)) (Nat.le_refl _)
  have bp := fun b hb => (Row.rb h.rb b hb).2
  have bq := fun b hb => (Row.rb h.rn b hb).2
  refine ⟨v', A2, hap, (low _ (by omega)).trans h.vs, Row.sing hr2, ⟨⟨by have := h.over.next; simp only [nx_upd]; omega, fun b hb => ?_⟩, by simp only [nx_upd]; omega, ?_, ?_, get_upd_same .., Row.keep kb (Nat.le_refl _) (fun b hb y _ => by rw [St.get_upd, if_neg (by omega)]) (Nat.le_refl _), Row.keep kn (Nat.le_refl _) (fun b hb y _ => by rw [St.get_upd, if_neg (by omega)]) (Nat.le_refl _), Row.keep hr2 (Nat.le_refl _) (fun b hb y _ => by rw [St.get_upd, if_neg (by omega)]) (Nat.le_refl _), h.d1, fun b hb e => ?_, fun b hb e => ?_⟩⟩
  · rw [St.get_upd, if_neg (by omega), low b (by omega)]; exact h.over.get b hb
  · rw [St.get_upd, if_neg (by omega), low _ (by omega)]; exact h.res
  · rw [St.get_upd, if_neg (by omega), low _ (by omega)]; exact h.rd
  · rw [hrb] at e; have := Option.some.inj e; have := bp b hb; omega
  · rw [hrb] at e; have := Option.some.inj e; have := bq b hb; omega
theorem RJ.ver (h : RJ A id st p q u B N S A') : VerV A' ⟨id, B, N, S⟩ (.agg #[.int .u32 id, p, q, u]) := ⟨p, q, u, rfl, Row.view h.rb, Row.view h.rn, Row.view h.rs⟩
theorem RJ.verRes (h : RJ A id st p q u B N S A') (b : Option Blk) : VerRow (A'.upd A.next b) A.next ⟨id, B, N, S⟩ (.agg #[.int .u32 id, p, q, u]) :=
  VerRow.keep (A := A') ⟨p, q, u, rfl, h.rb, h.rn, h.rs⟩ (Nat.le_refl _) (fun b hb _ => by rw [St.get_upd, if_neg (by omega)]) (by omega)
set_option maxHeartbeats 8000000 in
theorem read_ver_ok (w0 : World) (A : St) (s : ByteArray) (hs : s.size ≤ 1048576) : ACalls Try.prog w0 20 #[.string s] A (ReadPost A (progR (nums s))) := by
  refine call_E Try.enters20 Try.func20 rfl (Nat.le_of_ble_eq_true rfl) fun hw hbd => ?_
  have hby := nums_byte s
  have hnl := nums_length s
  obtain ⟨i1, i2, i3⟩ := idS_ok hby
  generalize hr : nums s = r at *
  have hst : s = strOfNums r := by rw [← hr, str_nums]
  subst hst
  simp (maxSteps := 1000000) (disch := (first | omega | (simp only [nx_alloc, nx_upd, len_cons, len_nil, List.length_set, List.length_map, List.length_append] <;> omega) | fail)) only [Nat.reduceAdd, Nat.reduceSub, Nat.reduceMul, Nat.reduceLT, Nat.reduceLeDiff, Nat.reduceEqDiff, ↓reduceIte, reduceCtorEq, Int.reduceAdd, Int.reduceSub, Int.reduceMul, Int.reduceLT, Int.reduceLE, Int.reduceEq, Int.reduceNe, Int.reduceToNat, Int.reduceNeg, go_sem, Try.ntmps20, Try.results20]
  refine call1 (rid_ok w0 _ (A.next + 1) r (by simp (disch := (first | omega | (simp only [nx_alloc, nx_upd, len_cons, len_nil, List.length_set, List.length_map, List.length_append] <;> omega) | fail)) only [St.get_upd, St.get_alloc, St.next_alloc, St.next_upd, ↓reduceIte, natF_lt, natF_gt, natF_ne, Nat.add_assoc, Nat.reduceAdd, Nat.reduceEqDiff, Nat.add_left_cancel_iff]; rfl) hby (by omega)) ?_
  have j1 : ∀ A1, A1 = (((A.alloc (verB 0 (.slice none 0 0) (.slice none 0 0) (.slice none 0 0))).alloc (.cells [.string (strOfNums r), .int .i64 0] 63 (some 0))).upd (A.next + 1) (some (rdB (idS (r, 0)).2))) → Over A A1 ∧ A1.next = A.next + 2 ∧ A1.get A.next = some (verB 0 (.slice none 0 0) (.slice none 0 0) (.slice none 0 0)) ∧ A1.get (A.next + 1) = some (rdB (idS (r, 0)).2) := by
    rintro A1 rfl
    exact ⟨(((Over.refl A).alloc _).alloc _).upd (by omega) _, rfl, by simp (disch := (first | omega | (simp only [nx_alloc, nx_upd, len_cons, len_nil, List.length_set, List.length_map, List.length_append] <;> omega) | fail)) only [St.get_upd, St.get_alloc, St.next_alloc, St.next_upd, ↓reduceIte, natF_lt, natF_gt, natF_ne, Nat.add_assoc, Nat.reduceAdd, Nat.reduceEqDiff, Nat.add_left_cancel_iff], by simp (disch := (first | omega | (simp only [nx_alloc, nx_upd, len_cons, len_nil, List.length_set, List.length_map, List.length_append] <;> omega) | fail)) only [St.get_upd, St.get_alloc, St.next_alloc, St.next_upd, ↓reduceIte, natF_lt, natF_gt, natF_ne, Nat.add_assoc, Nat.reduceAdd, Nat.reduceEqDiff, Nat.add_left_cancel_iff]⟩
  obtain ⟨A1, hA1⟩ : ∃ A1, A1 = (((A.alloc (verB 0 (.slice none 0 0) (.slice none 0 0) (.slice none 0 0))).alloc (.cells [.string (strOfNums r), .int .i64 0] 63 (some 0))).upd (A.next + 1) (some (rdB (idS (r, 0)).2))) := ⟨_, rfl⟩
  obtain ⟨o1, n1, z0, z1⟩ := j1 A1 hA1
  change afterCall _ _ _ _ _ (((A.alloc (verB 0 (.slice none 0 0) (.slice none 0 0) (.slice none 0 0))).alloc (.cells [.string (strOfNums r), .int .i64 0] 63 (some 0))).upd (A.next + 1) (some (rdB (idS (r, 0)).2)))
  rw [← hA1]
  simp (maxSteps := 1000000) (disch := (first | omega | (simp only [nx_alloc, nx_upd, len_cons, len_nil, List.length_set, List.length_map, List.length_append] <;> omega) | fail)) only [Nat.reduceAdd, Nat.reduceSub, Nat.reduceMul, Nat.reduceLT, Nat.reduceLeDiff, Nat.reduceEqDiff, ↓reduceIte, reduceCtorEq, Int.reduceAdd, Int.reduceSub, Int.reduceMul, Int.reduceLT, Int.reduceLE, Int.reduceEq, Int.reduceNe, Int.reduceToNat, Int.reduceNeg, go_sem, n1]
  obtain ⟨A2, hA2⟩ : ∃ A2, A2 = (A1.alloc (verB 0 (.slice none 0 0) (.slice none 0 0) (.slice none 0 0))).upd (A.next + 2) (some (verB (idS (r, 0)).1 (.slice none 0 0) (.slice none 0 0) (.slice none 0 0))) := ⟨_, rfl⟩
  have j2 : RJ A (idS (r, 0)).1 (idS (r, 0)).2 (.slice none 0 0) (.slice none 0 0) (.slice none 0 0) [] [] [] A2 := by
    rw [hA2]
    refine ⟨(o1.alloc _).upd (by omega) _, by simp only [nx_upd, nx_alloc]; omega, ?_, ?_, get_upd_same .., Row.nil .., Row.nil .., Row.nil .., fun b hb => (by cases hb), fun b hb => (by cases hb), fun b hb => (by cases hb)⟩
    · rw [St.get_upd, if_neg (by omega), get_alloc_old (by omega)]; exact z0
    · rw [St.get_upd, if_neg (by omega), get_alloc_old (by omega)]; exact z1
  change ACalls _ _ _ _ ((A1.alloc (verB 0 (.slice none 0 0) (.slice none 0 0) (.slice none 0 0))).upd (A.next + 2) (some (verB (idS (r, 0)).1 (.slice none 0 0) (.slice none 0 0) (.slice none 0 0)))) _
  rw [← hA2]
  clear hA2 hA1 j1
  refine call1 (many_ok w0 A2 (A.next + 1) (idS (r, 0)).2 16 j2.rd i1.1 (by have := i1.2; omega) (by decide)) ?_
  have j3 := j2.setRd (manyS 16 (idS (r, 0)).2).2
  obtain ⟨m1, m2, m3⟩ := manyS_ok 16 (by decide) i1
  have hrN : readN r = manyS 16 (idS (r, 0)).2 := rfl
  have hrI : readI r = idS (r, 0) := rfl
  obtain ⟨nn, hnn⟩ := Int.eq_ofNat_of_zero_le m2
  have hrB : hashN nn (manyS 16 (idS (r, 0)).2).2 [] = readB r := by unfold readB; rw [hrN, hnn]; rfl
  have hn16 : nn ≤ 16 := by have := m3; omega
  rw [hnn]
  generalize A2.upd (A.next + 1) (some (rdB (manyS 16 (idS (r, 0)).2).2)) = A3 at j3
  generalize (manyS 16 (idS (r, 0)).2).2 = s3 at *
  have hid : (readI r).1 = (idS (r, 0)).1 := rfl
  generalize (idS (r, 0)).1 = id at *
  simp (maxSteps := 1000000) (disch := (first | omega | (simp only [nx_alloc, nx_upd, len_cons, len_nil, List.length_set, List.length_map, List.length_append] <;> omega) | fail)) only [Nat.reduceAdd, Nat.reduceSub, Nat.reduceMul, Nat.reduceLT, Nat.reduceLeDiff, Nat.reduceEqDiff, ↓reduceIte, reduceCtorEq, Int.reduceAdd, Int.reduceSub, Int.reduceMul, Int.reduceLT, Int.reduceLE, Int.reduceEq, Int.reduceNe, Int.reduceToNat, Int.reduceNeg, go_sem]
  refine aw_loop (fun k x A' => ∃ (ρ : Nat → Value) (i : Nat) (B : List HashT) (st : RS) (p : Value), x = E 72 ρ [] ∧ k = nn - i ∧ i ≤ nn ∧ RJ A id st p (.slice none 0 0) (.slice none 0 0) B [] [] A' ∧ RSok r.length st ∧ B.length = i ∧ hashN (nn - i) st B = readB r ∧
      ρ 2 = .pointer (some ⟨A.next, 0, none⟩) ∧ ρ 5 = .pointer (some ⟨A.next + 1, 0, none⟩) ∧ ρ 6 = .pointer (some ⟨A.next + 2, 0, none⟩) ∧ ρ 7 = .func (.func 36) #[.pointer (some ⟨A.next + 1, 0, none⟩)] #[] ∧ ρ 8 = .func (.func 37) #[.pointer (some ⟨A.next + 1, 0, none⟩)] #[] ∧ ρ 21 = .int .i64 nn ∧ ρ 22 = .int .i64 i) nn
    ⟨_, 0, [], s3, _, rfl, rfl, Nat.zero_le _, j3, m1, rfl, hrB, rfl, rfl, rfl, rfl, rfl, rfl, rfl⟩ ?_
  clear j3 j2 m1 hrB
  rintro k x A' ⟨ρ, i, B, st, p, rfl, hk, hi, j, hrs, hBl, hhn, g2, g5, g6, g7, g8, g21, g22⟩
  refine aw_of ?_
  have hlo := j.lo
  by_cases hend : i = nn
  rotate_left
  · have e1 : ((i : Int) < nn) := by omega
    have hst : hashN (nn - i) st B = hashN (nn - (i + 1)) (hashS st).2 (B ++ [(hashS st).1]) := by
      obtain ⟨q, hq⟩ : ∃ q, nn - i = q + 1 := ⟨nn - i - 1, by omega⟩
      rw [hq, show nn - (i + 1) = q by omega]; rfl
    rw [hst] at hhn
    have hcall := rhash_ok w0 A' (A.next + 1) st j.rd hrs.1 (by have := hrs.2; omega)
    have jr := j.setRd (hashS st).2
    have hrs2 := hashS_ok hrs
    generalize (hashS st).1 = h at *
    generalize (hashS st).2 = st2 at *
    obtain ⟨v', A4, hap, hv4, hv1, j4⟩ := jr.pushB h (by omega)
    have hset := set_all [.int .u8 0, .int .u8 0, .int .u8 0, .int .u8 0, .int .u8 0, .int .u8 0, .int .u8 0, .int .u8 0, .int .u8 0, .int .u8 0, .int .u8 0, .int .u8 0, .int .u8 0, .int .u8 0, .int .u8 0, .int .u8 0, .int .u8 0, .int .u8 0, .int .u8 0, .int .u8 0, .int .u8 0, .int .u8 0, .int .u8 0, .int .u8 0, .int .u8 0, .int .u8 0, .int .u8 0, .int .u8 0, .int .u8 0, .int .u8 0, .int .u8 0, .int .u8 0] (hsC h) (by rw [hsC_len]; rfl)
    have hlen32 := hsC_len h
    have hvs := j.vs
    unfold verB at hvs hv4
    simp (maxSteps := 1000000) (disch := (first | omega | (simp only [nx_alloc, nx_upd, len_cons, len_nil, List.length_set, List.length_map, List.length_append] <;> omega) | fail)) only [Nat.reduceAdd, Nat.reduceSub, Nat.reduceMul, Nat.reduceLT, Nat.reduceLeDiff, Nat.reduceEqDiff, ↓reduceIte, reduceCtorEq, Int.reduceAdd, Int.reduceSub, Int.reduceMul, Int.reduceLT, Int.reduceLE, Int.reduceEq, Int.reduceNe, Int.reduceToNat, Int.reduceNeg, go_sem, g2, g5, g6, g7, g8, g21, g22]
    refine aw_draw2 [⟨false, [], [0, 1, 2]⟩, ⟨false, [0], [0, 1, 2]⟩, ⟨false, [], [0]⟩, ⟨true, [2], [0]⟩, ⟨true, [2, 3], [1]⟩, ⟨true, [0, 1, 2, 3, 4], [2]⟩, ⟨false, [0, 1, 2, 3, 4, 5], [3]⟩, ⟨true, [0, 1, 2, 3, 4, 5, 6], [3]⟩] [A', A'.upd (A.next + 1) (some (rdB st2)), (A'.upd (A.next + 1) (some (rdB st2))).alloc (.cells (hsC h) 24 (some 0)), A4, A4.upd (A.next + 2) (some (verB id v' (.slice none 0 0) (.slice none 0 0)))] 4 (by kernel_rfl) (by kernel_rfl) rfl ?_
    simp (maxSteps := 1000000) (disch := (first | omega | (simp only [nx_alloc, nx_upd, len_cons, len_nil, List.length_set, List.length_map, List.length_append] <;> omega) | fail)) only [Nat.reduceAdd, Nat.reduceSub, Nat.reduceMul, Nat.reduceLT, Nat.reduceLeDiff, Nat.reduceEqDiff, ↓reduceIte, reduceCtorEq, Int.reduceAdd, Int.reduceSub, Int.reduceMul, Int.reduceLT, Int.reduceLE, Int.reduceEq, Int.reduceNe, Int.reduceToNat, Int.reduceNeg, go_sem, g6, g7, hvs]
    refine ⟨_, hcall, ?_⟩
    simp (maxSteps := 1000000) (disch := (first | omega | (simp only [nx_alloc, nx_upd, len_cons, len_nil, List.length_set, List.length_map, List.length_append] <;> omega) | fail)) only [Nat.reduceAdd, Nat.reduceSub, Nat.reduceMul, Nat.reduceLT, Nat.reduceLeDiff, Nat.reduceEqDiff, ↓reduceIte, reduceCtorEq, Int.reduceAdd, Int.reduceSub, Int.reduceMul, Int.reduceLT, Int.reduceLE, Int.reduceEq, Int.reduceNe, Int.reduceToNat, Int.reduceNeg, go_sem, hset]
    rw [nx_upd] at hap
    rw [hap]
    simp (maxSteps := 1000000) (disch := (first | omega | (simp only [nx_alloc, nx_upd, len_cons, len_nil, List.length_set, List.length_map, List.length_append] <;> omega) | fail)) only [Nat.reduceAdd, Nat.reduceSub, Nat.reduceMul, Nat.reduceLT, Nat.reduceLeDiff, Nat.reduceEqDiff, ↓reduceIte, reduceCtorEq, Int.reduceAdd, Int.reduceSub, Int.reduceMul, Int.reduceLT, Int.reduceLE, Int.reduceEq, Int.reduceNe, Int.reduceToNat, Int.reduceNeg, go_sem, g6, hv4]
    rw [storeC_val hv1]
    simp (maxSteps := 1000000) (disch := (first | omega | (simp only [nx_alloc, nx_upd, len_cons, len_nil, List.length_set, List.length_map, List.length_append] <;> omega) | fail)) only [Nat.reduceAdd, Nat.reduceSub, Nat.reduceMul, Nat.reduceLT, Nat.reduceLeDiff, Nat.reduceEqDiff, ↓reduceIte, reduceCtorEq, Int.reduceAdd, Int.reduceSub, Int.reduceMul, Int.reduceLT, Int.reduceLE, Int.reduceEq, Int.reduceNe, Int.reduceToNat, Int.reduceNeg, go_sem, g22]
    refine ⟨rfl, ?_⟩
    simp (maxSteps := 1000000) (disch := (first | omega | (simp only [nx_alloc, nx_upd, len_cons, len_nil, List.length_set, List.length_map, List.length_append] <;> omega) | fail)) only [Nat.reduceAdd, Nat.reduceSub, Nat.reduceMul, Nat.reduceLT, Nat.reduceLeDiff, Nat.reduceEqDiff, ↓reduceIte, reduceCtorEq, Int.reduceAdd, Int.reduceSub, Int.reduceMul, Int.reduceLT, Int.reduceLE, Int.reduceEq, Int.reduceNe, Int.reduceToNat, Int.reduceNeg, go_sem, g22]
    refine ⟨k - 1, by omega, _, i + 1, B ++ [h], st2, v', rfl, by omega, by omega, j4, hrs2, by simp [hBl], hhn, ?_, ?_, ?_, ?_, ?_, ?_, ?_⟩
    · simp (maxSteps := 1000000) (disch := (first | omega | (simp only [nx_alloc, nx_upd, len_cons, len_nil, List.length_set, List.length_map, List.length_append] <;> omega) | fail)) only [Nat.reduceAdd, Nat.reduceSub, Nat.reduceMul, Nat.reduceLT, Nat.reduceLeDiff, Nat.reduceEqDiff, ↓reduceIte, reduceCtorEq, Int.reduceAdd, Int.reduceSub, Int.reduceMul, Int.reduceLT, Int.reduceLE, Int.reduceEq, Int.reduceNe, Int.reduceToNat, Int.reduceNeg, go_sem, g2]
    · simp (maxSteps := 1000000) (disch := (first | omega | (simp only [nx_alloc, nx_upd, len_cons, len_nil, List.length_set, List.length_map, List.length_append] <;> omega) | fail)) only [Nat.reduceAdd, Nat.reduceSub, Nat.reduceMul, Nat.reduceLT, Nat.reduceLeDiff, Nat.reduceEqDiff, ↓reduceIte, reduceCtorEq, Int.reduceAdd, Int.reduceSub, Int.reduceMul, Int.reduceLT, Int.reduceLE, Int.reduceEq, Int.reduceNe, Int.reduceToNat, Int.reduceNeg, go_sem, g5]
    · simp (maxSteps := 1000000) (disch := (first | omega | (simp only [nx_alloc, nx_upd, len_cons, len_nil, List.length_set, List.length_map, List.length_append] <;> omega) | fail)) only [Nat.reduceAdd, Nat.reduceSub, Nat.reduceMul, Nat.reduceLT, Nat.reduceLeDiff, Nat.reduceEqDiff, ↓reduceIte, reduceCtorEq, Int.reduceAdd, Int.reduceSub, Int.reduceMul, Int.reduceLT, Int.reduceLE, Int.reduceEq, Int.reduceNe, Int.reduceToNat, Int.reduceNeg, go_sem, g6]
    · simp (maxSteps := 1000000) (disch := (first | omega | (simp only [nx_alloc, nx_upd, len_cons, len_nil, List.length_set, List.length_map, List.length_append] <;> omega) | fail)) only [Nat.reduceAdd, Nat.reduceSub, Nat.reduceMul, Nat.reduceLT, Nat.reduceLeDiff, Nat.reduceEqDiff, ↓reduceIte, reduceCtorEq, Int.reduceAdd, Int.reduceSub, Int.reduceMul, Int.reduceLT, Int.reduceLE, Int.reduceEq, Int.reduceNe, Int.reduceToNat, Int.reduceNeg, go_sem, g7]
    · simp (maxSteps := 1000000) (disch := (first | omega | (simp only [nx_alloc, nx_upd, len_cons, len_nil, List.length_set, List.length_map, List.length_append] <;> omega) | fail)) only [Nat.reduceAdd, Nat.reduceSub, Nat.reduceMul, Nat.reduceLT, Nat.reduceLeDiff, Nat.reduceEqDiff, ↓reduceIte, reduceCtorEq, Int.reduceAdd, Int.reduceSub, Int.reduceMul, Int.reduceLT, Int.reduceLE, Int.reduceEq, Int.reduceNe, Int.reduceToNat, Int.reduceNeg, go_sem, g8]
    · simp (maxSteps := 1000000) (disch := (first | omega | (simp only [nx_alloc, nx_upd, len_cons, len_nil, List.length_set, List.length_map, List.length_append] <;> omega) | fail)) only [Nat.reduceAdd, Nat.reduceSub, Nat.reduceMul, Nat.reduceLT, Nat.reduceLeDiff, Nat.reduceEqDiff, ↓reduceIte, reduceCtorEq, Int.reduceAdd, Int.reduceSub, Int.reduceMul, Int.reduceLT, Int.reduceLE, Int.reduceEq, Int.reduceNe, Int.reduceToNat, Int.reduceNeg, go_sem, g21]
    · simp (maxSteps := 1000000) (disch := (first | omega | (simp only [nx_alloc, nx_upd, len_cons, len_nil, List.length_set, List.length_map, List.length_append] <;> omega) | fail)) only [Nat.reduceAdd, Nat.reduceSub, Nat.reduceMul, Nat.reduceLT, Nat.reduceLeDiff, Nat.reduceEqDiff, ↓reduceIte, reduceCtorEq, Int.reduceAdd, Int.reduceSub, Int.reduceMul, Int.reduceLT, Int.reduceLE, Int.reduceEq, Int.reduceNe, Int.reduceToNat, Int.reduceNeg, go_sem]
      rfl
  have e1 : ¬ ((i : Int) < nn) := by omega
  have hBst : readB r = (B, st) := by rw [← hhn, hend, Nat.sub_self]; rfl
  have hrK : readK r = manyS 12 st := by unfold readK; rw [hBst]
  simp (maxSteps := 1000000) (disch := (first | omega | (simp only [nx_alloc, nx_upd, len_cons, len_nil, List.length_set, List.length_map, List.length_append] <;> omega) | fail)) only [Nat.reduceAdd, Nat.reduceSub, Nat.reduceMul, Nat.reduceLT, Nat.reduceLeDiff, Nat.reduceEqDiff, ↓reduceIte, reduceCtorEq, Int.reduceAdd, Int.reduceSub, Int.reduceMul, Int.reduceLT, Int.reduceLE, Int.reduceEq, Int.reduceNe, Int.reduceToNat, Int.reduceNeg, go_sem, g2, g5, g6, g7, g8, g21, g22]
  refine call1 (many_ok w0 A' (A.next + 1) st 12 j.rd hrs.1 (by have := hrs.2; omega) (by decide)) ?_
  have jr := j.setRd (manyS 12 st).2
  obtain ⟨k1, k2, k3⟩ := manyS_ok 12 (by decide) hrs
  obtain ⟨kk, hkk⟩ := Int.eq_ofNat_of_zero_le k2
  have hrP : pairN kk (manyS 12 st).2 [] [] = readP r := by unfold readP; rw [hrK, hkk]; rfl
  have hk12 : kk ≤ 12 := by omega
  have hBv : (readB r).1 = B := by rw [hBst]
  rw [hkk]
  generalize A'.upd (A.next + 1) (some (rdB (manyS 12 st).2)) = A5 at jr
  generalize (manyS 12 st).2 = s5 at *
  simp (maxSteps := 1000000) (disch := (first | omega | (simp only [nx_alloc, nx_upd, len_cons, len_nil, List.length_set, List.length_map, List.length_append] <;> omega) | fail)) only [Nat.reduceAdd, Nat.reduceSub, Nat.reduceMul, Nat.reduceLT, Nat.reduceLeDiff, Nat.reduceEqDiff, ↓reduceIte, reduceCtorEq, Int.reduceAdd, Int.reduceSub, Int.reduceMul, Int.reduceLT, Int.reduceLE, Int.reduceEq, Int.reduceNe, Int.reduceToNat, Int.reduceNeg, go_sem]
  refine aw_loop (fun k x A' => ∃ (ρ : Nat → Value) (i : Nat) (N : List ByteArray) (S : List Int) (st : RS) (q u : Value), x = E 72 ρ [] ∧ k = kk - i ∧ i ≤ kk ∧ RJ A id st p q u B N S A' ∧ RSok r.length st ∧ N.length = i ∧ S.length = i ∧ pairN (kk - i) st N S = readP r ∧
      ρ 2 = .pointer (some ⟨A.next, 0, none⟩) ∧ ρ 5 = .pointer (some ⟨A.next + 1, 0, none⟩) ∧ ρ 6 = .pointer (some ⟨A.next + 2, 0, none⟩) ∧ ρ 8 = .func (.func 37) #[.pointer (some ⟨A.next + 1, 0, none⟩)] #[] ∧ ρ 33 = .int .i64 kk ∧ ρ 34 = .int .i64 i) kk
    ⟨_, 0, [], [], s5, _, _, rfl, rfl, Nat.zero_le _, jr, k1, rfl, rfl, hrP, g2, g5, g6, g8, rfl, rfl⟩ ?_
  have hB16 : B.length ≤ 16 := by omega
  clear jr j k1 hrP g2 g5 g6 g7 g8 g21 g22 hhn hrs hlo hk hi hend e1
  rintro k x A' ⟨ρ, i, N, S, st, q, u, rfl, hk, hi, j, hrs, hNl, hSl, hpn, g2, g5, g6, g8, g33, g34⟩
  refine aw_of ?_
  have hlo := j.lo
  have hvs := j.vs
  have hrd := j.rd
  have hrs0 := j.res
  unfold verB at hvs hrs0
  unfold rdB at hrd
  by_cases hend : i = kk
  rotate_left
  · have e1 : ((i : Int) < kk) := by omega
    have hst : pairN (kk - i) st N S = pairN (kk - (i + 1)) (manyS 300 (textS st).2).2 (N ++ [strOfNums (textS st).1]) (S ++ [(manyS 300 (textS st).2).1]) := by
      obtain ⟨q, hq⟩ : ∃ q, kk - i = q + 1 := ⟨kk - i - 1, by omega⟩
      rw [hq, show kk - (i + 1) = q by omega]; rfl
    rw [hst] at hpn
    have hcall := rtxt_ok w0 A' (A.next + 1) st j.rd hrs.1 (by have := hrs.2; omega)
    have jr := j.setRd (textS st).2
    have hrs2 := textS_ok hrs
    generalize (textS st).1 = tx at *
    generalize (textS st).2 = st2 at *
    obtain ⟨v', A6, hap, hv6, hv1, j6⟩ := jr.pushN (strOfNums tx) (by omega)
    have hcall2 := many_ok w0 (A6.upd (A.next + 2) (some (verB id p v' u))) (A.next + 1) st2 300 j6.rd hrs2.1 (by have := hrs2.2; omega) (by decide)
    have jr2 := j6.setRd (manyS 300 st2).2
    have hrs3 := (manyS_ok 300 (by decide) hrs2).1
    have hvs6 := j6.vs
    have hlo6 := j6.lo
    generalize (manyS 300 st2).1 = mz at *
    generalize (manyS 300 st2).2 = st3 at *
    obtain ⟨v'', A7, hap7, hv7, hv71, j7⟩ := jr2.pushS mz (by omega)
    simp (maxSteps := 1000000) (disch := (first | omega | (simp only [nx_alloc, nx_upd, len_cons, len_nil, List.length_set, List.length_map, List.length_append] <;> omega) | fail)) only [Nat.reduceAdd, Nat.reduceSub, Nat.reduceMul, Nat.reduceLT, Nat.reduceLeDiff, Nat.reduceEqDiff, ↓reduceIte, reduceCtorEq, Int.reduceAdd, Int.reduceSub, Int.reduceMul, Int.reduceLT, Int.reduceLE, Int.reduceEq, Int.reduceNe, Int.reduceToNat, Int.reduceNeg, go_sem, g2, g5, g6, g8, g33, g34]
    unfold verB at hv6
    refine aw_draw2 [⟨false, [], [0, 1, 2]⟩, ⟨false, [0], [0, 1, 2]⟩, ⟨false, [], [0]⟩, ⟨true, [2], [0]⟩, ⟨true, [2, 3], [1]⟩, ⟨true, [0, 1, 2, 3, 4], [2]⟩, ⟨false, [0, 1, 2, 3, 4, 5], [3]⟩, ⟨true, [0, 1, 2, 3, 4, 5, 6], [3]⟩] [A', A'.upd (A.next + 1) (some (rdB st2)), (A'.upd (A.next + 1) (some (rdB st2))).alloc (.cells [.string (strOfNums tx)] 9 (some 0)), A6, A6.upd (A.next + 2) (some (verB id p v' u))] 4 (by kernel_rfl) (by kernel_rfl) rfl ?_
    simp (maxSteps := 1000000) (disch := (first | omega | (simp only [nx_alloc, nx_upd, len_cons, len_nil, List.length_set, List.length_map, List.length_append] <;> omega) | fail)) only [Nat.reduceAdd, Nat.reduceSub, Nat.reduceMul, Nat.reduceLT, Nat.reduceLeDiff, Nat.reduceEqDiff, ↓reduceIte, reduceCtorEq, Int.reduceAdd, Int.reduceSub, Int.reduceMul, Int.reduceLT, Int.reduceLE, Int.reduceEq, Int.reduceNe, Int.reduceToNat, Int.reduceNeg, go_sem, g6, g8, hvs]
    refine ⟨_, hcall, ?_⟩
    simp (maxSteps := 1000000) (disch := (first | omega | (simp only [nx_alloc, nx_upd, len_cons, len_nil, List.length_set, List.length_map, List.length_append] <;> omega) | fail)) only [Nat.reduceAdd, Nat.reduceSub, Nat.reduceMul, Nat.reduceLT, Nat.reduceLeDiff, Nat.reduceEqDiff, ↓reduceIte, reduceCtorEq, Int.reduceAdd, Int.reduceSub, Int.reduceMul, Int.reduceLT, Int.reduceLE, Int.reduceEq, Int.reduceNe, Int.reduceToNat, Int.reduceNeg, go_sem]
    rw [nx_upd] at hap
    rw [hap]
    simp (maxSteps := 1000000) (disch := (first | omega | (simp only [nx_alloc, nx_upd, len_cons, len_nil, List.length_set, List.length_map, List.length_append] <;> omega) | fail)) only [Nat.reduceAdd, Nat.reduceSub, Nat.reduceMul, Nat.reduceLT, Nat.reduceLeDiff, Nat.reduceEqDiff, ↓reduceIte, reduceCtorEq, Int.reduceAdd, Int.reduceSub, Int.reduceMul, Int.reduceLT, Int.reduceLE, Int.reduceEq, Int.reduceNe, Int.reduceToNat, Int.reduceNeg, go_sem, g6, hv6]
    rw [storeC_val hv1]
    simp (maxSteps := 1000000) (disch := (first | omega | (simp only [nx_alloc, nx_upd, len_cons, len_nil, List.length_set, List.length_map, List.length_append] <;> omega) | fail)) only [Nat.reduceAdd, Nat.reduceSub, Nat.reduceMul, Nat.reduceLT, Nat.reduceLeDiff, Nat.reduceEqDiff, ↓reduceIte, reduceCtorEq, Int.reduceAdd, Int.reduceSub, Int.reduceMul, Int.reduceLT, Int.reduceLE, Int.reduceEq, Int.reduceNe, Int.reduceToNat, Int.reduceNeg, go_sem]
    refine ⟨rfl, ?_⟩
    generalize A6.upd (A.next + 2) (some (verB id p v' u)) = A8 at *
    unfold verB at hv7 hvs6
    simp (maxSteps := 1000000) (disch := (first | omega | (simp only [nx_alloc, nx_upd, len_cons, len_nil, List.length_set, List.length_map, List.length_append] <;> omega) | fail)) only [Nat.reduceAdd, Nat.reduceSub, Nat.reduceMul, Nat.reduceLT, Nat.reduceLeDiff, Nat.reduceEqDiff, ↓reduceIte, reduceCtorEq, Int.reduceAdd, Int.reduceSub, Int.reduceMul, Int.reduceLT, Int.reduceLE, Int.reduceEq, Int.reduceNe, Int.reduceToNat, Int.reduceNeg, go_sem]
    refine aw_draw2 [⟨false, [], [0, 1, 2]⟩, ⟨false, [0], [0, 1, 2]⟩, ⟨false, [], [0]⟩, ⟨true, [2], [0]⟩, ⟨true, [2, 3], [1]⟩, ⟨true, [0, 1, 2, 3, 4], [2]⟩, ⟨false, [0, 1, 2, 3, 4, 5], [3]⟩, ⟨true, [0, 1, 2, 3, 4, 5, 6], [3]⟩] [A8, A8.upd (A.next + 1) (some (rdB st3)), (A8.upd (A.next + 1) (some (rdB st3))).alloc (.cells [.int .i64 mz] 3 (some 0)), A7, A7.upd (A.next + 2) (some (verB id p v' v''))] 4 (by kernel_rfl) (by kernel_rfl) rfl ?_
    simp (maxSteps := 1000000) (disch := (first | omega | (simp only [nx_alloc, nx_upd, len_cons, len_nil, List.length_set, List.length_map, List.length_append] <;> omega) | fail)) only [Nat.reduceAdd, Nat.reduceSub, Nat.reduceMul, Nat.reduceLT, Nat.reduceLeDiff, Nat.reduceEqDiff, ↓reduceIte, reduceCtorEq, Int.reduceAdd, Int.reduceSub, Int.reduceMul, Int.reduceLT, Int.reduceLE, Int.reduceEq, Int.reduceNe, Int.reduceToNat, Int.reduceNeg, go_sem, g5, g6, hvs6]
    refine ⟨_, hcall2, ?_⟩
    simp (maxSteps := 1000000) (disch := (first | omega | (simp only [nx_alloc, nx_upd, len_cons, len_nil, List.length_set, List.length_map, List.length_append] <;> omega) | fail)) only [Nat.reduceAdd, Nat.reduceSub, Nat.reduceMul, Nat.reduceLT, Nat.reduceLeDiff, Nat.reduceEqDiff, ↓reduceIte, reduceCtorEq, Int.reduceAdd, Int.reduceSub, Int.reduceMul, Int.reduceLT, Int.reduceLE, Int.reduceEq, Int.reduceNe, Int.reduceToNat, Int.reduceNeg, go_sem]
    rw [nx_upd] at hap7
    rw [hap7]
    simp (maxSteps := 1000000) (disch := (first | omega | (simp only [nx_alloc, nx_upd, len_cons, len_nil, List.length_set, List.length_map, List.length_append] <;> omega) | fail)) only [Nat.reduceAdd, Nat.reduceSub, Nat.reduceMul, Nat.reduceLT, Nat.reduceLeDiff, Nat.reduceEqDiff, ↓reduceIte, reduceCtorEq, Int.reduceAdd, Int.reduceSub, Int.reduceMul, Int.reduceLT, Int.reduceLE, Int.reduceEq, Int.reduceNe, Int.reduceToNat, Int.reduceNeg, go_sem, g6, hv7]
    rw [storeC_val hv71]
    simp (maxSteps := 1000000) (disch := (first | omega | (simp only [nx_alloc, nx_upd, len_cons, len_nil, List.length_set, List.length_map, List.length_append] <;> omega) | fail)) only [Nat.reduceAdd, Nat.reduceSub, Nat.reduceMul, Nat.reduceLT, Nat.reduceLeDiff, Nat.reduceEqDiff, ↓reduceIte, reduceCtorEq, Int.reduceAdd, Int.reduceSub, Int.reduceMul, Int.reduceLT, Int.reduceLE, Int.reduceEq, Int.reduceNe, Int.reduceToNat, Int.reduceNeg, go_sem, g34]
    refine ⟨rfl, ?_⟩
    simp (maxSteps := 1000000) (disch := (first | omega | (simp only [nx_alloc, nx_upd, len_cons, len_nil, List.length_set, List.length_map, List.length_append] <;> omega) | fail)) only [Nat.reduceAdd, Nat.reduceSub, Nat.reduceMul, Nat.reduceLT, Nat.reduceLeDiff, Nat.reduceEqDiff, ↓reduceIte, reduceCtorEq, Int.reduceAdd, Int.reduceSub, Int.reduceMul, Int.reduceLT, Int.reduceLE, Int.reduceEq, Int.reduceNe, Int.reduceToNat, Int.reduceNeg, go_sem, g34]
    refine ⟨k - 1, by omega, _, i + 1, N ++ [strOfNums tx], S ++ [mz], st3, v', v'', rfl, by omega, by omega, j7, hrs3, by simp [hNl], by simp [hSl], hpn, ?_, ?_, ?_, ?_, ?_, ?_⟩
    · simp (maxSteps := 1000000) (disch := (first | omega | (simp only [nx_alloc, nx_upd, len_cons, len_nil, List.length_set, List.length_map, List.length_append] <;> omega) | fail)) only [Nat.reduceAdd, Nat.reduceSub, Nat.reduceMul, Nat.reduceLT, Nat.reduceLeDiff, Nat.reduceEqDiff, ↓reduceIte, reduceCtorEq, Int.reduceAdd, Int.reduceSub, Int.reduceMul, Int.reduceLT, Int.reduceLE, Int.reduceEq, Int.reduceNe, Int.reduceToNat, Int.reduceNeg, go_sem, g2]
    · simp (maxSteps := 1000000) (disch := (first | omega | (simp only [nx_alloc, nx_upd, len_cons, len_nil, List.length_set, List.length_map, List.length_append] <;> omega) | fail)) only [Nat.reduceAdd, Nat.reduceSub, Nat.reduceMul, Nat.reduceLT, Nat.reduceLeDiff, Nat.reduceEqDiff, ↓reduceIte, reduceCtorEq, Int.reduceAdd, Int.reduceSub, Int.reduceMul, Int.reduceLT, Int.reduceLE, Int.reduceEq, Int.reduceNe, Int.reduceToNat, Int.reduceNeg, go_sem, g5]
    · simp (maxSteps := 1000000) (disch := (first | omega | (simp only [nx_alloc, nx_upd, len_cons, len_nil, List.length_set, List.length_map, List.length_append] <;> omega) | fail)) only [Nat.reduceAdd, Nat.reduceSub, Nat.reduceMul, Nat.reduceLT, Nat.reduceLeDiff, Nat.reduceEqDiff, ↓reduceIte, reduceCtorEq, Int.reduceAdd, Int.reduceSub, Int.reduceMul, Int.reduceLT, Int.reduceLE, Int.reduceEq, Int.reduceNe, Int.reduceToNat, Int.reduceNeg, go_sem, g6]
    · simp (maxSteps := 1000000) (disch := (first | omega | (simp only [nx_alloc, nx_upd, len_cons, len_nil, List.length_set, List.length_map, List.length_append] <;> omega) | fail)) only [Nat.reduceAdd, Nat.reduceSub, Nat.reduceMul, Nat.reduceLT, Nat.reduceLeDiff, Nat.reduceEqDiff, ↓reduceIte, reduceCtorEq, Int.reduceAdd, Int.reduceSub, Int.reduceMul, Int.reduceLT, Int.reduceLE, Int.reduceEq, Int.reduceNe, Int.reduceToNat, Int.reduceNeg, go_sem, g8]
    · simp (maxSteps := 1000000) (disch := (first | omega | (simp only [nx_alloc, nx_upd, len_cons, len_nil, List.length_set, List.length_map, List.length_append] <;> omega) | fail)) only [Nat.reduceAdd, Nat.reduceSub, Nat.reduceMul, Nat.reduceLT, Nat.reduceLeDiff, Nat.reduceEqDiff, ↓reduceIte, reduceCtorEq, Int.reduceAdd, Int.reduceSub, Int.reduceMul, Int.reduceLT, Int.reduceLE, Int.reduceEq, Int.reduceNe, Int.reduceToNat, Int.reduceNeg, go_sem, g33]
    · simp (maxSteps := 1000000) (disch := (first | omega | (simp only [nx_alloc, nx_upd, len_cons, len_nil, List.length_set, List.length_map, List.length_append] <;> omega) | fail)) only [Nat.reduceAdd, Nat.reduceSub, Nat.reduceMul, Nat.reduceLT, Nat.reduceLeDiff, Nat.reduceEqDiff, ↓reduceIte, reduceCtorEq, Int.reduceAdd, Int.reduceSub, Int.reduceMul, Int.reduceLT, Int.reduceLE, Int.reduceEq, Int.reduceNe, Int.reduceToNat, Int.reduceNeg, go_sem]
      rfl
  have e1 : ¬ ((i : Int) < kk) := by omega
  have hPst : readP r = ((N, S), st) := by rw [← hpn, hend, Nat.sub_self]; rfl
  obtain ⟨rest, e⟩ := st
  have hld0 : loadC (some true) (some 4) (some (.cells [.int .u32 0, .slice none 0 0, .slice none 0 0, .slice none 0 0] 31 (some 0))) 0 = some (.agg #[.int .u32 0, .slice none 0 0, .slice none 0 0, .slice none 0 0]) := by rw [loadC_agg _ _ _ _ _ (by simp), List.drop_zero]; rfl
  have c1 : ∀ v : Value, one1 v = true → cell1 v = true := fun v h => by cases v <;> first | rfl | (simp [one1] at h)
  have hc1 := c1 _ (Row.sing j.rb)
  have hc2 := c1 _ (Row.sing j.rn)
  have hc3 := c1 _ (Row.sing j.rs)
  simp (maxSteps := 1000000) (disch := (first | omega | (simp only [nx_alloc, nx_upd, len_cons, len_nil, List.length_set, List.length_map, List.length_append] <;> omega) | fail)) only [Nat.reduceAdd, Nat.reduceSub, Nat.reduceMul, Nat.reduceLT, Nat.reduceLeDiff, Nat.reduceEqDiff, ↓reduceIte, reduceCtorEq, Int.reduceAdd, Int.reduceSub, Int.reduceMul, Int.reduceLT, Int.reduceLE, Int.reduceEq, Int.reduceNe, Int.reduceToNat, Int.reduceNeg, go_sem, g2, g5, g6, g8, g33, g34, hrd]
  by_cases he : e = 0
  rotate_left
  · have hres : progR r = (V0, [], e) := by unfold progR; rw [hPst]; exact if_pos he
    rw [hres]
    have e2 : ¬ (e = 0) := he
    simp (maxSteps := 1000000) (disch := (first | omega | (simp only [nx_alloc, nx_upd, len_cons, len_nil, List.length_set, List.length_map, List.length_append] <;> omega) | fail)) only [Nat.reduceAdd, Nat.reduceSub, Nat.reduceMul, Nat.reduceLT, Nat.reduceLeDiff, Nat.reduceEqDiff, ↓reduceIte, reduceCtorEq, Int.reduceAdd, Int.reduceSub, Int.reduceMul, Int.reduceLT, Int.reduceLE, Int.reduceEq, Int.reduceNe, Int.reduceToNat, Int.reduceNeg, go_sem, he]
    refine aw_draw2 [⟨false, [], [0]⟩, ⟨false, [], [0, 1]⟩, ⟨false, [1], [0, 1]⟩, ⟨false, [1, 2], [0, 1]⟩, ⟨false, [1, 2, 3], [0, 1]⟩, ⟨true, [0], [0]⟩, ⟨false, [0, 5], [1]⟩, ⟨false, [0, 1, 2, 3, 4, 5, 6], [1]⟩] [A', A'.upd A.next (some (.cells [.int .u32 0, .slice none 0 0, .slice none 0 0, .slice none 0 0] 31 (some 0)))] 1 (by kernel_rfl) (by kernel_rfl) rfl ?_
    simp (maxSteps := 1000000) (disch := (first | omega | (simp only [nx_alloc, nx_upd, len_cons, len_nil, List.length_set, List.length_map, List.length_append] <;> omega) | fail)) only [Nat.reduceAdd, Nat.reduceSub, Nat.reduceMul, Nat.reduceLT, Nat.reduceLeDiff, Nat.reduceEqDiff, ↓reduceIte, reduceCtorEq, Int.reduceAdd, Int.reduceSub, Int.reduceMul, Int.reduceLT, Int.reduceLE, Int.reduceEq, Int.reduceNe, Int.reduceToNat, Int.reduceNeg, go_sem, g5, g2, hrd, hrs0, Try.results20, hld0]
    exact gc_here ⟨_, rfl, j.over.upd (Nat.le_refl _) _, verV0 _ _⟩
  subst he
  have hsm : VerT.small ⟨id, B, N, S⟩ := ⟨by simp only; omega, by simp only; omega, by simp only; omega⟩
  have hmay := may_ok w0 A' ⟨id, B, N, S⟩ _ j.ver hsm
  have hld : loadC (some true) (some 4) (some (.cells [.int .u32 id, p, q, u] 31 (some 0))) 0 = some (.agg #[.int .u32 id, p, q, u]) := by rw [loadC_agg _ _ _ _ _ (by simp), List.drop_zero]; rfl
  simp (maxSteps := 1000000) (disch := (first | omega | (simp only [nx_alloc, nx_upd, len_cons, len_nil, List.length_set, List.length_map, List.length_append] <;> omega) | fail)) only [Nat.reduceAdd, Nat.reduceSub, Nat.reduceMul, Nat.reduceLT, Nat.reduceLeDiff, Nat.reduceEqDiff, ↓reduceIte, reduceCtorEq, Int.reduceAdd, Int.reduceSub, Int.reduceMul, Int.reduceLT, Int.reduceLE, Int.reduceEq, Int.reduceNe, Int.reduceToNat, Int.reduceNeg, go_sem, g6, hvs, hld]
  refine call1 hmay ?_
  have hrv : readVer r = ⟨id, B, N, S⟩ := by unfold readVer; rw [hid, hBv, hPst]
  have hres : progR r = if mayB ⟨id, B, N, S⟩ then (⟨id, B, N, S⟩, rest, 0) else (V0, [], 1) := by unfold progR; rw [hPst, hrv]; exact if_neg (by simp)
  rw [hres]
  cases hm : mayB ⟨id, B, N, S⟩ with
  | false =>
    simp (maxSteps := 1000000) (disch := (first | omega | (simp only [nx_alloc, nx_upd, len_cons, len_nil, List.length_set, List.length_map, List.length_append] <;> omega) | fail)) only [Nat.reduceAdd, Nat.reduceSub, Nat.reduceMul, Nat.reduceLT, Nat.reduceLeDiff, Nat.reduceEqDiff, ↓reduceIte, reduceCtorEq, Int.reduceAdd, Int.reduceSub, Int.reduceMul, Int.reduceLT, Int.reduceLE, Int.reduceEq, Int.reduceNe, Int.reduceToNat, Int.reduceNeg, go_sem, g2, hrs0, Try.results20, hld0]
    exact gc_here ⟨_, rfl, j.over.upd (Nat.le_refl _) _, verV0 _ _⟩
  | true =>
    simp (maxSteps := 1000000) (disch := (first | omega | (simp only [nx_alloc, nx_upd, len_cons, len_nil, List.length_set, List.length_map, List.length_append] <;> omega) | fail)) only [Nat.reduceAdd, Nat.reduceSub, Nat.reduceMul, Nat.reduceLT, Nat.reduceLeDiff, Nat.reduceEqDiff, ↓reduceIte, reduceCtorEq, Int.reduceAdd, Int.reduceSub, Int.reduceMul, Int.reduceLT, Int.reduceLE, Int.reduceEq, Int.reduceNe, Int.reduceToNat, Int.reduceNeg, go_sem]
    refine aw_draw2 [⟨false, [], [0]⟩, ⟨false, [], [0, 1]⟩, ⟨false, [1], [0, 1]⟩, ⟨false, [1, 2], [0, 1]⟩, ⟨false, [1, 2, 3], [0, 1]⟩, ⟨true, [0], [0]⟩, ⟨false, [0, 1, 2, 3, 4, 5], [1]⟩, ⟨false, [0, 1, 2, 3, 4, 5, 6], [1]⟩] [A', A'.upd A.next (some (.cells [.int .u32 id, p, q, u] 31 (some 0)))] 1 (by kernel_rfl) (by kernel_rfl) rfl ?_
    simp (maxSteps := 1000000) (disch := (first | omega | (simp only [nx_alloc, nx_upd, len_cons, len_nil, List.length_set, List.length_map, List.length_append] <;> omega) | fail)) only [Nat.reduceAdd, Nat.reduceSub, Nat.reduceMul, Nat.reduceLT, Nat.reduceLeDiff, Nat.reduceEqDiff, ↓reduceIte, reduceCtorEq, Int.reduceAdd, Int.reduceSub, Int.reduceMul, Int.reduceLT, Int.reduceLE, Int.reduceEq, Int.reduceNe, Int.reduceToNat, Int.reduceNeg, go_sem, g5, g2, g6, hvs, hld, hrd, hrs0, hc1, hc2, hc3, Try.results20]
    exact gc_here ⟨_, rfl, j.over.upd (Nat.le_refl _) _, j.verRes _⟩
end Go.Fw
