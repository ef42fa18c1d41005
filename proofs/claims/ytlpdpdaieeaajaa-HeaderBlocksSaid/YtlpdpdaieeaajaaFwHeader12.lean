import Derived.Test.YtlpdpdaieeaajaaFwHeader11
set_option linter.unusedSimpArgs false
set_option linter.unusedVariables false
namespace Go.Fw
open Go.Proofs Go.RowKit
attribute [local go_sem] List.length_cons List.length_nil Nat.zero_add Nat.add_zero Nat.zero_mul Nat.mul_one Int.toNat_zero Int.toNat_natCast List.map_cons List.map_nil List.map_toArray List.toList_toArray List.append_toArray List.append_eq List.nil_append List.cons_append List.append_nil List.all_toArray List.all_cons List.all_nil Bool.and_true Bool.true_and Bool.and_self List.getElem?_toArray List.getElem?_cons_zero List.getElem?_cons_succ List.set_cons_zero List.set_cons_succ List.drop_zero List.drop_succ_cons List.take_zero List.take_succ_cons Option.bind_some Option.map_some id true_and and_true and_self St.next_alloc St.next_upd beq_self_eq_true Bool.not_true Bool.not_false Bool.false_eq_true false_implies true_implies Option.isNone_none Option.isNone_some Option.isSome_none Option.isSome_some ge_iff_le gt_iff_lt Nat.sub_zero Nat.add_assoc IntWalk.i64_in IntWalk.u64_in IntWalk.u8_in IntWalk.u32_in IntWalk.i32_in IntWalk.u16_in dec_not Bool.not_eq_true decide_true decide_false ne_eq not_true_eq_false not_false_eq_true Bool.true_or Bool.or_true Bool.or_false Bool.false_or Bool.and_false Bool.false_and upd_apply rd_eq ar_zero ar_succ ar_nil tm_size tm_getD tm_set E_tmps E_defers put_E put_none eval_tmp eval_const eval_func setArgs_0 setArgs_1 setArgs_2 append_lit stepV_some stepA_some guardO_true ifB_true ifB_false wantV_true wantV_false wantV_dec_t wantV_dec_f ifB_dec_t ifB_dec_f condV_bool dec_and dec_or isB_bool someB_t someB_f okO_tmp okO_func okO_int okO_bool okO_string okO_ptr0 okO_slice0 okO_nilFunc okO_nilIface okO_map0 okO_agg wanted_none wanted_some lookT_some aopsL_nil aopsL_cons wpA_skip wpA_label wpA_exit wpA_goto wpA_ret wpA_seq wpA_block wpA_region wpA_cond wpA_loop wpA_rangeFunc wpA_draw thenQ_normal thenQ_exit thenQ_ret thenQ_panic blockQ_normal blockQ_ret blockQ_panic blockQ_exit funQ_ret funQ_normal funQ_panic op_move op_assign pickV_or pickV_and pickV_t pickV_f pickV_true pickV_false op_pick allocV_some op_alloc op_box op_load op_nilCheck op_bin op_lookup bptr btype op_un op_convert op_makeInterface op_makeSlice op_fieldAddr op_field op_indexAddr op_index op_extract op_typeAssert storeV_some op_store op_makeMap op_mapUpdate op_slice00 op_slice10 op_slice01 op_slice11 op_slice111 op_slice011 op_makeFunc callV_true op_call op_builtin panicV_iface op_panic ACallV_func ACallF_false ACallF_true ACallV_yield afterCall_returned afterCall_panicked bin_add bin_sub bin_mul bin_and bin_or bin_xor bin_andNot bin_eql bin_neq bin_lss bin_leq bin_gtr bin_geq mval_some mval_none lookup_map lookU_map lookK_smap mapSet_map msetU_map msetK_int conv_to conv_from unsT_cells unsF_cells bin_same bin_nil bdata_nil bdata_some builtin_data builtin_str bin_quo bin_rem bin_shl bin_shr bin_sadd bin_seql bin_sneq bin_slss uB_bool bin_beql bin_bneq uP_pointer bin_peql bin_pneq uS_slice bin_leql bin_lneq bin_ieql bin_ineq un_neg un_xor un_not nilCheck_ptr nilCheck_func nilCheck_yield load_ptr loadC_one loadC_agg store_ptr slice_eq sliceU_string sliceU_slice sliceU_array sliceS_eq boundsS_some sliceL_eq boundsL_nil boundsL_exact boundsL_least boundsL_own boundsL_ownN bounds_11 bounds_10 bounds_01 bounds_00 builtin_len len_string len_array len_slice builtin_append builtin_copy pairA_some builtin_min builtin_max min_two max_two index_eq index_string index_array indexAddr_eq indexAddr_array indexAddr_slice fieldAddr_eq posO_some fAddr_some fieldAddr_struct partC_some field_eq field_struct part_eq partU_one partU_agg extract_tuple conv_eq conv_int conv_string u8O_u8 conv_bytes conv_text_nil conv_text_zero conv_text mkIface_eq get_upd_same consO_some finR_0 finR_1 finR_2 aresL_nil aresL_cons ares1_tmp ares1_cell retV_some aleave_nil aleave_coll bnd_int bnd_bool bnd_string bnd_nilIface bnd_slice0 bnd_iface bnd_slice bnd_ptr bnd_ptr0 bndL_nil bndL_cons bndA_lit bnd_tuple bnd_agg calm_same skipC_eq aopsC_nil aopsC_cons stepC_call stepC_move stepC_assign stepC_pick stepC_alloc stepC_box stepC_build stepC_buildSlice stepC_load stepC_store stepC_nilCheck stepC_binOp stepC_unOp stepC_convert stepC_makeInterface stepC_makeFunc stepC_makeSlice stepC_slice stepC_fieldAddr stepC_field stepC_indexAddr stepC_index stepC_extract stepC_typeAssert stepC_lookup stepC_mapUpdate stepC_makeMap stepC_builtin to_same sameA_eq aopsX_nil aopsX_cons stepX_heavy stepX_light lightK_eq allC_nil allC_cons hs_zero hs_succ stepT_call pure_call stepT_move pure_move stepT_assign pure_assign stepT_pick pure_pick stepT_alloc pure_alloc stepT_box pure_box stepT_build pure_build stepT_buildSlice pure_buildSlice stepT_load pure_load stepT_store pure_store stepT_nilCheck pure_nilCheck stepT_binOp pure_binOp stepT_unOp pure_unOp stepT_convert pure_convert stepT_makeInterface pure_makeInterface stepT_makeFunc pure_makeFunc stepT_makeSlice pure_makeSlice stepT_slice pure_slice stepT_fieldAddr pure_fieldAddr stepT_field pure_field stepT_indexAddr pure_indexAddr stepT_index pure_index stepT_extract pure_extract stepT_typeAssert pure_typeAssert stepT_lookup pure_lookup stepT_mapUpdate pure_mapUpdate stepT_makeMap pure_makeMap stepT_builtin pure_b_len pure_b_append pure_b_copy pure_b_min pure_b_max pure_b_unsafeSliceData pure_b_unsafeString leaveK_eq aleave_fn op_defer deferV_func resK_some defQ_ret defQ_normal storeC_int storeC_bool storeC_string storeC_slice storeC_func storeC_pointer len_cons len_nil cells_int cells_bool cells_string cells_slice cells_pointer cells_func cells_map cells_nilFunc cells_agg cell1_bool cell1_string cell1_slice cell1_pointer cell1_func cell1_i cell1_map cell1_nilFunc setList_nil setList_cons storeC_aggS fillP_nil fillP_cons fillAt_1 fillAt_n aggO_some sliceO_some places_0 places_s zerosR_0 zerosR_s thenElse_true evP_nil evP_cons okP_nil okP_cons op_buildL op_buildSliceL isBu_t isBu_f mk_E get_alloc_old get_alloc_new get_upd_old Try.agg1 Try.sz1 Try.byt1 Try.zero1 Try.agg2 Try.sz2 Try.byt2 Try.zero2 Try.agg3 Try.sz3 Try.byt3 Try.zero3 Try.agg4 Try.sz4 Try.byt4 Try.zero4 Try.agg5 Try.sz5 Try.byt5 Try.zero5 Try.agg6 Try.sz6 Try.byt6 Try.zero6 Try.agg7 Try.sz7 Try.byt7 Try.zero7 Try.agg8 Try.sz8 Try.byt8 Try.zero8 Try.agg9 Try.sz9 Try.byt9 Try.zero9 Try.agg10 Try.sz10 Try.byt10 Try.zero10 Try.agg11 Try.sz11 Try.byt11 Try.zero11 Try.agg12 Try.sz12 Try.byt12 Try.zero12 Try.agg13 Try.sz13 Try.byt13 Try.zero13 Try.agg14 Try.sz14 Try.byt14 Try.zero14 Try.agg15 Try.sz15 Try.byt15 Try.zero15 Try.agg16 Try.sz16 Try.byt16 Try.zero16 Try.agg17 Try.sz17 Try.byt17 Try.zero17 Try.agg18 Try.sz18 Try.byt18 Try.zero18 Try.agg19 Try.sz19 Try.byt19 Try.zero19 Try.agg20 Try.sz20 Try.byt20 Try.zero20 Try.agg21 Try.sz21 Try.byt21 Try.zero21 Try.agg22 Try.sz22 Try.byt22 Try.el22 Try.zero22 Try.agg23 Try.sz23 Try.byt23 Try.zero23 Try.agg24 Try.sz24 Try.byt24 Try.zero24 Try.agg25 Try.sz25 Try.byt25 Try.zero25 Try.agg26 Try.sz26 Try.byt26 Try.zero26 Try.agg27 Try.sz27 Try.byt27 Try.el27 Try.zero27 Try.agg28 Try.sz28 Try.byt28 Try.el28 Try.zero28 Try.agg29 Try.sz29 Try.byt29 Try.el29 Try.zero29 Try.agg30 Try.sz30 Try.byt30 Try.zero30 Try.agg31 Try.sz31 Try.byt31 Try.zero31 Try.agg32 Try.sz32 Try.byt32 Try.zero32 Try.agg33 Try.sz33 Try.byt33 Try.el33 Try.zero33 Try.agg34 Try.sz34 Try.byt34 Try.zero34 Try.agg35 Try.sz35 Try.byt35 Try.zero35 Try.agg36 Try.sz36 Try.byt36 Try.zero36 Try.agg37 Try.sz37 Try.byt37 Try.zero37 Try.agg39 Try.sz39 Try.byt39 Try.zero39 Try.agg40 Try.sz40 Try.byt40 Try.zero40 Try.agg42 Try.sz42 Try.byt42 Try.zero42 Try.agg44 Try.sz44 Try.byt44 Try.zero44 Try.agg45 Try.sz45 Try.byt45 Try.zero45 Try.agg46 Try.sz46 Try.byt46 Try.zero46 Try.agg47 Try.sz47 Try.byt47 Try.el47 Try.zero47 Try.agg48 Try.sz48 Try.byt48 Try.zero48 Try.agg49 Try.sz49 Try.byt49 Try.zero49 Try.agg50 Try.sz50 Try.byt50 Try.zero50 Try.agg51 Try.sz51 Try.byt51 Try.zero51 Try.agg52 Try.sz52 Try.byt52 Try.zero52 Try.agg53 Try.sz53 Try.byt53 Try.zero53 Try.agg54 Try.sz54 Try.byt54 Try.zero54 Try.agg55 Try.sz55 Try.byt55 Try.zero55 Try.agg56 Try.sz56 Try.byt56 Try.zero56 Try.agg57 Try.sz57 Try.byt57 Try.zero57 Try.agg58 Try.sz58 Try.byt58 Try.zero58 Try.agg59 Try.sz59 Try.byt59 Try.zero59 Try.agg60 Try.sz60 Try.byt60 Try.zero60 Try.agg61 Try.sz61 Try.byt61 Try.zero61 Try.agg62 Try.sz62 Try.byt62 Try.zero62 Try.agg63 Try.sz63 Try.byt63 Try.zero63 Try.agg64 Try.sz64 Try.byt64 Try.zero64 Try.agg65 Try.sz65 Try.byt65 Try.zero65 Try.agg66 Try.sz66 Try.byt66 Try.zero66 Try.agg67 Try.sz67 Try.byt67 Try.zero67 Try.agg69 Try.sz69 Try.byt69 Try.zero69 Try.agg70 Try.sz70 Try.byt70 Try.zero70 Try.agg72 Try.sz72 Try.byt72 Try.zero72 Try.agg74 Try.sz74 Try.byt74 Try.zero74 Try.agg75 Try.sz75 Try.byt75 Try.zero75 Try.agg76 Try.sz76 Try.byt76 Try.zero76 Try.agg77 Try.sz77 Try.byt77 Try.zero77 Try.agg78 Try.sz78 Try.byt78 Try.zero78 Try.agg79 Try.sz79 Try.byt79 Try.zero79 Try.agg80 Try.sz80 Try.byt80 Try.zero80 Try.agg81 Try.sz81 Try.byt81 Try.zero81 Try.agg82 Try.sz82 Try.byt82 Try.zero82 Try.agg83 Try.sz83 Try.byt83 Try.zero83 Try.agg84 Try.sz84 Try.byt84 Try.zero84 Try.agg85 Try.sz85 Try.byt85 Try.zero85 Try.agg86 Try.sz86 Try.byt86 Try.zero86 Try.agg88 Try.sz88 Try.byt88 Try.zero88 Try.agg89 Try.sz89 Try.byt89 Try.zero89 Try.agg90 Try.sz90 Try.byt90 Try.zero90 Try.agg91 Try.sz91 Try.byt91 Try.zero91 Try.agg92 Try.sz92 Try.byt92 Try.zero92 Try.agg93 Try.sz93 Try.byt93 Try.zero93 Try.agg94 Try.sz94 Try.byt94 Try.zero94 Try.agg95 Try.sz95 Try.byt95 Try.zero95 Try.agg96 Try.sz96 Try.byt96 Try.zero96 Try.agg97 Try.sz97 Try.byt97 Try.zero97 Try.agg98 Try.sz98 Try.byt98 Try.zero98 Try.agg99 Try.sz99 Try.byt99 Try.zero99 Try.agg100 Try.sz100 Try.byt100 Try.zero100 Try.agg101 Try.sz101 Try.byt101 Try.zero101 Try.agg102 Try.sz102 Try.byt102 Try.zero102 Try.body0 Try.body1 Try.body2 Try.body3 Try.body4 Try.body5 Try.body6 Try.body7 Try.body8 Try.body9 Try.body10 Try.body11 Try.body12 Try.body13 Try.body14 Try.body15 Try.body16 Try.body17 Try.body18 Try.body19 Try.body20 Try.body21 Try.body22 Try.body23 Try.body24 Try.body25 Try.body26 Try.body27 Try.body28 Try.body29 Try.body30 Try.body31 Try.body32 Try.body33 Try.body34 Try.body35 Try.body36 Try.body37 Try.body38 Try.body39 Try.body40 Try.body41 Try.body42 Try.body43 Try.body44 Try.body45 Try.body46 Try.body47 Try.body48 Try.body49 Try.body50 Try.body51 Try.body52 Try.body53 Try.body54 Try.body55 Try.body56 Try.body57 Try.body58 Try.body59 Try.body60 Try.body61 Try.body62 Try.body63 Try.body64 Try.body65 Try.body66 Try.body67 Try.body68 Try.body69 Try.body70 Try.body71 Try.body72 Try.build7 Try.build8 Try.build13 Try.build14 Try.build18 Try.build19 Try.bsl22 Try.bsl27 Try.bsl28 Try.bsl29 Try.build30 Try.build31 Try.bsl33 Try.bsl47 Try.build48 Try.build49 Try.build62 Try.build63 Try.build88 Try.build89 Try.build91 Try.build92 Try.build100 Try.build101 Try.underlying1 Try.underlying2 Try.underlying3 Try.underlying4 Try.underlying5 Try.underlying6 Try.underlying7 Try.underlying8 Try.underlying9 Try.underlying10 Try.underlying11 Try.underlying12 Try.underlying13 Try.underlying14 Try.underlying15 Try.underlying16 Try.underlying17 Try.underlying18 Try.underlying19 Try.underlying20 Try.underlying21 Try.underlying22 Try.underlying23 Try.underlying24 Try.underlying25 Try.underlying26 Try.underlying27 Try.underlying28 Try.underlying29 Try.underlying30 Try.underlying31 Try.underlying32 Try.underlying33 Try.underlying34 Try.underlying35 Try.underlying36 Try.underlying37 Try.underlying39 Try.underlying40 Try.underlying42 Try.underlying44 Try.underlying45 Try.underlying46 Try.underlying47 Try.underlying48 Try.underlying49 Try.underlying50 Try.underlying51 Try.underlying52 Try.underlying53 Try.underlying54 Try.underlying55 Try.underlying56 Try.underlying57 Try.underlying58 Try.underlying59 Try.underlying60 Try.underlying61 Try.underlying62 Try.underlying63 Try.underlying64 Try.underlying65 Try.underlying66 Try.underlying67 Try.underlying69 Try.underlying70 Try.underlying72 Try.underlying74 Try.underlying75 Try.underlying76 Try.underlying77 Try.underlying78 Try.underlying79 Try.underlying80 Try.underlying81 Try.underlying82 Try.underlying83 Try.underlying84 Try.underlying85 Try.underlying86 Try.underlying88 Try.underlying89 Try.underlying90 Try.underlying91 Try.underlying92 Try.underlying93 Try.underlying94 Try.underlying95 Try.underlying96 Try.underlying97 Try.underlying98 Try.underlying99 Try.underlying100 Try.underlying101 Try.underlying102
/-! What was encoded is read; its beginnings are too short; what is read was encoded. -/
theorem foldl_be (l : List Int) : ∀ n : Int, l.foldl (fun n c => n * 256 + c) n = n * 256 ^ l.length + l.foldl (fun n c => n * 256 + c) 0 := by
  induction l with
  | nil => intro n; simp
  | cons c l ih =>
    intro n
    rw [List.foldl_cons, List.foldl_cons, ih (n * 256 + c), ih (0 * 256 + c), List.length_cons, Int.pow_succ, Int.zero_mul, Int.zero_add, Int.add_mul, Int.mul_assoc, Int.mul_comm 256]
    omega
theorem beN_big (n : Nat) : ∀ i, beN (bigL n i) = ((n % 256 ^ i : Nat) : Int)
  | 0 => by
    have : n % 256 ^ 0 = 0 := by rw [Nat.pow_zero, Nat.mod_one]
    rw [this]; rfl
  | i + 1 => by
    have h := beN_big n i
    unfold beN at h ⊢
    rw [bigL, List.foldl_cons, foldl_be, h, bigL_length, Int.zero_mul, Int.zero_add, Nat.pow_succ, Nat.mod_mul, Int.natCast_add, Int.natCast_mul, Int.natCast_pow, Int.mul_comm, Int.add_comm]
    rfl
theorem beN_inj : ∀ (n : Nat) (l m : List Int), l.length = n → m.length = n → (∀ x ∈ l, Byte x) → (∀ x ∈ m, Byte x) → beN l = beN m → l = m := by
  intro n
  induction n with
  | zero => intro l m h1 h2 _ _ _; rw [List.eq_nil_of_length_eq_zero h1, List.eq_nil_of_length_eq_zero h2]
  | succ n ih =>
    intro l m h1 h2 hl hm e
    have hne : l ≠ [] := by intro h0; rw [h0] at h1; simp at h1
    have hne2 : m ≠ [] := by intro h0; rw [h0] at h2; simp at h2
    obtain ⟨l', c, rfl⟩ : ∃ l' c, l = l' ++ [c] := ⟨l.dropLast, l.getLast hne, (List.dropLast_concat_getLast hne).symm⟩
    obtain ⟨m', d, rfl⟩ : ∃ l' c, m = l' ++ [c] := ⟨m.dropLast, m.getLast hne2, (List.dropLast_concat_getLast hne2).symm⟩
    rw [beN_snoc, beN_snoc] at e
    have hc := hl c (by simp)
    have hd := hm d (by simp)
    unfold Byte at hc hd
    have e1 : c = d := by omega
    have e2 : beN l' = beN m' := by omega
    rw [e1, ih l' m' (by simpa using h1) (by simpa using h2) (fun x hx => hl x (List.mem_append_left _ hx)) (fun x hx => hm x (List.mem_append_left _ hx)) e2]
/-- A beginning of two parts. -/
theorem app_cut {α : Type} {a b q u : List α} (h : a ++ b = q ++ u) (hu : u ≠ []) : (∃ q', q = a ++ q' ∧ b = q' ++ u) ∨ (∃ u', u' ≠ [] ∧ a = q ++ u') := by
  rcases List.append_eq_append_iff.1 h with ⟨c, h1, h2⟩ | ⟨c, h1, h2⟩
  · exact .inl ⟨c, h1, h2⟩
  · by_cases hc : c = []
    · subst hc; exact .inl ⟨[], by simpa using h1.symm, by simpa using h2.symm⟩
    · exact .inr ⟨c, hc, h1⟩
theorem getL_fw (m : Nat) (t : List Int) (hm : m < 18446744073709551616) : getL 10 0 0 (enc m ++ t) = ((m : Int), t, 0) := by
  have := getL_enc m 10 0 0 t rfl (by omega) (by omega) (by simpa using hm)
  simpa using this
theorem getL_cut {m : Nat} (hm : m < 16384) {q u : List Int} (hu : u ≠ []) (h : enc m = q ++ u) : (getL 10 0 0 q).2.2 = 40 := by
  have hl : (enc m).length = q.length + u.length := by rw [h, List.length_append]
  have h2 : (enc m).length ≤ 2 := enc_len 1 m (by omega)
  have hu1 : 0 < u.length := List.length_pos_iff.2 hu
  by_cases hq : q = []
  · subst hq; rfl
  · have hq1 : 0 < q.length := List.length_pos_iff.2 hq
    obtain ⟨y, rfl⟩ : ∃ y, u = [y] := List.length_eq_one_iff.1 (by omega)
    have := getL_short m 10 0 0 rfl (by omega) (by omega) (by simp; omega)
    rw [h, List.dropLast_concat] at this
    rw [this]
theorem manyS_fw {most : Int} {m : Nat} (t : List Int) (hm : (m : Int) ≤ most) (h2 : m < 18446744073709551616) : manyS most (enc m ++ t, 0) = ((m : Int), (t, 0)) := by
  unfold manyS; rw [if_neg (by simp), getL_fw m t h2]
  simp only
  rw [if_neg (by omega)]; simp
theorem manyS_cut {most : Int} {m : Nat} (hm : m < 16384) {q u : List Int} (hu : u ≠ []) (h : enc m = q ++ u) : (manyS most (q, 0)).2.2 = 40 := by
  have := getL_cut hm hu h
  unfold manyS; rw [if_neg (by simp), if_neg (by rw [this]; simp), this]
theorem manyS_inv {most : Int} {s : RS} (hb : ∀ x ∈ s.1, Byte x) (h : (manyS most s).2.2 = 0) : s.2 = 0 ∧ ∃ (m : Nat) (t : List Int), manyS most s = ((m : Int), (t, 0)) ∧ s.1 = enc m ++ t ∧ (m : Int) ≤ most ∧ ∀ x ∈ t, Byte x := by
  obtain ⟨r, e⟩ := s
  by_cases he : e = 0
  rotate_left
  · rw [manyS_err he] at h; exact absurd h he
  subst he
  rcases hg : getL 10 0 0 r with ⟨n, t, e⟩
  obtain ⟨g1, g2, g3, g4, _⟩ := getL_facts _ hb n t e hg
  unfold manyS at h ⊢
  rw [if_neg (by simp), hg] at h ⊢
  simp only at h ⊢
  by_cases hm : e = 0 ∧ n > most
  · rw [if_pos hm] at h; cases h
  rw [if_neg hm] at h ⊢
  simp only at h
  subst h
  obtain ⟨m, h1, h2, _, _⟩ := getL_inv 10 0 0 r n t rfl hb hg
  have h2' : n = (m : Int) := by simpa using h2
  subst h2'
  refine ⟨trivial, m, t, by simp, h1, by have := fun h => hm ⟨rfl, h⟩; omega, g3⟩
theorem textS_fw {x : List Int} (t : List Int) (hx : x.length < 18446744073709551616) : textS (enc x.length ++ (x ++ t), 0) = (x, (t, 0)) := by
  unfold textS readL
  rw [if_neg (by simp), getL_fw _ _ hx]
  have h1 : ¬ ((x.length : Int) > ((x ++ t).length : Int)) := by rw [List.length_append]; omega
  simp only
  rw [if_neg (by simp), if_neg h1, Int.toNat_natCast, List.take_left, List.drop_left]
theorem textS_cut {x q u : List Int} (hx : x.length < 16384) (hu : u ≠ []) (h : enc x.length ++ x = q ++ u) : (textS (q, 0)).2.2 = 40 := by
  unfold textS readL
  rw [if_neg (by simp)]
  rcases app_cut h hu with ⟨q', rfl, h2⟩ | ⟨u', hu', h2⟩
  · rw [getL_fw _ _ (by omega)]
    have : x.length = q'.length + u.length := by rw [h2, List.length_append]
    have hu1 : 0 < u.length := List.length_pos_iff.2 hu
    simp only
    rw [if_neg (by simp), if_pos (by omega)]
  · have := getL_cut hx hu' h2
    simp [this]
theorem textS_inv {s : RS} (hb : ∀ x ∈ s.1, Byte x) (h : (textS s).2.2 = 0) : s.2 = 0 ∧ ∃ x t, textS s = (x, (t, 0)) ∧ s.1 = enc x.length ++ (x ++ t) ∧ (∀ y ∈ x, Byte y) ∧ ∀ y ∈ t, Byte y := by
  obtain ⟨r, e⟩ := s
  by_cases he : e = 0
  rotate_left
  · rw [textS_err he] at h; exact absurd h he
  subst he
  rcases hg : getL 10 0 0 r with ⟨n, t, e⟩
  obtain ⟨g1, g2, g3, g4, _⟩ := getL_facts _ hb n t e hg
  unfold textS readL at h ⊢
  rw [if_neg (by simp), hg] at h ⊢
  simp only at h ⊢
  by_cases h1 : e ≠ 0
  · rw [if_pos h1] at h; exact absurd h h1
  rw [if_neg h1] at h ⊢
  have h1 : e = 0 := by omega
  subst h1
  by_cases h2 : n > (t.length : Int)
  · rw [if_pos h2] at h; cases h
  rw [if_neg h2]
  obtain ⟨m, h3, h4, _, _⟩ := getL_inv 10 0 0 r n t rfl hb hg
  have h4' : n = (m : Int) := by simpa using h4
  subst h4'
  have hl : (t.take m).length = m := by rw [List.length_take]; omega
  refine ⟨trivial, t.take m, t.drop m, rfl, by rw [hl, List.take_append_drop]; exact h3, fun y hy => g3 y (List.mem_of_mem_take hy), fun y hy => g3 y (List.mem_of_mem_drop hy)⟩
theorem hashS_fw (h : HashT) (t : List Int) : hashS (h.1 ++ t, 0) = (h, (t, 0)) := by
  have hl := h.2
  unfold hashS
  rw [if_neg (by simp), dif_pos (by simp; omega)]
  have e1 : (h.1 ++ t).take 32 = h.1 := List.take_left' hl
  have e2 : (h.1 ++ t).drop 32 = t := List.drop_left' hl
  exact Prod.ext (Subtype.ext e1) (Prod.ext e2 rfl)
theorem hashS_cut {h : HashT} {q u : List Int} (hu : u ≠ []) (he : h.1 = q ++ u) : (hashS (q, 0)).2.2 = 40 := by
  have hu1 : 0 < u.length := List.length_pos_iff.2 hu
  have : q.length + u.length = 32 := by rw [← List.length_append, ← he]; exact h.2
  unfold hashS
  rw [if_neg (by simp), dif_neg (by simp only; omega)]
theorem hashS_inv {s : RS} (hb : ∀ x ∈ s.1, Byte x) (h : (hashS s).2.2 = 0) : s.2 = 0 ∧ ∃ (x : HashT) (t : List Int), hashS s = (x, (t, 0)) ∧ s.1 = x.1 ++ t ∧ (∀ y ∈ x.1, Byte y) ∧ ∀ y ∈ t, Byte y := by
  obtain ⟨r, e⟩ := s
  by_cases he : e = 0
  rotate_left
  · rw [hashS_err he] at h; exact absurd h he
  subst he
  by_cases h32 : 32 ≤ r.length
  rotate_left
  · unfold hashS at h; rw [if_neg (by simp), dif_neg h32] at h; cases h
  unfold hashS
  rw [if_neg (by simp), dif_pos h32]
  refine ⟨rfl, _, _, rfl, (List.take_append_drop 32 r).symm, fun y hy => hb y (List.mem_of_mem_take hy), fun y hy => hb y (List.mem_of_mem_drop hy)⟩
theorem hashN_fw : ∀ (l : List HashT) (t : List Int) (acc : List HashT), hashN l.length (blkL l ++ t, 0) acc = (acc ++ l, (t, 0))
  | [], t, acc => by simp [hashN, blkL]
  | h :: l, t, acc => by
    rw [List.length_cons, hashN, show blkL (h :: l) ++ t = h.1 ++ (blkL l ++ t) by simp [blkL], hashS_fw]
    rw [hashN_fw l t]
    simp
theorem hashN_cut : ∀ (l : List HashT) (q u : List Int) (acc : List HashT), u ≠ [] → blkL l = q ++ u → (hashN l.length (q, 0) acc).2.2 = 40
  | [], q, u, acc, hu, h => by
    have := congrArg List.length h
    have hu1 : 0 < u.length := List.length_pos_iff.2 hu
    simp [blkL] at this; omega
  | x :: l, q, u, acc, hu, h => by
    rw [show blkL (x :: l) = x.1 ++ blkL l by simp [blkL]] at h
    rw [List.length_cons, hashN]
    rcases app_cut h hu with ⟨q', rfl, h2⟩ | ⟨u', hu', h2⟩
    · rw [hashS_fw]; exact hashN_cut l q' u _ hu h2
    · have := hashS_cut hu' h2
      rw [hashN_err _ _ _ (by rw [this]; simp), this]
theorem hashN_inv : ∀ (k : Nat) (s : RS) (acc : List HashT), (∀ x ∈ s.1, Byte x) → (hashN k s acc).2.2 = 0 → s.2 = 0 ∧ ∃ l t, hashN k s acc = (acc ++ l, (t, 0)) ∧ s.1 = blkL l ++ t ∧ l.length = k ∧ (∀ h ∈ l, ∀ x ∈ h.1, Byte x) ∧ ∀ y ∈ t, Byte y
  | 0, s, acc, hb, h => ⟨h, [], s.1, by rw [List.append_nil]; exact Prod.ext rfl (Prod.ext rfl h), by simp [blkL], rfl, fun h hh => (by cases hh), hb⟩
  | k + 1, s, acc, hb, h => by
    rw [hashN] at h ⊢
    have hz : (hashS s).2.2 = 0 := by
      apply Classical.byContradiction
      intro hne; rw [hashN_err _ _ _ hne] at h; exact hne h
    obtain ⟨h0, x, t, h1, h2, h3, h4⟩ := hashS_inv hb hz
    rw [h1] at h ⊢
    obtain ⟨_, l, t2, g1, g2, g3, g4, g5⟩ := hashN_inv k (t, 0) (acc ++ [x]) h4 h
    refine ⟨h0, x :: l, t2, by rw [g1]; simp, ?_, by simp [g3], ?_, g5⟩
    · rw [h2, show t = blkL l ++ t2 from g2]; simp [blkL]
    · intro y hy
      rcases List.mem_cons.1 hy with rfl | hy
      · exact h3
      · exact g4 y hy
def okPr (p : ByteArray × Int) : Prop := p.1.size < 16384 ∧ 0 ≤ p.2 ∧ p.2 ≤ 300
theorem namL_cons (p : ByteArray × Int) (l : List (ByteArray × Int)) : namL (p :: l) = enc p.1.size ++ nums p.1 ++ (enc p.2.toNat ++ namL l) := by simp [namL]
theorem pairN_fw : ∀ (l : List (ByteArray × Int)) (t : List Int) (a : List ByteArray) (b : List Int), (∀ p ∈ l, okPr p) → pairN l.length (namL l ++ t, 0) a b = ((a ++ l.map (·.1), b ++ l.map (·.2)), (t, 0))
  | [], t, a, b, _ => by simp [pairN, namL]
  | p :: l, t, a, b, h => by
    obtain ⟨h1, h2, h3⟩ := h p (List.mem_cons_self ..)
    have e1 : namL (p :: l) ++ t = enc (nums p.1).length ++ (nums p.1 ++ (enc p.2.toNat ++ (namL l ++ t))) := by rw [namL_cons, nums_length]; simp
    rw [List.length_cons, pairN, e1, textS_fw _ (by rw [nums_length]; omega)]
    rw [manyS_fw _ (by omega) (by omega)]
    simp only
    rw [pairN_fw l t _ _ (fun p hp => h p (List.mem_cons_of_mem _ hp)), str_nums, show ((p.2.toNat : Nat) : Int) = p.2 by omega]
    simp
theorem pairN_cut : ∀ (l : List (ByteArray × Int)) (q u : List Int) (a : List ByteArray) (b : List Int), (∀ p ∈ l, okPr p) → u ≠ [] → namL l = q ++ u → (pairN l.length (q, 0) a b).2.2 = 40
  | [], q, u, a, b, _, hu, h => by
    have := congrArg List.length h
    have hu1 : 0 < u.length := List.length_pos_iff.2 hu
    simp [namL] at this; omega
  | p :: l, q, u, a, b, hok, hu, h => by
    obtain ⟨h1, h2, h3⟩ := hok p (List.mem_cons_self ..)
    rw [namL_cons] at h
    rw [List.length_cons, pairN]
    rcases app_cut h hu with ⟨q', rfl, h2⟩ | ⟨u', hu', h2⟩
    · rw [show enc p.1.size ++ nums p.1 ++ q' = enc (nums p.1).length ++ (nums p.1 ++ q') by rw [nums_length]; simp, textS_fw _ (by rw [nums_length]; omega)]
      simp only
      rcases app_cut h2 hu with ⟨q2, rfl, h3⟩ | ⟨u', hu', h3⟩
      · rw [manyS_fw _ (by omega) (by omega)]
        exact pairN_cut l q2 u _ _ (fun p hp => hok p (List.mem_cons_of_mem _ hp)) hu h3
      · have := manyS_cut (most := 300) (by omega) hu' h3
        rw [pairN_err _ _ _ _ (by rw [this]; simp), this]
    · have := textS_cut (by rw [nums_length]; omega) hu' (by rw [nums_length]; exact h2)
      rw [manyS_err (by rw [this]; simp), pairN_err _ _ _ _ (by simp only; rw [this]; simp), this]
theorem pairN_inv : ∀ (k : Nat) (s : RS) (a : List ByteArray) (b : List Int), (∀ x ∈ s.1, Byte x) → (pairN k s a b).2.2 = 0 → s.2 = 0 ∧ ∃ l t, pairN k s a b = ((a ++ l.map (·.1), b ++ l.map (·.2)), (t, 0)) ∧ s.1 = namL l ++ t ∧ l.length = k ∧ ∀ y ∈ t, Byte y
  | 0, s, a, b, hb, h => ⟨h, [], s.1, by rw [List.map_nil, List.map_nil, List.append_nil, List.append_nil]; exact Prod.ext rfl (Prod.ext rfl h), by simp [namL], rfl, hb⟩
  | k + 1, s, a, b, hb, h => by
    rw [pairN] at h ⊢
    have hz : (manyS 300 (textS s).2).2.2 = 0 := by
      apply Classical.byContradiction
      intro hne; rw [pairN_err _ _ _ _ hne] at h; exact hne h
    have hz2 : (textS s).2.2 = 0 := by
      apply Classical.byContradiction
      intro hne; rw [manyS_err hne] at hz; exact hne hz
    obtain ⟨h0, x, t, h1, h2, h3, h4⟩ := textS_inv hb hz2
    rw [h1] at h hz ⊢
    simp only at h hz ⊢
    obtain ⟨_, m, t2, g1, g2, g3, g4⟩ := manyS_inv h4 hz
    rw [g1] at h ⊢
    obtain ⟨_, l, t3, k1, k2, k3, k4⟩ := pairN_inv k (t2, 0) (a ++ [strOfNums x]) (b ++ [(m : Int)]) g4 h
    refine ⟨h0, (strOfNums x, (m : Int)) :: l, t3, by rw [k1]; simp, ?_, by simp [k3], k4⟩
    rw [namL_cons, h2, show t = enc m ++ t2 from g2, show t2 = namL l ++ t3 from k2, nums_str h3, str_size]
    simp
theorem idS_fw {n : Int} (h0 : 0 ≤ n) (h1 : n < 4294967296) (t : List Int) : idS (bigL n.toNat 4 ++ t, 0) = (n, (t, 0)) := by
  have hl := bigL_length n.toNat 4
  unfold idS fixL
  rw [if_neg (by omega), if_neg (by simp only [List.length_append]; omega)]
  have e1 : (bigL n.toNat 4 ++ t).take 4 = bigL n.toNat 4 := List.take_left' hl
  have e2 : (bigL n.toNat 4 ++ t).drop 4 = t := List.drop_left' hl
  show (beN ((bigL n.toNat 4 ++ t).take 4), ((bigL n.toNat 4 ++ t).drop 4, (0 : Int))) = _
  rw [e1, e2, beN_big]
  have : ((n.toNat % 256 ^ 4 : Nat) : Int) = n := by omega
  rw [this]
theorem idS_cut {m : Nat} {q u : List Int} (hu : u ≠ []) (he : bigL m 4 = q ++ u) : (idS (q, 0)).2.2 = 40 := by
  have hu1 : 0 < u.length := List.length_pos_iff.2 hu
  have : q.length + u.length = 4 := by rw [← List.length_append, ← he]; exact bigL_length _ _
  unfold idS fixL
  rw [if_neg (by omega), if_pos (by simp only; omega)]
theorem idS_inv {r : List Int} (hb : ∀ x ∈ r, Byte x) (h : (idS (r, 0)).2.2 = 0) : ∃ (n : Int) (t : List Int), idS (r, 0) = (n, (t, 0)) ∧ r = bigL n.toNat 4 ++ t ∧ 0 ≤ n ∧ n < 4294967296 ∧ ∀ x ∈ t, Byte x := by
  unfold idS fixL at h ⊢
  rw [if_neg (by omega)] at h ⊢
  by_cases hl : (r.length : Int) < 4
  · rw [if_pos hl] at h; cases h
  rw [if_neg hl]
  have hl4 : (r.take 4).length = 4 := by rw [List.length_take]; omega
  obtain ⟨b0, b1⟩ := beN_lt 4 (r.take 4) hl4 (fun x hx => hb x (List.mem_of_mem_take hx))
  have b1 : beN (r.take 4) < 4294967296 := b1
  refine ⟨beN (r.take 4), r.drop 4, rfl, ?_, b0, b1, fun x hx => hb x (List.mem_of_mem_drop hx)⟩
  have : bigL (beN (r.take 4)).toNat 4 = r.take 4 := by
    refine beN_inj 4 _ _ (bigL_length _ _) hl4 (bigL_byte _ _) (fun x hx => hb x (List.mem_of_mem_take hx)) ?_
    rw [beN_big]; omega
  rw [this, List.take_append_drop]
theorem mayF {V : VerT} (h : mayB V = true) : V.names.length ≤ 12 ∧ V.names.length = V.sizes.length ∧ V.blocks.length ≤ 15 ∧ ∀ p ∈ V.names.zip V.sizes, okPr p := by
  obtain ⟨h1, h2, h3, h4⟩ := (may_iff V).1 h
  have h5 := sumSz_le V.sizes
  unfold blocksN at h3
  refine ⟨h1, h2, by omega, fun p hp => ?_⟩
  obtain ⟨i, hi⟩ := List.mem_iff_getElem?.1 hp
  obtain ⟨nm, sz⟩ := p
  rw [List.getElem?_zip_eq_some] at hi
  obtain ⟨hx, hy⟩ := hi
  have hlt : i < V.names.length := (List.getElem?_eq_some_iff.1 hx).1
  obtain ⟨o1, o2, o3, o4, _⟩ := h4 i hlt
  rw [nmN_at hx] at o1 o2
  rw [szN_at hy] at o3 o4
  simp only at o1 o2
  exact ⟨by show nm.size < 16384; omega, o3, o4⟩
theorem encV_parts (V : VerT) (t : List Int) : encV V ++ t = bigL V.id.toNat 4 ++ (enc V.blocks.length ++ (blkL V.blocks ++ (enc V.names.length ++ (namL (V.names.zip V.sizes) ++ t)))) := by
  unfold encV; simp
theorem progR_fw {V : VerT} (hk : V.ok) (hm : mayB V = true) (t : List Int) : progR (encV V ++ t) = (V, t, 0) := by
  obtain ⟨m1, m2, m3, m4⟩ := mayF hm
  obtain ⟨k1, k2, _⟩ := hk
  rw [encV_parts]
  generalize hr : bigL V.id.toNat 4 ++ (enc V.blocks.length ++ (blkL V.blocks ++ (enc V.names.length ++ (namL (V.names.zip V.sizes) ++ t)))) = r
  have eI : readI r = (V.id, (enc V.blocks.length ++ (blkL V.blocks ++ (enc V.names.length ++ (namL (V.names.zip V.sizes) ++ t))), 0)) := by rw [← hr]; exact idS_fw k1 k2 _
  have eN : readN r = ((V.blocks.length : Int), (blkL V.blocks ++ (enc V.names.length ++ (namL (V.names.zip V.sizes) ++ t)), 0)) := by unfold readN; rw [eI]; exact manyS_fw _ (by omega) (by omega)
  have eB : readB r = (V.blocks, (enc V.names.length ++ (namL (V.names.zip V.sizes) ++ t), 0)) := by unfold readB; rw [eN]; exact hashN_fw _ _ []
  have eK : readK r = ((V.names.length : Int), (namL (V.names.zip V.sizes) ++ t, 0)) := by unfold readK; rw [eB]; exact manyS_fw _ (by omega) (by omega)
  have hz : (V.names.zip V.sizes).length = V.names.length := by rw [List.length_zip]; omega
  have eP : readP r = ((V.names, V.sizes), (t, 0)) := by
    unfold readP; rw [eK]
    have := pairN_fw (V.names.zip V.sizes) t [] [] m4
    rw [hz, List.map_fst_zip (by omega), List.map_snd_zip (by omega)] at this
    exact this
  have eV : readVer r = V := by unfold readVer; rw [eI, eB, eP]
  unfold progR
  rw [eP, eV, if_neg (by simp), if_pos hm]
theorem progR_cut {V : VerT} (hk : V.ok) (hm : mayB V = true) {q u : List Int} (hu : u ≠ []) (h : encV V = q ++ u) : (progR q).2.2 = 40 := by
  obtain ⟨m1, m2, m3, m4⟩ := mayF hm
  obtain ⟨k1, k2, _⟩ := hk
  have hz : (V.names.zip V.sizes).length = V.names.length := by rw [List.length_zip]; omega
  rw [show encV V = encV V ++ [] by simp, encV_parts, List.append_nil] at h
  rcases app_cut h hu with ⟨q1, rfl, h1⟩ | ⟨u', hu', h1⟩
  rotate_left
  · have e := idS_cut hu' h1
    rw [progR_eI (by unfold readI; rw [e]; simp)]; exact e
  have eI : readI (bigL V.id.toNat 4 ++ q1) = (V.id, (q1, 0)) := idS_fw k1 k2 _
  generalize bigL V.id.toNat 4 ++ q1 = r at *
  rcases app_cut h1 hu with ⟨q2, rfl, h2⟩ | ⟨u', hu', h2⟩
  rotate_left
  · have e : (readN r).2.2 = 40 := by unfold readN; rw [eI]; exact manyS_cut (by omega) hu' h2
    rw [progR_eN (by rw [e]; simp)]; exact e
  have eN : readN r = ((V.blocks.length : Int), (q2, 0)) := by unfold readN; rw [eI]; exact manyS_fw _ (by omega) (by omega)
  rcases app_cut h2 hu with ⟨q3, rfl, h3⟩ | ⟨u', hu', h3⟩
  rotate_left
  · have e : (readB r).2.2 = 40 := by unfold readB; rw [eN]; exact hashN_cut _ _ _ _ hu' h3
    rw [progR_eB (by rw [e]; simp)]; exact e
  have eB : readB r = (V.blocks, (q3, 0)) := by unfold readB; rw [eN]; exact hashN_fw _ _ []
  rcases app_cut h3 hu with ⟨q4, rfl, h4⟩ | ⟨u', hu', h4⟩
  rotate_left
  · have e : (readK r).2.2 = 40 := by unfold readK; rw [eB]; exact manyS_cut (by omega) hu' h4
    rw [progR_eK (by rw [e]; simp)]; exact e
  have eK : readK r = ((V.names.length : Int), (q4, 0)) := by unfold readK; rw [eB]; exact manyS_fw _ (by omega) (by omega)
  have e : (readP r).2.2 = 40 := by
    unfold readP; rw [eK]
    have := pairN_cut (V.names.zip V.sizes) q4 u [] [] m4 hu h4
    rw [hz] at this
    exact this
  rw [progR_eP (by rw [e]; simp)]; exact e
theorem progR_inv {r : List Int} (hb : ∀ x ∈ r, Byte x) (h : (progR r).2.2 = 0) : mayB (progR r).1 = true ∧ (progR r).1.ok ∧ r = encV (progR r).1 ++ (progR r).2.1 ∧ ∀ x ∈ (progR r).2.1, Byte x := by
  have zP : (readP r).2.2 = 0 := by
    apply Classical.byContradiction
    intro hne; rw [progR_eP hne] at h; exact hne h
  have zK : (readK r).2.2 = 0 := by
    apply Classical.byContradiction
    intro hne; rw [readP_eK hne] at zP; exact hne zP
  have zB : (readB r).2.2 = 0 := by
    apply Classical.byContradiction
    intro hne; rw [readK_eB hne] at zK; exact hne zK
  have zN : (readN r).2.2 = 0 := by
    apply Classical.byContradiction
    intro hne; rw [readB_eN hne] at zB; exact hne zB
  have zI : (readI r).2.2 = 0 := by
    apply Classical.byContradiction
    intro hne; rw [readN_eI hne] at zN; exact hne zN
  obtain ⟨id, t1, eI, h1, i0, i1, b1⟩ := idS_inv hb zI
  have eI : readI r = (id, (t1, 0)) := eI
  have eN0 : readN r = manyS 16 (t1, 0) := by unfold readN; rw [eI]
  rw [eN0] at zN
  obtain ⟨_, nb, t2, eN, h2, _, b2⟩ := manyS_inv b1 zN
  have eB0 : readB r = hashN nb (t2, 0) [] := by unfold readB; rw [eN0, eN]; rfl
  rw [eB0] at zB
  obtain ⟨_, B, t3, eB, h3, l3, bB, b3⟩ := hashN_inv _ _ _ b2 zB
  have eB : readB r = (B, (t3, 0)) := by rw [eB0, eB]; rfl
  have eK0 : readK r = manyS 12 (t3, 0) := by unfold readK; rw [eB]
  rw [eK0] at zK
  obtain ⟨_, nk, t4, eK, h4, _, b4⟩ := manyS_inv b3 zK
  have eP0 : readP r = pairN nk (t4, 0) [] [] := by unfold readP; rw [eK0, eK]; rfl
  rw [eP0] at zP
  obtain ⟨_, l, t5, eP, h5, l5, b5⟩ := pairN_inv _ _ _ _ b4 zP
  have eP : readP r = ((l.map (·.1), l.map (·.2)), (t5, 0)) := by rw [eP0, eP]; rfl
  have eV : readVer r = ⟨id, B, l.map (·.1), l.map (·.2)⟩ := by unfold readVer; rw [eI, eB, eP]
  unfold progR at h ⊢
  rw [eP, eV, if_neg (by simp)] at h ⊢
  by_cases hm : mayB ⟨id, B, l.map (·.1), l.map (·.2)⟩ = true
  rotate_left
  · rw [if_neg hm] at h; cases h
  rw [if_pos hm]
  refine ⟨hm, ⟨i0, i1, bB⟩, ?_, b5⟩
  rw [encV_parts, h1, show t1 = _ from h2, show t2 = _ from h3, show t3 = _ from h4, show t4 = _ from h5]
  simp only [List.length_map, l3, l5]
  rw [show (l.map (·.1)).zip (l.map (·.2)) = l by rw [List.zip_map']; simp]
end Go.Fw
