import Derived.Test.YtofhiplcpmhlcaaFwM
import Derived.Test.YtofhiplcpmhlcaaFw30
set_option linter.unusedSimpArgs false
set_option linter.unusedVariables false
namespace Go.Fw
open Go.Proofs Go.RowKit
attribute [local go_sem] List.length_cons List.length_nil Nat.zero_add Nat.add_zero Nat.zero_mul Nat.mul_one Int.toNat_zero Int.toNat_natCast List.map_cons List.map_nil List.map_toArray List.toList_toArray List.append_toArray List.append_eq List.nil_append List.cons_append List.append_nil List.all_toArray List.all_cons List.all_nil Bool.and_true Bool.true_and Bool.and_self List.getElem?_toArray List.getElem?_cons_zero List.getElem?_cons_succ List.set_cons_zero List.set_cons_succ List.drop_zero List.drop_succ_cons List.take_zero List.take_succ_cons Option.bind_some Option.map_some id true_and and_true and_self St.next_alloc St.next_upd beq_self_eq_true Bool.not_true Bool.not_false Bool.false_eq_true false_implies true_implies Option.isNone_none Option.isNone_some Option.isSome_none Option.isSome_some ge_iff_le gt_iff_lt Nat.sub_zero Nat.add_assoc IntWalk.i64_in IntWalk.u64_in IntWalk.u8_in IntWalk.u32_in IntWalk.i32_in IntWalk.u16_in dec_not Bool.not_eq_true decide_true decide_false ne_eq not_true_eq_false not_false_eq_true Bool.true_or Bool.or_true Bool.or_false Bool.false_or Bool.and_false Bool.false_and upd_apply rd_eq ar_zero ar_succ ar_nil tm_size tm_getD tm_set E_tmps E_defers put_E put_none eval_tmp eval_const eval_func setArgs_0 setArgs_1 setArgs_2 append_lit stepV_some stepA_some guardO_true ifB_true ifB_false wantV_true wantV_false wantV_dec_t wantV_dec_f ifB_dec_t ifB_dec_f condV_bool dec_and dec_or isB_bool someB_t someB_f okO_tmp okO_func okO_int okO_bool okO_string okO_ptr0 okO_slice0 okO_nilFunc okO_nilIface okO_map0 okO_agg wanted_none wanted_some lookT_some aopsL_nil aopsL_cons wpA_skip wpA_label wpA_exit wpA_goto wpA_ret wpA_seq wpA_block wpA_region wpA_cond wpA_loop wpA_rangeFunc wpA_draw thenQ_normal thenQ_exit thenQ_ret thenQ_panic blockQ_normal blockQ_ret blockQ_panic blockQ_exit funQ_ret funQ_normal funQ_panic op_move op_assign pickV_or pickV_and pickV_t pickV_f pickV_true pickV_false op_pick allocV_some op_alloc op_box op_load op_nilCheck op_bin op_un op_convert op_makeInterface op_makeSlice op_fieldAddr op_field op_indexAddr op_index op_extract op_typeAssert storeV_some op_store op_slice00 op_slice10 op_slice01 op_slice11 op_slice111 op_slice011 op_makeFunc callV_true op_call op_builtin panicV_iface op_panic ACallV_func ACallV_yield afterCall_returned afterCall_panicked bin_add bin_sub bin_mul bin_and bin_or bin_xor bin_andNot bin_eql bin_neq bin_lss bin_leq bin_gtr bin_geq bin_quo bin_rem bin_shl bin_shr bin_sadd bin_seql bin_sneq bin_slss uB_bool bin_beql bin_bneq uP_pointer bin_peql bin_pneq uS_slice bin_leql bin_lneq bin_ieql bin_ineq un_neg un_xor un_not nilCheck_ptr nilCheck_func nilCheck_yield load_ptr loadC_one loadC_agg store_ptr slice_eq sliceU_string sliceU_slice sliceU_array sliceS_eq boundsS_some sliceL_eq boundsL_nil boundsL_exact boundsL_least boundsL_own boundsL_ownN bounds_11 bounds_10 bounds_01 bounds_00 builtin_len len_string len_array len_slice builtin_append builtin_copy pairA_some builtin_min builtin_max min_two max_two index_eq index_string index_array indexAddr_eq indexAddr_array indexAddr_slice fieldAddr_eq posO_some fAddr_some fieldAddr_struct partC_some field_eq field_struct part_eq partU_one partU_agg extract_tuple conv_eq conv_int conv_string u8O_u8 conv_bytes conv_text_nil conv_text_zero conv_text mkIface_eq get_upd_same consO_some finR_0 finR_1 finR_2 aresL_nil aresL_cons ares1_tmp ares1_cell retV_some aleave_nil aleave_coll bnd_int bnd_bool bnd_string bnd_nilIface bnd_slice0 bnd_iface bnd_slice bnd_ptr bnd_ptr0 bndL_nil bndL_cons bndA_lit bnd_tuple bnd_agg calm_same skipC_eq aopsC_nil aopsC_cons stepC_call stepC_move stepC_assign stepC_pick stepC_alloc stepC_box stepC_build stepC_buildSlice stepC_load stepC_store stepC_nilCheck stepC_binOp stepC_unOp stepC_convert stepC_makeInterface stepC_makeFunc stepC_makeSlice stepC_slice stepC_fieldAddr stepC_field stepC_indexAddr stepC_index stepC_extract stepC_typeAssert stepC_builtin to_same sameA_eq aopsX_nil aopsX_cons stepX_heavy stepX_light lightK_eq allC_nil allC_cons hs_zero hs_succ stepT_call pure_call stepT_move pure_move stepT_assign pure_assign stepT_pick pure_pick stepT_alloc pure_alloc stepT_box pure_box stepT_build pure_build stepT_buildSlice pure_buildSlice stepT_load pure_load stepT_store pure_store stepT_nilCheck pure_nilCheck stepT_binOp pure_binOp stepT_unOp pure_unOp stepT_convert pure_convert stepT_makeInterface pure_makeInterface stepT_makeFunc pure_makeFunc stepT_makeSlice pure_makeSlice stepT_slice pure_slice stepT_fieldAddr pure_fieldAddr stepT_field pure_field stepT_indexAddr pure_indexAddr stepT_index pure_index stepT_extract pure_extract stepT_typeAssert pure_typeAssert stepT_builtin pure_b_len pure_b_append pure_b_copy pure_b_min pure_b_max leaveK_eq aleave_fn op_defer deferV_func resK_some defQ_ret defQ_normal storeC_int storeC_bool storeC_string storeC_slice storeC_func storeC_pointer len_cons len_nil cells_int cells_bool cells_string cells_slice cells_pointer cells_func cells_map cells_nilFunc cells_agg cell1_bool cell1_string cell1_slice cell1_pointer cell1_func cell1_i cell1_map cell1_nilFunc setList_nil setList_cons storeC_aggS fillP_nil fillP_cons fillAt_1 fillAt_n aggO_some sliceO_some places_0 places_s zerosR_0 zerosR_s thenElse_true evP_nil evP_cons okP_nil okP_cons op_buildL op_buildSliceL isBu_t isBu_f mk_E get_alloc_old get_alloc_new get_upd_old Try.agg1 Try.sz1 Try.byt1 Try.zero1 Try.agg2 Try.sz2 Try.byt2 Try.zero2 Try.agg3 Try.sz3 Try.byt3 Try.zero3 Try.agg4 Try.sz4 Try.byt4 Try.zero4 Try.agg5 Try.sz5 Try.byt5 Try.zero5 Try.agg6 Try.sz6 Try.byt6 Try.zero6 Try.agg7 Try.sz7 Try.byt7 Try.zero7 Try.agg8 Try.sz8 Try.byt8 Try.zero8 Try.agg9 Try.sz9 Try.byt9 Try.zero9 Try.agg10 Try.sz10 Try.byt10 Try.zero10 Try.agg11 Try.sz11 Try.byt11 Try.zero11 Try.agg12 Try.sz12 Try.byt12 Try.zero12 Try.agg13 Try.sz13 Try.byt13 Try.zero13 Try.agg14 Try.sz14 Try.byt14 Try.zero14 Try.agg15 Try.sz15 Try.byt15 Try.zero15 Try.agg16 Try.sz16 Try.byt16 Try.zero16 Try.agg17 Try.sz17 Try.byt17 Try.zero17 Try.agg18 Try.sz18 Try.byt18 Try.zero18 Try.agg19 Try.sz19 Try.byt19 Try.zero19 Try.agg20 Try.sz20 Try.byt20 Try.zero20 Try.agg21 Try.sz21 Try.byt21 Try.zero21 Try.agg22 Try.sz22 Try.byt22 Try.zero22 Try.agg23 Try.sz23 Try.byt23 Try.zero23 Try.agg24 Try.sz24 Try.byt24 Try.zero24 Try.agg25 Try.sz25 Try.byt25 Try.zero25 Try.agg27 Try.sz27 Try.byt27 Try.zero27 Try.agg28 Try.sz28 Try.byt28 Try.el28 Try.zero28 Try.agg30 Try.sz30 Try.byt30 Try.zero30 Try.agg31 Try.sz31 Try.byt31 Try.zero31 Try.agg32 Try.sz32 Try.byt32 Try.zero32 Try.agg33 Try.sz33 Try.byt33 Try.zero33 Try.agg34 Try.sz34 Try.byt34 Try.zero34 Try.agg35 Try.sz35 Try.byt35 Try.zero35 Try.agg36 Try.sz36 Try.byt36 Try.el36 Try.zero36 Try.agg38 Try.sz38 Try.byt38 Try.zero38 Try.agg39 Try.sz39 Try.byt39 Try.zero39 Try.agg40 Try.sz40 Try.byt40 Try.zero40 Try.agg41 Try.sz41 Try.byt41 Try.el41 Try.zero41 Try.agg42 Try.sz42 Try.byt42 Try.zero42 Try.agg43 Try.sz43 Try.byt43 Try.zero43 Try.agg44 Try.sz44 Try.byt44 Try.zero44 Try.agg46 Try.sz46 Try.byt46 Try.zero46 Try.agg47 Try.sz47 Try.byt47 Try.zero47 Try.agg48 Try.sz48 Try.byt48 Try.zero48 Try.agg49 Try.sz49 Try.byt49 Try.zero49 Try.agg50 Try.sz50 Try.byt50 Try.zero50 Try.agg51 Try.sz51 Try.byt51 Try.zero51 Try.agg52 Try.sz52 Try.byt52 Try.zero52 Try.agg53 Try.sz53 Try.byt53 Try.zero53 Try.agg54 Try.sz54 Try.byt54 Try.zero54 Try.agg55 Try.sz55 Try.byt55 Try.zero55 Try.agg56 Try.sz56 Try.byt56 Try.zero56 Try.agg57 Try.sz57 Try.byt57 Try.zero57 Try.agg58 Try.sz58 Try.byt58 Try.zero58 Try.agg59 Try.sz59 Try.byt59 Try.zero59 Try.agg60 Try.sz60 Try.byt60 Try.zero60 Try.agg61 Try.sz61 Try.byt61 Try.zero61 Try.agg62 Try.sz62 Try.byt62 Try.zero62 Try.agg63 Try.sz63 Try.byt63 Try.zero63 Try.agg64 Try.sz64 Try.byt64 Try.zero64 Try.agg65 Try.sz65 Try.byt65 Try.zero65 Try.agg66 Try.sz66 Try.byt66 Try.zero66 Try.agg67 Try.sz67 Try.byt67 Try.zero67 Try.agg68 Try.sz68 Try.byt68 Try.zero68 Try.build7 Try.build8 Try.build13 Try.build14 Try.build18 Try.build19 Try.bsl28 Try.bsl36 Try.bsl41 Try.build54 Try.build55 Try.build57 Try.build58 Try.build66 Try.build67 Try.underlying1 Try.underlying2 Try.underlying3 Try.underlying4 Try.underlying5 Try.underlying6 Try.underlying7 Try.underlying8 Try.underlying9 Try.underlying10 Try.underlying11 Try.underlying12 Try.underlying13 Try.underlying14 Try.underlying15 Try.underlying16 Try.underlying17 Try.underlying18 Try.underlying19 Try.underlying20 Try.underlying21 Try.underlying22 Try.underlying23 Try.underlying24 Try.underlying25 Try.underlying27 Try.underlying28 Try.underlying30 Try.underlying31 Try.underlying32 Try.underlying33 Try.underlying34 Try.underlying35 Try.underlying36 Try.underlying38 Try.underlying39 Try.underlying40 Try.underlying41 Try.underlying42 Try.underlying43 Try.underlying44 Try.underlying46 Try.underlying47 Try.underlying48 Try.underlying49 Try.underlying50 Try.underlying51 Try.underlying52 Try.underlying53 Try.underlying54 Try.underlying55 Try.underlying56 Try.underlying57 Try.underlying58 Try.underlying59 Try.underlying60 Try.underlying61 Try.underlying62 Try.underlying63 Try.underlying64 Try.underlying65 Try.underlying66 Try.underlying67 Try.underlying68
theorem Try.enters8 : Enters Try.prog 8 := enters_of Try.func8 rfl (by kernel_rfl)
theorem strE_dec {H : Type} {enc : TypeId × Value → H} {w : World} {held : Bool} (n : Nat) (cs : List Value) (y : DataW H × List MemPlace) (h : DataW.trod enc Try.prog w 0 (fun _ => true) held n 9 cs = some y) : ∃ a, cs = strE a ∧ strOk a := str_dec Try.underlying9 n cs y h
/-- Frames, one behind the other. -/
def catL (xs : List (List Int)) : List Int := xs.flatMap frameL
theorem catL_cons (x : List Int) (xs : List (List Int)) : catL (x :: xs) = frameL x ++ catL xs := List.flatMap_cons
def FrOk (xs : List (List Int)) : Prop := ∀ x ∈ xs, x.length ≤ 100 ∧ ∀ y ∈ x, Byte y
theorem catL_byte {xs : List (List Int)} (h : FrOk xs) : ∀ y ∈ catL xs, Byte y := fun y hy => by
  obtain ⟨x, hx, hy⟩ := List.mem_flatMap.1 hy
  exact frameL_byte (h x hx).2 y hy
theorem first_short {x : List Int} (hb : ∀ y ∈ x, Byte y) (hx : x.length ≤ 1024) {j : Nat} (hj : j < (frameL x).length) : (firstL ((frameL x).take j)).2.2 ≠ 0 := by
  have hl : ((frameL x).take j).length = j := by rw [List.length_take]; omega
  rw [frameL_len] at hj
  unfold firstL
  by_cases h0 : (frameL x).take j = []
  · rw [if_pos h0]; decide
  rw [if_neg h0]
  by_cases h6 : ((frameL x).take j).length < 6
  · rw [if_pos h6]; decide
  rw [if_neg h6]
  have h2 : ((frameL x).take j).take 2 = bigL x.length 2 := by
    rw [List.take_take, Nat.min_eq_left (by omega)]
    unfold frameL
    rw [List.append_assoc]
    exact List.take_left' (bigL_length _ _)
  have hn : beN (bigL x.length 2) = (x.length : Int) := by rw [beN_big, Nat.mod_eq_of_lt (by omega)]
  rw [h2, hn, if_neg (by omega), if_pos (by rw [List.length_drop, hl]; omega)]
  decide
/-- What stands in the first bytes of frames. -/
theorem all_cut : ∀ (xs : List (List Int)) (w k : Nat), FrOk xs → w ≤ xs.length → (catL (xs.take w)).length ≤ k → k ≤ (catL xs).length → (w = xs.length ∨ k < (catL (xs.take (w + 1))).length) →
    (allL ((catL xs).take k)).1 = xs.take w ∧ (allL ((catL xs).take k)).2.length = k - (catL (xs.take w)).length
  | [], w, k, _, hw, h1, h2, _ => by
    have hk : k = 0 := by simpa [catL] using h2
    subst hk
    rw [List.take_zero, allL_stop (by decide)]
    simp
  | x :: xs, 0, k, hf, _, h1, h2, h3 => by
    have hx := hf x (List.mem_cons_self ..)
    have hk : k < (frameL x).length := by
      rcases h3 with h3 | h3
      · simp at h3
      · rw [List.take_succ_cons, List.take_zero, catL_cons] at h3; simpa [catL] using h3
    have ht : (catL (x :: xs)).take k = (frameL x).take k := by rw [catL_cons, List.take_append_of_le_length (by omega)]
    rw [ht, allL_stop (first_short hx.2 (by omega) hk)]
    refine ⟨rfl, ?_⟩
    show ((frameL x).take k).length = k - 0
    rw [List.length_take]; omega
  | x :: xs, w + 1, k, hf, hw, h1, h2, h3 => by
    have hx := hf x (List.mem_cons_self ..)
    rw [List.take_succ_cons, catL_cons, List.length_append] at h1
    rw [catL_cons, List.length_append] at h2
    have ht : (catL (x :: xs)).take k = frameL x ++ (catL xs).take (k - (frameL x).length) := by
      rw [catL_cons, List.take_append, List.take_of_length_le (by omega)]
    have ih := all_cut xs w (k - (frameL x).length) (fun y hy => hf y (List.mem_cons_of_mem _ hy)) (by simpa using hw) (by omega) (by omega) (by
      rcases h3 with h3 | h3
      · exact .inl (by simpa using h3)
      · right
        rw [List.take_succ_cons, catL_cons, List.length_append] at h3
        omega)
    rw [ht, allL_go (frame_first hx.2 (by omega))]
    refine ⟨by show x :: _ = _; rw [ih.1, List.take_succ_cons], ?_⟩
    show (allL _).2.length = _
    rw [ih.2, List.take_succ_cons, catL_cons, List.length_append]
    omega
theorem all_whole {xs : List (List Int)} (h : FrOk xs) : (allL (catL xs)).1 = xs ∧ (allL (catL xs)).2.length = 0 := by
  have := all_cut xs xs.length (catL xs).length h (Nat.le_refl _) (by rw [List.take_length]; exact Nat.le_refl _) (Nat.le_refl _) (.inl rfl)
  rw [List.take_length, List.take_length] at this
  exact ⟨this.1, by rw [this.2]; omega⟩
theorem catL_snoc (xs : List (List Int)) (i : Nat) (x : List Int) (h : xs[i]? = some x) : catL (xs.take (i + 1)) = catL (xs.take i) ++ frameL x := by
  unfold catL; rw [List.take_add_one, h, List.flatMap_append]; simp
theorem catL_le {xs : List (List Int)} (h : FrOk xs) : ∀ i, (catL (xs.take i)).length ≤ 106 * i
  | 0 => by simp [catL]
  | i + 1 => by
    have ih := catL_le h i
    rcases hx : xs[i]? with _ | x
    · rw [List.getElem?_eq_none_iff] at hx
      rw [List.take_of_length_le (by omega)] at ih ⊢
      omega
    · rw [catL_snoc xs i x hx, List.length_append, frameL_len]
      have := (h x (List.mem_of_getElem? hx)).1
      omega
theorem catL_mono (xs : List (List Int)) {i j : Nat} (h : i ≤ j) : (catL (xs.take i)).length ≤ (catL (xs.take j)).length := by
  obtain ⟨d, rfl⟩ := Nat.exists_eq_add_of_le h
  rw [List.take_add]
  unfold catL
  rw [List.flatMap_append, List.length_append]
  omega
end Go.Fw
