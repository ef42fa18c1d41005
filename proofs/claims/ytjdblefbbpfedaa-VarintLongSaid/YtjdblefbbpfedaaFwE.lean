import Derived.Test.YtjdblefbbpfedaaFwC
set_option linter.unusedSimpArgs false
set_option linter.unusedVariables false
namespace Go.Fw
open Go.Proofs Go.RowKit
attribute [local go_sem] List.length_cons List.length_nil Nat.zero_add Nat.add_zero Nat.zero_mul Nat.mul_one Int.toNat_zero Int.toNat_natCast List.map_cons List.map_nil List.map_toArray List.toList_toArray List.append_toArray List.nil_append List.cons_append List.append_nil List.all_toArray List.all_cons List.all_nil Bool.and_true Bool.true_and Bool.and_self List.getElem?_toArray List.getElem?_cons_zero List.getElem?_cons_succ Option.bind_some Option.map_some id true_and and_true and_self St.next_alloc St.next_upd beq_self_eq_true Bool.not_true Bool.not_false Bool.false_eq_true false_implies true_implies Option.isNone_none Option.isNone_some Option.isSome_none Option.isSome_some ge_iff_le gt_iff_lt Nat.sub_zero Nat.add_assoc IntWalk.i64_in IntWalk.u64_in IntWalk.u8_in IntWalk.u32_in IntWalk.i32_in IntWalk.u16_in dec_not Bool.not_eq_true decide_true decide_false ne_eq not_true_eq_false not_false_eq_true Bool.true_or Bool.or_true Bool.or_false Bool.false_or Bool.and_false Bool.false_and upd_apply rd_eq ar_zero ar_succ ar_nil tm_size tm_getD tm_set E_tmps E_defers put_E put_none eval_tmp eval_const eval_func setArgs_0 setArgs_1 setArgs_2 append_lit stepV_some stepA_some guardO_true ifB_true ifB_false wantV_true wantV_false wantV_dec_t wantV_dec_f ifB_dec_t ifB_dec_f condV_bool dec_and dec_or isB_bool someB_t someB_f okO_tmp okO_func okO_int okO_bool okO_string okO_ptr0 okO_slice0 okO_nilFunc okO_nilIface okO_map0 okO_agg wanted_none wanted_some lookT_some aopsL_nil aopsL_cons wpA_skip wpA_label wpA_exit wpA_goto wpA_ret wpA_seq wpA_block wpA_region wpA_cond wpA_loop wpA_rangeFunc wpA_draw thenQ_normal thenQ_exit thenQ_ret thenQ_panic blockQ_normal blockQ_ret blockQ_panic blockQ_exit funQ_ret funQ_normal funQ_panic op_move op_assign pickV_or pickV_and pickV_t pickV_f pickV_true pickV_false op_pick allocV_some op_alloc op_box op_load op_nilCheck op_bin op_un op_convert op_makeInterface op_makeSlice op_fieldAddr op_field op_indexAddr op_index op_extract op_typeAssert storeV_some op_store op_slice00 op_slice10 op_slice01 op_slice11 op_slice111 op_slice011 op_build op_buildSlice op_makeFunc callV_true op_call op_builtin panicV_iface op_panic ACallV_func ACallV_yield afterCall_returned afterCall_panicked bin_add bin_sub bin_mul bin_and bin_or bin_xor bin_andNot bin_eql bin_neq bin_lss bin_leq bin_gtr bin_geq bin_quo bin_rem bin_shl bin_shr bin_sadd bin_seql bin_sneq bin_slss uB_bool bin_beql bin_bneq uP_pointer bin_peql bin_pneq uS_slice bin_leql bin_lneq bin_ieql bin_ineq un_neg un_xor un_not nilCheck_ptr nilCheck_func nilCheck_yield load_ptr loadC_one loadC_agg store_ptr slice_eq sliceU_string sliceU_slice sliceU_array sliceS_eq boundsS_some sliceL_eq boundsL_nil boundsL_exact boundsL_least boundsL_own boundsL_ownN bounds_11 bounds_10 bounds_01 bounds_00 builtin_len len_string len_array len_slice builtin_append builtin_copy pairA_some builtin_min builtin_max min_two max_two index_eq index_string index_array indexAddr_eq indexAddr_array indexAddr_slice fieldAddr_eq posO_some fAddr_some fieldAddr_struct partC_some field_eq field_struct part_eq partU_one partU_agg extract_tuple conv_eq conv_int conv_string u8O_u8 conv_bytes conv_text_nil conv_text_zero conv_text mkIface_eq get_upd_same consO_some finR_0 finR_1 finR_2 aresL_nil aresL_cons ares1_tmp ares1_cell retV_some aleave_nil aleave_coll bnd_int bnd_bool bnd_string bnd_nilIface bnd_slice0 bnd_iface bnd_slice bnd_ptr bnd_ptr0 bndL_nil bndL_cons bndA_lit bnd_tuple bnd_agg calm_same skipC_eq aopsC_nil aopsC_cons stepC_call stepC_move stepC_assign stepC_pick stepC_alloc stepC_box stepC_build stepC_buildSlice stepC_load stepC_store stepC_nilCheck stepC_binOp stepC_unOp stepC_convert stepC_makeInterface stepC_makeFunc stepC_makeSlice stepC_slice stepC_fieldAddr stepC_field stepC_indexAddr stepC_index stepC_extract stepC_typeAssert stepC_builtin mk_E get_alloc_old get_alloc_new get_upd_old Try.agg1 Try.sz1 Try.byt1 Try.zero1 Try.agg2 Try.sz2 Try.byt2 Try.zero2 Try.agg3 Try.sz3 Try.byt3 Try.zero3 Try.agg4 Try.sz4 Try.byt4 Try.zero4 Try.agg5 Try.sz5 Try.byt5 Try.zero5 Try.agg6 Try.sz6 Try.byt6 Try.zero6 Try.agg7 Try.sz7 Try.byt7 Try.zero7 Try.agg8 Try.sz8 Try.byt8 Try.zero8 Try.agg9 Try.sz9 Try.byt9 Try.zero9 Try.agg10 Try.sz10 Try.byt10 Try.zero10 Try.agg11 Try.sz11 Try.byt11 Try.zero11 Try.agg12 Try.sz12 Try.byt12 Try.zero12 Try.agg13 Try.sz13 Try.byt13 Try.zero13 Try.agg14 Try.sz14 Try.byt14 Try.zero14 Try.agg15 Try.sz15 Try.byt15 Try.zero15 Try.agg16 Try.sz16 Try.byt16 Try.zero16 Try.agg17 Try.sz17 Try.byt17 Try.zero17 Try.agg18 Try.sz18 Try.byt18 Try.zero18 Try.agg19 Try.sz19 Try.byt19 Try.zero19 Try.agg20 Try.sz20 Try.byt20 Try.zero20 Try.agg21 Try.sz21 Try.byt21 Try.zero21 Try.agg22 Try.sz22 Try.byt22 Try.zero22 Try.agg23 Try.sz23 Try.byt23 Try.zero23 Try.agg24 Try.sz24 Try.byt24 Try.zero24 Try.agg26 Try.sz26 Try.byt26 Try.zero26 Try.agg27 Try.sz27 Try.byt27 Try.zero27 Try.agg28 Try.sz28 Try.byt28 Try.zero28 Try.agg29 Try.sz29 Try.byt29 Try.zero29 Try.agg30 Try.sz30 Try.byt30 Try.el30 Try.zero30 Try.agg31 Try.sz31 Try.byt31 Try.zero31 Try.agg33 Try.sz33 Try.byt33 Try.zero33 Try.agg34 Try.sz34 Try.byt34 Try.zero34 Try.agg35 Try.sz35 Try.byt35 Try.zero35 Try.agg36 Try.sz36 Try.byt36 Try.zero36 Try.agg37 Try.sz37 Try.byt37 Try.zero37 Try.agg38 Try.sz38 Try.byt38 Try.zero38 Try.agg39 Try.sz39 Try.byt39 Try.zero39 Try.agg41 Try.sz41 Try.byt41 Try.zero41 Try.agg42 Try.sz42 Try.byt42 Try.zero42 Try.agg43 Try.sz43 Try.byt43 Try.zero43 Try.agg44 Try.sz44 Try.byt44 Try.zero44 Try.agg45 Try.sz45 Try.byt45 Try.zero45 Try.agg46 Try.sz46 Try.byt46 Try.zero46 Try.agg47 Try.sz47 Try.byt47 Try.zero47 Try.agg48 Try.sz48 Try.byt48 Try.zero48 Try.agg49 Try.sz49 Try.byt49 Try.zero49 Try.agg50 Try.sz50 Try.byt50 Try.zero50 Try.agg51 Try.sz51 Try.byt51 Try.zero51 Try.agg52 Try.sz52 Try.byt52 Try.zero52 Try.agg53 Try.sz53 Try.byt53 Try.zero53 Try.agg54 Try.sz54 Try.byt54 Try.zero54 Try.agg55 Try.sz55 Try.byt55 Try.zero55 Try.agg56 Try.sz56 Try.byt56 Try.zero56 Try.agg57 Try.sz57 Try.byt57 Try.zero57 Try.agg58 Try.sz58 Try.byt58 Try.zero58 Try.agg59 Try.sz59 Try.byt59 Try.zero59 Try.agg60 Try.sz60 Try.byt60 Try.zero60 Try.agg61 Try.sz61 Try.byt61 Try.zero61 Try.agg62 Try.sz62 Try.byt62 Try.zero62 Try.underlying1 Try.underlying2 Try.underlying3 Try.underlying4 Try.underlying5 Try.underlying6 Try.underlying7 Try.underlying8 Try.underlying9 Try.underlying10 Try.underlying11 Try.underlying12 Try.underlying13 Try.underlying14 Try.underlying15 Try.underlying16 Try.underlying17 Try.underlying18 Try.underlying19 Try.underlying20 Try.underlying21 Try.underlying22 Try.underlying23 Try.underlying24 Try.underlying26 Try.underlying27 Try.underlying28 Try.underlying29 Try.underlying30 Try.underlying31 Try.underlying33 Try.underlying34 Try.underlying35 Try.underlying36 Try.underlying37 Try.underlying38 Try.underlying39 Try.underlying41 Try.underlying42 Try.underlying43 Try.underlying44 Try.underlying45 Try.underlying46 Try.underlying47 Try.underlying48 Try.underlying49 Try.underlying50 Try.underlying51 Try.underlying52 Try.underlying53 Try.underlying54 Try.underlying55 Try.underlying56 Try.underlying57 Try.underlying58 Try.underlying59 Try.underlying60 Try.underlying61 Try.underlying62
theorem Try.enters5 : Enters Try.prog 5 := enters_of Try.func5 rfl (by kernel_rfl)
/-- A number's bytes, the last one marked as if more came. -/
def encM (n : Nat) : List Int := if n < 128 then [((n + 128 : Nat) : Int)] else ((n % 128 + 128 : Nat) : Int) :: encM (n / 128)
termination_by n
theorem encM_lt {n : Nat} (h : n < 128) : encM n = [((n + 128 : Nat) : Int)] := by rw [encM, if_pos h]
theorem encM_ge {n : Nat} (h : ¬ n < 128) : encM n = ((n % 128 + 128 : Nat) : Int) :: encM (n / 128) := by rw [encM, if_neg h]
theorem enc_last : ∀ m : Nat, ∃ x : Int, 0 ≤ x ∧ x < 128 ∧ (enc m)[(enc m).length - 1]? = some x ∧ (enc m).set ((enc m).length - 1) (x + 128) = encM m := by
  intro m
  induction m using Nat.strongRecOn with
  | _ m ih =>
    by_cases h : m < 128
    · refine ⟨m, by omega, by omega, ?_, ?_⟩
      · rw [enc_lt h]; rfl
      · rw [enc_lt h, encM_lt h]; rfl
    · obtain ⟨x, h1, h2, h3, h4⟩ := ih (m / 128) (by omega)
      have hp := List.length_pos_iff.2 (enc_ne (m / 128))
      refine ⟨x, h1, h2, ?_, ?_⟩
      · rw [enc_ge h, List.length_cons, show (enc (m / 128)).length + 1 - 1 = ((enc (m / 128)).length - 1) + 1 by omega, List.getElem?_cons_succ]
        exact h3
      · rw [enc_ge h, encM_ge h, List.length_cons, show (enc (m / 128)).length + 1 - 1 = ((enc (m / 128)).length - 1) + 1 by omega, List.set_cons_succ, h4]
theorem encM_byte : ∀ (m : Nat), ∀ x ∈ encM m, Byte x := by
  intro m
  induction m using Nat.strongRecOn with
  | _ m ih =>
    intro x hx
    by_cases h : m < 128
    · rw [encM_lt h] at hx
      simp only [List.mem_cons, List.not_mem_nil, or_false] at hx
      subst hx; exact ⟨by omega, by omega⟩
    · rw [encM_ge h, List.mem_cons] at hx
      rcases hx with rfl | hx
      · exact ⟨by omega, by omega⟩
      · exact ih (m / 128) (by omega) x hx
theorem getL_more : ∀ (m k i : Nat) (n : Int) (r : List Int), k + i = 10 → i ≤ 9 → (0 < i → 0 < m) → m < 2 ^ (64 - 7 * i) → getL k i n (encM m ++ 0 :: r) = (0, [], 41) := by
  intro m
  induction m using Nat.strongRecOn with
  | _ m ih =>
    intro k i n r hk hi hm hb
    obtain ⟨k, rfl⟩ : ∃ k', k = k' + 1 := ⟨9 - i, by omega⟩
    by_cases h : m < 128
    · rw [encM_lt h, List.singleton_append, getL_of]
      by_cases h9 : i = 9
      · rw [if_pos (.inl ⟨h9, by omega⟩)]
      · rw [if_neg (by rintro (⟨h1, h2⟩ | ⟨h1, h2⟩) <;> omega), if_neg (by omega)]
        obtain ⟨k, rfl⟩ : ∃ k', k = k' + 1 := ⟨k - 1, by omega⟩
        rw [getL_of, if_pos (.inr ⟨by omega, rfl⟩)]
    · have hi8 : i ≤ 8 := by
        rcases Nat.lt_or_ge i 9 with h9 | h9
        · omega
        · have : i = 9 := by omega
          subst this
          have : m < 2 := hb
          omega
      rw [encM_ge h, List.cons_append, getL_of, if_neg, if_neg (by omega)]
      · rw [pow_lt64 hi8] at hb
        exact ih (m / 128) (by omega) k (i + 1) _ r (by omega) (by omega) (by omega) (by omega)
      · rintro (⟨rfl, h2⟩ | ⟨h1, h2⟩) <;> omega

set_option maxHeartbeats 1000000 in
theorem varintLong_ok (w0 : World) (A : St) (n : Int) (s : ByteArray) (hn : 0 ≤ n ∧ n ≤ 18446744073709551615) : ACalls Try.prog w0 5 #[.int .u64 n, .string s] A (fin (.bool true) A) := by
  obtain ⟨m, rfl⟩ := Int.eq_ofNat_of_zero_le hn.1
  refine call_E Try.enters5 Try.func5 rfl (Nat.le_of_ble_eq_true rfl) fun hw hbd => ?_
  simp (maxSteps := 1000000) (disch := (first | omega | (simp only [St.next_alloc, St.next_upd]; omega))) only [Nat.reduceAdd, Nat.reduceSub, Nat.reduceMul, Nat.reduceLT, Nat.reduceLeDiff, Nat.reduceEqDiff, ↓reduceIte, reduceCtorEq, Int.reduceAdd, Int.reduceSub, Int.reduceMul, Int.reduceLT, Int.reduceLE, Int.reduceEq, Int.reduceNe, Int.reduceToNat, Int.reduceNeg, go_sem, Try.ntmps5, Try.results5]
  by_cases hbig : 200 < s.size
  · simp (maxSteps := 1000000) (disch := (first | omega | (simp only [St.next_alloc, St.next_upd]; omega))) only [Nat.reduceAdd, Nat.reduceSub, Nat.reduceMul, Nat.reduceLT, Nat.reduceLeDiff, Nat.reduceEqDiff, ↓reduceIte, reduceCtorEq, Int.reduceAdd, Int.reduceSub, Int.reduceMul, Int.reduceLT, Int.reduceLE, Int.reduceEq, Int.reduceNe, Int.reduceToNat, Int.reduceNeg, go_sem]
    refine call1 (shown_ok w0 _) ?_
    simp (maxSteps := 1000000) (disch := (first | omega | (simp only [St.next_alloc, St.next_upd]; omega))) only [Nat.reduceAdd, Nat.reduceSub, Nat.reduceMul, Nat.reduceLT, Nat.reduceLeDiff, Nat.reduceEqDiff, ↓reduceIte, reduceCtorEq, Int.reduceAdd, Int.reduceSub, Int.reduceMul, Int.reduceLT, Int.reduceLE, Int.reduceEq, Int.reduceNe, Int.reduceToNat, Int.reduceNeg, go_sem, Try.results5]
    exact gc_fin hw (Over.refl _) (by simp only [bnd_bool])
  simp (maxSteps := 1000000) (disch := (first | omega | (simp only [St.next_alloc, St.next_upd]; omega))) only [Nat.reduceAdd, Nat.reduceSub, Nat.reduceMul, Nat.reduceLT, Nat.reduceLeDiff, Nat.reduceEqDiff, ↓reduceIte, reduceCtorEq, Int.reduceAdd, Int.reduceSub, Int.reduceMul, Int.reduceLT, Int.reduceLE, Int.reduceEq, Int.reduceNe, Int.reduceToNat, Int.reduceNeg, go_sem]
  refine call1 (shown_ok w0 _) ?_
  simp (maxSteps := 1000000) (disch := (first | omega | (simp only [St.next_alloc, St.next_upd]; omega))) only [Nat.reduceAdd, Nat.reduceSub, Nat.reduceMul, Nat.reduceLT, Nat.reduceLeDiff, Nat.reduceEqDiff, ↓reduceIte, reduceCtorEq, Int.reduceAdd, Int.reduceSub, Int.reduceMul, Int.reduceLT, Int.reduceLE, Int.reduceEq, Int.reduceNe, Int.reduceToNat, Int.reduceNeg, go_sem]
  refine call1 (put_ok w0 _ m (by omega)) ?_
  obtain ⟨x, hx0, hx1, hx2, hx3⟩ := enc_last m
  have hpos : 1 ≤ (enc m).length := List.length_pos_iff.2 (enc_ne m)
  have hlen : (enc m).length ≤ 10 := enc_len 9 m (by omega)
  have ht : (((enc m).length : Int) - 1).toNat = (enc m).length - 1 := by omega
  have hbc : bcells (strOfNums (enc m)) = (enc m).map (.int .u8 ·) := by rw [bcells_nums, nums_str (enc_byte m)]
  have hl1 : ((enc m).map (Value.int .u8 ·))[(enc m).length - 1]? = some (.int .u8 x) := by rw [List.getElem?_map, hx2]; rfl
  simp (maxSteps := 1000000) (disch := (first | omega | (simp only [St.next_alloc, St.next_upd]; omega))) only [Nat.reduceAdd, Nat.reduceSub, Nat.reduceMul, Nat.reduceLT, Nat.reduceLeDiff, Nat.reduceEqDiff, ↓reduceIte, reduceCtorEq, Int.reduceAdd, Int.reduceSub, Int.reduceMul, Int.reduceLT, Int.reduceLE, Int.reduceEq, Int.reduceNe, Int.reduceToNat, Int.reduceNeg, go_sem, str_size, ht, hbc, hl1]
  rw [storeC_one _ _ _ _ _ _ _ rfl rfl (Nat.zero_le _) (by simp; omega)]
  have hset : ((enc m).map (Value.int .u8 ·)).set ((enc m).length - 1) (.int .u8 (x + 128)) = (encM m).map (.int .u8 ·) := by rw [← List.map_set, hx3]
  have hml : (encM m).length = (enc m).length := by rw [← hx3, List.length_set]
  simp (maxSteps := 1000000) (disch := (first | omega | (simp only [St.next_alloc, St.next_upd]; omega))) only [Nat.reduceAdd, Nat.reduceSub, Nat.reduceMul, Nat.reduceLT, Nat.reduceLeDiff, Nat.reduceEqDiff, ↓reduceIte, reduceCtorEq, Int.reduceAdd, Int.reduceSub, Int.reduceMul, Int.reduceLT, Int.reduceLE, Int.reduceEq, Int.reduceNe, Int.reduceToNat, Int.reduceNeg, go_sem, hset]
  rw [textC_some (l := encM m) (by simp; omega) (by rw [List.drop_zero]; exact List.take_of_length_le (by simp; omega))]
  have hp1 := str_size (encM m)
  have hp2 : ((⟨#[0]⟩ : ByteArray)).size = 1 := rfl
  have hp3 : (strOfNums (encM m) ++ (⟨#[0]⟩ : ByteArray)).size = (encM m).length + 1 := by rw [ByteArray.size_append, hp1, hp2]
  simp (maxSteps := 1000000) (disch := (first | omega | (simp only [St.next_alloc, St.next_upd]; omega))) only [Nat.reduceAdd, Nat.reduceSub, Nat.reduceMul, Nat.reduceLT, Nat.reduceLeDiff, Nat.reduceEqDiff, ↓reduceIte, reduceCtorEq, Int.reduceAdd, Int.reduceSub, Int.reduceMul, Int.reduceLT, Int.reduceLE, Int.reduceEq, Int.reduceNe, Int.reduceToNat, Int.reduceNeg, go_sem]
  refine call1 (get_ok w0 _ _ (by rw [ByteArray.size_append, hp3]; omega)) ?_
  have hg1 : getL 10 0 0 (nums (strOfNums (encM m) ++ (⟨#[0]⟩ : ByteArray) ++ s)) = (0, [], 41) := by
    rw [nums_append, nums_append, nums_str (encM_byte m), List.append_assoc]
    exact getL_more m 10 0 0 _ rfl (by omega) (by omega) (by simp; omega)
  have hp4 : ((⟨#[255, 255, 255, 255, 255, 255, 255, 255, 255, 255]⟩ : ByteArray)).size = 10 := rfl
  simp (maxSteps := 1000000) (disch := (first | omega | (simp only [St.next_alloc, St.next_upd]; omega))) only [Nat.reduceAdd, Nat.reduceSub, Nat.reduceMul, Nat.reduceLT, Nat.reduceLeDiff, Nat.reduceEqDiff, ↓reduceIte, reduceCtorEq, Int.reduceAdd, Int.reduceSub, Int.reduceMul, Int.reduceLT, Int.reduceLE, Int.reduceEq, Int.reduceNe, Int.reduceToNat, Int.reduceNeg, go_sem, hg1, getV]
  refine call1 (get_ok w0 _ _ (by rw [ByteArray.size_append, hp4]; omega)) ?_
  have hg2 : getL 10 0 0 (nums ((⟨#[255, 255, 255, 255, 255, 255, 255, 255, 255, 255]⟩ : ByteArray) ++ s)) = (0, [], 41) := by
    have hb : nums (⟨#[255, 255, 255, 255, 255, 255, 255, 255, 255, 255]⟩ : ByteArray) = [255, 255, 255, 255, 255, 255, 255, 255, 255, 255] := by kernel_rfl
    rw [nums_append, hb]
    simp only [List.cons_append, List.nil_append]
    iterate 9 rw [getL_of, if_neg (by decide), if_neg (by decide)]
    rw [getL_of, if_pos (by decide)]
  simp (maxSteps := 1000000) (disch := (first | omega | (simp only [St.next_alloc, St.next_upd]; omega))) only [Nat.reduceAdd, Nat.reduceSub, Nat.reduceMul, Nat.reduceLT, Nat.reduceLeDiff, Nat.reduceEqDiff, ↓reduceIte, reduceCtorEq, Int.reduceAdd, Int.reduceSub, Int.reduceMul, Int.reduceLT, Int.reduceLE, Int.reduceEq, Int.reduceNe, Int.reduceToNat, Int.reduceNeg, go_sem, hg2, getV, Try.results5]
  exact gc_fin hw (((Over.refl _).alloc _).upd (Nat.le_refl _) _) (by simp only [bnd_bool])
end Go.Fw
