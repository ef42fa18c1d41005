import Derived.Test.YtjdblefbbpfedaaFwI
set_option linter.unusedSimpArgs false
set_option linter.unusedVariables false
namespace Go.Fw
open Go.Proofs Go.RowKit
attribute [local go_sem] List.length_cons List.length_nil Nat.zero_add Nat.add_zero Nat.zero_mul Nat.mul_one Int.toNat_zero Int.toNat_natCast List.map_cons List.map_nil List.map_toArray List.toList_toArray List.append_toArray List.nil_append List.cons_append List.append_nil List.all_toArray List.all_cons List.all_nil Bool.and_true Bool.true_and Bool.and_self List.getElem?_toArray List.getElem?_cons_zero List.getElem?_cons_succ Option.bind_some Option.map_some id true_and and_true and_self St.next_alloc St.next_upd beq_self_eq_true Bool.not_true Bool.not_false Bool.false_eq_true false_implies true_implies Option.isNone_none Option.isNone_some Option.isSome_none Option.isSome_some ge_iff_le gt_iff_lt Nat.sub_zero Nat.add_assoc IntWalk.i64_in IntWalk.u64_in IntWalk.u8_in IntWalk.u32_in IntWalk.i32_in IntWalk.u16_in dec_not Bool.not_eq_true decide_true decide_false ne_eq not_true_eq_false not_false_eq_true Bool.true_or Bool.or_true Bool.or_false Bool.false_or Bool.and_false Bool.false_and upd_apply rd_eq ar_zero ar_succ ar_nil tm_size tm_getD tm_set E_tmps E_defers put_E put_none eval_tmp eval_const eval_func setArgs_0 setArgs_1 setArgs_2 append_lit stepV_some stepA_some guardO_true ifB_true ifB_false wantV_true wantV_false wantV_dec_t wantV_dec_f ifB_dec_t ifB_dec_f condV_bool dec_and dec_or isB_bool someB_t someB_f okO_tmp okO_func okO_int okO_bool okO_string okO_ptr0 okO_slice0 okO_nilFunc okO_nilIface okO_map0 okO_agg wanted_none wanted_some lookT_some aopsL_nil aopsL_cons wpA_skip wpA_label wpA_exit wpA_goto wpA_ret wpA_seq wpA_block wpA_region wpA_cond wpA_loop wpA_rangeFunc wpA_draw thenQ_normal thenQ_exit thenQ_ret thenQ_panic blockQ_normal blockQ_ret blockQ_panic blockQ_exit funQ_ret funQ_normal funQ_panic op_move op_assign pickV_or pickV_and pickV_t pickV_f pickV_true pickV_false op_pick allocV_some op_alloc op_box op_load op_nilCheck op_bin op_un op_convert op_makeInterface op_makeSlice op_fieldAddr op_field op_indexAddr op_index op_extract op_typeAssert storeV_some op_store op_slice00 op_slice10 op_slice01 op_slice11 op_slice111 op_slice011 op_build op_buildSlice op_makeFunc callV_true op_call op_builtin panicV_iface op_panic ACallV_func ACallV_yield afterCall_returned afterCall_panicked bin_add bin_sub bin_mul bin_and bin_or bin_xor bin_andNot bin_eql bin_neq bin_lss bin_leq bin_gtr bin_geq bin_quo bin_rem bin_shl bin_shr bin_sadd bin_seql bin_sneq bin_slss uB_bool bin_beql bin_bneq uP_pointer bin_peql bin_pneq uS_slice bin_leql bin_lneq bin_ieql bin_ineq un_neg un_xor un_not nilCheck_ptr nilCheck_func nilCheck_yield load_ptr loadC_one loadC_agg store_ptr slice_eq sliceU_string sliceU_slice sliceU_array sliceS_eq boundsS_some sliceL_eq boundsL_nil boundsL_exact boundsL_least boundsL_own boundsL_ownN bounds_11 bounds_10 bounds_01 bounds_00 builtin_len len_string len_array len_slice builtin_append builtin_copy pairA_some builtin_min builtin_max min_two max_two index_eq index_string index_array indexAddr_eq indexAddr_array indexAddr_slice fieldAddr_eq posO_some fAddr_some fieldAddr_struct partC_some field_eq field_struct part_eq partU_one partU_agg extract_tuple conv_eq conv_int conv_string u8O_u8 conv_bytes conv_text_nil conv_text_zero conv_text mkIface_eq get_upd_same consO_some finR_0 finR_1 finR_2 aresL_nil aresL_cons ares1_tmp ares1_cell retV_some aleave_nil aleave_coll bnd_int bnd_bool bnd_string bnd_nilIface bnd_slice0 bnd_iface bnd_slice bnd_ptr bnd_ptr0 bndL_nil bndL_cons bndA_lit bnd_tuple bnd_agg calm_same skipC_eq aopsC_nil aopsC_cons stepC_call stepC_move stepC_assign stepC_pick stepC_alloc stepC_box stepC_build stepC_buildSlice stepC_load stepC_store stepC_nilCheck stepC_binOp stepC_unOp stepC_convert stepC_makeInterface stepC_makeFunc stepC_makeSlice stepC_slice stepC_fieldAddr stepC_field stepC_indexAddr stepC_index stepC_extract stepC_typeAssert stepC_builtin mk_E get_alloc_old get_alloc_new get_upd_old Try.agg1 Try.sz1 Try.byt1 Try.zero1 Try.agg2 Try.sz2 Try.byt2 Try.zero2 Try.agg3 Try.sz3 Try.byt3 Try.zero3 Try.agg4 Try.sz4 Try.byt4 Try.zero4 Try.agg5 Try.sz5 Try.byt5 Try.zero5 Try.agg6 Try.sz6 Try.byt6 Try.zero6 Try.agg7 Try.sz7 Try.byt7 Try.zero7 Try.agg8 Try.sz8 Try.byt8 Try.zero8 Try.agg9 Try.sz9 Try.byt9 Try.zero9 Try.agg10 Try.sz10 Try.byt10 Try.zero10 Try.agg11 Try.sz11 Try.byt11 Try.zero11 Try.agg12 Try.sz12 Try.byt12 Try.zero12 Try.agg13 Try.sz13 Try.byt13 Try.zero13 Try.agg14 Try.sz14 Try.byt14 Try.zero14 Try.agg15 Try.sz15 Try.byt15 Try.zero15 Try.agg16 Try.sz16 Try.byt16 Try.zero16 Try.agg17 Try.sz17 Try.byt17 Try.zero17 Try.agg18 Try.sz18 Try.byt18 Try.zero18 Try.agg19 Try.sz19 Try.byt19 Try.zero19 Try.agg20 Try.sz20 Try.byt20 Try.zero20 Try.agg21 Try.sz21 Try.byt21 Try.zero21 Try.agg22 Try.sz22 Try.byt22 Try.zero22 Try.agg23 Try.sz23 Try.byt23 Try.zero23 Try.agg24 Try.sz24 Try.byt24 Try.zero24 Try.agg26 Try.sz26 Try.byt26 Try.zero26 Try.agg27 Try.sz27 Try.byt27 Try.zero27 Try.agg28 Try.sz28 Try.byt28 Try.zero28 Try.agg29 Try.sz29 Try.byt29 Try.zero29 Try.agg30 Try.sz30 Try.byt30 Try.el30 Try.zero30 Try.agg31 Try.sz31 Try.byt31 Try.zero31 Try.agg33 Try.sz33 Try.byt33 Try.zero33 Try.agg34 Try.sz34 Try.byt34 Try.zero34 Try.agg35 Try.sz35 Try.byt35 Try.zero35 Try.agg36 Try.sz36 Try.byt36 Try.zero36 Try.agg37 Try.sz37 Try.byt37 Try.zero37 Try.agg38 Try.sz38 Try.byt38 Try.zero38 Try.agg39 Try.sz39 Try.byt39 Try.zero39 Try.agg41 Try.sz41 Try.byt41 Try.zero41 Try.agg42 Try.sz42 Try.byt42 Try.zero42 Try.agg43 Try.sz43 Try.byt43 Try.zero43 Try.agg44 Try.sz44 Try.byt44 Try.zero44 Try.agg45 Try.sz45 Try.byt45 Try.zero45 Try.agg46 Try.sz46 Try.byt46 Try.zero46 Try.agg47 Try.sz47 Try.byt47 Try.zero47 Try.agg48 Try.sz48 Try.byt48 Try.zero48 Try.agg49 Try.sz49 Try.byt49 Try.zero49 Try.agg50 Try.sz50 Try.byt50 Try.zero50 Try.agg51 Try.sz51 Try.byt51 Try.zero51 Try.agg52 Try.sz52 Try.byt52 Try.zero52 Try.agg53 Try.sz53 Try.byt53 Try.zero53 Try.agg54 Try.sz54 Try.byt54 Try.zero54 Try.agg55 Try.sz55 Try.byt55 Try.zero55 Try.agg56 Try.sz56 Try.byt56 Try.zero56 Try.agg57 Try.sz57 Try.byt57 Try.zero57 Try.agg58 Try.sz58 Try.byt58 Try.zero58 Try.agg59 Try.sz59 Try.byt59 Try.zero59 Try.agg60 Try.sz60 Try.byt60 Try.zero60 Try.agg61 Try.sz61 Try.byt61 Try.zero61 Try.agg62 Try.sz62 Try.byt62 Try.zero62 Try.underlying1 Try.underlying2 Try.underlying3 Try.underlying4 Try.underlying5 Try.underlying6 Try.underlying7 Try.underlying8 Try.underlying9 Try.underlying10 Try.underlying11 Try.underlying12 Try.underlying13 Try.underlying14 Try.underlying15 Try.underlying16 Try.underlying17 Try.underlying18 Try.underlying19 Try.underlying20 Try.underlying21 Try.underlying22 Try.underlying23 Try.underlying24 Try.underlying26 Try.underlying27 Try.underlying28 Try.underlying29 Try.underlying30 Try.underlying31 Try.underlying33 Try.underlying34 Try.underlying35 Try.underlying36 Try.underlying37 Try.underlying38 Try.underlying39 Try.underlying41 Try.underlying42 Try.underlying43 Try.underlying44 Try.underlying45 Try.underlying46 Try.underlying47 Try.underlying48 Try.underlying49 Try.underlying50 Try.underlying51 Try.underlying52 Try.underlying53 Try.underlying54 Try.underlying55 Try.underlying56 Try.underlying57 Try.underlying58 Try.underlying59 Try.underlying60 Try.underlying61 Try.underlying62
theorem Try.enters7 : Enters Try.prog 7 := enters_of Try.func7 rfl (by kernel_rfl)
theorem foldl_be (l : List Int) : ∀ a : Int, l.foldl (fun n c => n * 256 + c) a = a * 256 ^ l.length + l.foldl (fun n c => n * 256 + c) 0 := by
  induction l with
  | nil => intro a; simp
  | cons c l ih =>
    intro a
    rw [List.foldl_cons, List.foldl_cons, ih (a * 256 + c), ih (0 * 256 + c), List.length_cons, Int.pow_succ, Int.add_mul, Int.zero_mul, Int.zero_add, Int.add_assoc, Int.mul_assoc, Int.mul_comm 256]
theorem beN_big (n : Nat) : ∀ i, beN (bigL n i) = ((n % 256 ^ i : Nat) : Int)
  | 0 => by
    have : n % 256 ^ 0 = 0 := by rw [Nat.pow_zero, Nat.mod_one]
    rw [this]; rfl
  | i + 1 => by
    have h := beN_big n i
    unfold beN at h ⊢
    rw [bigL, List.foldl_cons, foldl_be, h, bigL_length, Int.zero_mul, Int.zero_add, Nat.pow_succ, Nat.mod_mul, Int.natCast_add, Int.natCast_mul, Int.natCast_pow, Int.mul_comm, Int.add_comm]
    rfl
set_option maxHeartbeats 2000000 in
theorem varintBack_ok0 (w0 : World) (A : St) (n k : Nat) (s r : ByteArray) (hn : n < 18446744073709551616) (hk : k < 256) : ACalls Try.prog w0 7 #[.int .u64 n, .string s, .string r, .int .u8 k] A (fin (.bool true) A) := by
  refine call_E Try.enters7 Try.func7 rfl (Nat.le_of_ble_eq_true rfl) fun hw hbd => ?_
  simp (maxSteps := 1000000) (disch := (first | omega | (simp only [St.next_alloc, St.next_upd]; omega))) only [Nat.reduceAdd, Nat.reduceSub, Nat.reduceMul, Nat.reduceLT, Nat.reduceLeDiff, Nat.reduceEqDiff, ↓reduceIte, reduceCtorEq, Int.reduceAdd, Int.reduceSub, Int.reduceMul, Int.reduceLT, Int.reduceLE, Int.reduceEq, Int.reduceNe, Int.reduceToNat, Int.reduceNeg, go_sem, Try.ntmps7, Try.results7]
  by_cases hb1 : 1024 < s.size
  · simp (maxSteps := 1000000) (disch := (first | omega | (simp only [St.next_alloc, St.next_upd]; omega))) only [Nat.reduceAdd, Nat.reduceSub, Nat.reduceMul, Nat.reduceLT, Nat.reduceLeDiff, Nat.reduceEqDiff, ↓reduceIte, reduceCtorEq, Int.reduceAdd, Int.reduceSub, Int.reduceMul, Int.reduceLT, Int.reduceLE, Int.reduceEq, Int.reduceNe, Int.reduceToNat, Int.reduceNeg, go_sem]
    refine call1 (shown_ok w0 _) ?_
    simp (maxSteps := 1000000) (disch := (first | omega | (simp only [St.next_alloc, St.next_upd]; omega))) only [Nat.reduceAdd, Nat.reduceSub, Nat.reduceMul, Nat.reduceLT, Nat.reduceLeDiff, Nat.reduceEqDiff, ↓reduceIte, reduceCtorEq, Int.reduceAdd, Int.reduceSub, Int.reduceMul, Int.reduceLT, Int.reduceLE, Int.reduceEq, Int.reduceNe, Int.reduceToNat, Int.reduceNeg, go_sem, Try.results7]
    exact gc_fin hw (Over.refl _) (by simp only [bnd_bool])
  by_cases hb2 : 1024 < r.size
  · simp (maxSteps := 1000000) (disch := (first | omega | (simp only [St.next_alloc, St.next_upd]; omega))) only [Nat.reduceAdd, Nat.reduceSub, Nat.reduceMul, Nat.reduceLT, Nat.reduceLeDiff, Nat.reduceEqDiff, ↓reduceIte, reduceCtorEq, Int.reduceAdd, Int.reduceSub, Int.reduceMul, Int.reduceLT, Int.reduceLE, Int.reduceEq, Int.reduceNe, Int.reduceToNat, Int.reduceNeg, go_sem]
    refine call1 (shown_ok w0 _) ?_
    simp (maxSteps := 1000000) (disch := (first | omega | (simp only [St.next_alloc, St.next_upd]; omega))) only [Nat.reduceAdd, Nat.reduceSub, Nat.reduceMul, Nat.reduceLT, Nat.reduceLeDiff, Nat.reduceEqDiff, ↓reduceIte, reduceCtorEq, Int.reduceAdd, Int.reduceSub, Int.reduceMul, Int.reduceLT, Int.reduceLE, Int.reduceEq, Int.reduceNe, Int.reduceToNat, Int.reduceNeg, go_sem, Try.results7]
    exact gc_fin hw (Over.refl _) (by simp only [bnd_bool])
  simp (maxSteps := 1000000) (disch := (first | omega | (simp only [St.next_alloc, St.next_upd]; omega))) only [Nat.reduceAdd, Nat.reduceSub, Nat.reduceMul, Nat.reduceLT, Nat.reduceLeDiff, Nat.reduceEqDiff, ↓reduceIte, reduceCtorEq, Int.reduceAdd, Int.reduceSub, Int.reduceMul, Int.reduceLT, Int.reduceLE, Int.reduceEq, Int.reduceNe, Int.reduceToNat, Int.reduceNeg, go_sem]
  refine call1 (shown_ok w0 _) ?_
  obtain ⟨w, hwk⟩ : ∃ w, w = 1 + k % 8 := ⟨_, rfl⟩
  have e1 : Int.tmod (k : Int) 8 = ((k % 8 : Nat) : Int) := by rw [Int.tmod_eq_emod_of_nonneg (by omega)]; omega
  have e2 : (1 : Int) + ((k % 8 : Nat) : Int) = (w : Int) := by omega
  have hw8 : 1 ≤ w ∧ w ≤ 8 := by omega
  have hlen : (enc n).length ≤ 10 := enc_len 9 n (by omega)
  have hlen2 : (enc s.size).length ≤ 10 := enc_len 9 s.size (by omega)
  have hp1 := str_size (enc n)
  have hp2 : (strOfNums (enc s.size ++ nums s)).size = (enc s.size).length + s.size := by rw [str_size, List.length_append, nums_length]
  have hp3 : (strOfNums (bigL n w)).size = w := by rw [str_size, bigL_length]
  have hg1 : getL 10 0 0 (nums (strOfNums (enc n) ++ r)) = ((n : Int), nums r, 0) := by
    rw [nums_append, nums_str (enc_byte n), getL_enc n 10 0 0 _ rfl (by omega) (by omega) (by simpa using hn)]
    simp
  have hby : ∀ x ∈ enc s.size ++ nums s, Byte x := fun x hx => (List.mem_append.1 hx).elim (enc_byte _ x) (nums_byte s x)
  have hg2 : readL (nums (strOfNums (enc s.size ++ nums s) ++ r)) = (nums s, nums r, 0) := by
    have h : getL 10 0 0 (nums (strOfNums (enc s.size ++ nums s) ++ r)) = ((s.size : Int), nums s ++ nums r, 0) := by
      rw [nums_append, nums_str hby, List.append_assoc, getL_enc s.size 10 0 0 _ rfl (by omega) (by omega) (by simp; omega)]
      simp
    unfold readL
    rw [h, if_neg (fun h => h rfl), if_neg (by simp only [List.length_append, nums_length]; omega)]
    simp only [Int.toNat_natCast]
    rw [← nums_length s, List.take_left, List.drop_left]
  have hbs : bigS n (w : Int) = bigL n w := by unfold bigS; rw [if_neg (by omega), Int.toNat_natCast]
  have hg3 : fixL (nums (strOfNums (bigL n w) ++ r)) (w : Int) = (((n % 256 ^ w : Nat) : Int), nums r, 0) := by
    unfold fixL
    rw [nums_append, nums_str (bigL_byte n w), if_neg (by omega), if_neg (by rw [List.length_append, bigL_length, nums_length]; omega), Int.toNat_natCast]
    have hl := bigL_length n w
    have h1 : (bigL n w ++ nums r).take w = bigL n w := by conv => lhs; arg 1; rw [← hl]
                                                           exact List.take_left
    have h2 : (bigL n w ++ nums r).drop w = nums r := by conv => lhs; arg 1; rw [← hl]
                                                         exact List.drop_left
    rw [h1, h2, beN_big]
  have hpw : 256 ^ w = 2 ^ (8 * w) := by rw [Nat.pow_mul]
  simp (maxSteps := 1000000) (disch := (first | omega | (simp only [St.next_alloc, St.next_upd]; omega))) only [Nat.reduceAdd, Nat.reduceSub, Nat.reduceMul, Nat.reduceLT, Nat.reduceLeDiff, Nat.reduceEqDiff, ↓reduceIte, reduceCtorEq, Int.reduceAdd, Int.reduceSub, Int.reduceMul, Int.reduceLT, Int.reduceLE, Int.reduceEq, Int.reduceNe, Int.reduceToNat, Int.reduceNeg, go_sem, e1, e2]
  refine ifB_dec (fun hlt => ?_) (fun hlt => ?_)
  · have e3 : ishl .u64 1 (8 * (w : Int)) = ((256 ^ w : Nat) : Int) := by
      have e : (8 * (w : Int)) = ((8 * w : Nat) : Int) := by omega
      rw [e, ishl_eq .u64 rfl 1 (8 * w) (by simp only [IntKind.bits]; omega) (by omega)]
      · rw [hpw, Int.one_mul, Int.natCast_pow]; rfl
      · have : 2 ^ (8 * w) < 2 ^ 64 := Nat.pow_lt_pow_right (by omega) (by omega)
        simp only [IntKind.bits, Int.one_mul]
        exact_mod_cast this
    have hpos : 0 < 256 ^ w := Nat.pow_pos (by omega)
    have hne : ((256 ^ w : Nat) : Int) ≠ 0 := by omega
    have e4 : Int.tmod (n : Int) ((256 ^ w : Nat) : Int) = ((n % 256 ^ w : Nat) : Int) := by rw [Int.tmod_eq_emod_of_nonneg (by omega), Int.natCast_emod]
    simp (maxSteps := 1000000) (disch := (first | omega | (simp only [St.next_alloc, St.next_upd]; omega))) only [Nat.reduceAdd, Nat.reduceSub, Nat.reduceMul, Nat.reduceLT, Nat.reduceLeDiff, Nat.reduceEqDiff, ↓reduceIte, reduceCtorEq, Int.reduceAdd, Int.reduceSub, Int.reduceMul, Int.reduceLT, Int.reduceLE, Int.reduceEq, Int.reduceNe, Int.reduceToNat, Int.reduceNeg, go_sem, e3, e4]
    refine call1 (put_ok w0 _ n hn) ?_
    simp (maxSteps := 1000000) (disch := (first | omega | (simp only [St.next_alloc, St.next_upd]; omega))) only [Nat.reduceAdd, Nat.reduceSub, Nat.reduceMul, Nat.reduceLT, Nat.reduceLeDiff, Nat.reduceEqDiff, ↓reduceIte, reduceCtorEq, Int.reduceAdd, Int.reduceSub, Int.reduceMul, Int.reduceLT, Int.reduceLE, Int.reduceEq, Int.reduceNe, Int.reduceToNat, Int.reduceNeg, go_sem]
    refine call1 (get_ok w0 _ _ (by rw [ByteArray.size_append]; omega)) ?_
    rw [hg1]
    simp (maxSteps := 1000000) (disch := (first | omega | (simp only [St.next_alloc, St.next_upd]; omega))) only [Nat.reduceAdd, Nat.reduceSub, Nat.reduceMul, Nat.reduceLT, Nat.reduceLeDiff, Nat.reduceEqDiff, ↓reduceIte, reduceCtorEq, Int.reduceAdd, Int.reduceSub, Int.reduceMul, Int.reduceLT, Int.reduceLE, Int.reduceEq, Int.reduceNe, Int.reduceToNat, Int.reduceNeg, go_sem, getV, str_nums]
    refine call1 (text_ok w0 _ s (by omega)) ?_
    simp (maxSteps := 1000000) (disch := (first | omega | (simp only [St.next_alloc, St.next_upd]; omega))) only [Nat.reduceAdd, Nat.reduceSub, Nat.reduceMul, Nat.reduceLT, Nat.reduceLeDiff, Nat.reduceEqDiff, ↓reduceIte, reduceCtorEq, Int.reduceAdd, Int.reduceSub, Int.reduceMul, Int.reduceLT, Int.reduceLE, Int.reduceEq, Int.reduceNe, Int.reduceToNat, Int.reduceNeg, go_sem]
    refine call1 (read_ok w0 _ _ (by rw [ByteArray.size_append]; omega)) ?_
    rw [hg2]
    simp (maxSteps := 1000000) (disch := (first | omega | (simp only [St.next_alloc, St.next_upd]; omega))) only [Nat.reduceAdd, Nat.reduceSub, Nat.reduceMul, Nat.reduceLT, Nat.reduceLeDiff, Nat.reduceEqDiff, ↓reduceIte, reduceCtorEq, Int.reduceAdd, Int.reduceSub, Int.reduceMul, Int.reduceLT, Int.reduceLE, Int.reduceEq, Int.reduceNe, Int.reduceToNat, Int.reduceNeg, go_sem, readV, str_nums]
    refine call1 (big_ok w0 _ n _ hn) ?_
    rw [hbs]
    simp (maxSteps := 1000000) (disch := (first | omega | (simp only [St.next_alloc, St.next_upd]; omega))) only [Nat.reduceAdd, Nat.reduceSub, Nat.reduceMul, Nat.reduceLT, Nat.reduceLeDiff, Nat.reduceEqDiff, ↓reduceIte, reduceCtorEq, Int.reduceAdd, Int.reduceSub, Int.reduceMul, Int.reduceLT, Int.reduceLE, Int.reduceEq, Int.reduceNe, Int.reduceToNat, Int.reduceNeg, go_sem]
    refine call1 (fixed_ok w0 _ _ _ (by rw [ByteArray.size_append]; omega)) ?_
    rw [hg3]
    simp (maxSteps := 1000000) (disch := (first | omega | (simp only [St.next_alloc, St.next_upd]; omega))) only [Nat.reduceAdd, Nat.reduceSub, Nat.reduceMul, Nat.reduceLT, Nat.reduceLeDiff, Nat.reduceEqDiff, ↓reduceIte, reduceCtorEq, Int.reduceAdd, Int.reduceSub, Int.reduceMul, Int.reduceLT, Int.reduceLE, Int.reduceEq, Int.reduceNe, Int.reduceToNat, Int.reduceNeg, go_sem, getV, str_nums, beqBytes, eq_self, Try.results7]
    exact gc_fin hw (Over.refl _) (by simp only [bnd_bool])
  · have hw8e : w = 8 := by omega
    have e5 : n % 256 ^ w = n := by
      rw [hw8e]
      exact Nat.mod_eq_of_lt (by omega)
    simp (maxSteps := 1000000) (disch := (first | omega | (simp only [St.next_alloc, St.next_upd]; omega))) only [Nat.reduceAdd, Nat.reduceSub, Nat.reduceMul, Nat.reduceLT, Nat.reduceLeDiff, Nat.reduceEqDiff, ↓reduceIte, reduceCtorEq, Int.reduceAdd, Int.reduceSub, Int.reduceMul, Int.reduceLT, Int.reduceLE, Int.reduceEq, Int.reduceNe, Int.reduceToNat, Int.reduceNeg, go_sem]
    refine call1 (put_ok w0 _ n hn) ?_
    simp (maxSteps := 1000000) (disch := (first | omega | (simp only [St.next_alloc, St.next_upd]; omega))) only [Nat.reduceAdd, Nat.reduceSub, Nat.reduceMul, Nat.reduceLT, Nat.reduceLeDiff, Nat.reduceEqDiff, ↓reduceIte, reduceCtorEq, Int.reduceAdd, Int.reduceSub, Int.reduceMul, Int.reduceLT, Int.reduceLE, Int.reduceEq, Int.reduceNe, Int.reduceToNat, Int.reduceNeg, go_sem]
    refine call1 (get_ok w0 _ _ (by rw [ByteArray.size_append]; omega)) ?_
    rw [hg1]
    simp (maxSteps := 1000000) (disch := (first | omega | (simp only [St.next_alloc, St.next_upd]; omega))) only [Nat.reduceAdd, Nat.reduceSub, Nat.reduceMul, Nat.reduceLT, Nat.reduceLeDiff, Nat.reduceEqDiff, ↓reduceIte, reduceCtorEq, Int.reduceAdd, Int.reduceSub, Int.reduceMul, Int.reduceLT, Int.reduceLE, Int.reduceEq, Int.reduceNe, Int.reduceToNat, Int.reduceNeg, go_sem, getV, str_nums]
    refine call1 (text_ok w0 _ s (by omega)) ?_
    simp (maxSteps := 1000000) (disch := (first | omega | (simp only [St.next_alloc, St.next_upd]; omega))) only [Nat.reduceAdd, Nat.reduceSub, Nat.reduceMul, Nat.reduceLT, Nat.reduceLeDiff, Nat.reduceEqDiff, ↓reduceIte, reduceCtorEq, Int.reduceAdd, Int.reduceSub, Int.reduceMul, Int.reduceLT, Int.reduceLE, Int.reduceEq, Int.reduceNe, Int.reduceToNat, Int.reduceNeg, go_sem]
    refine call1 (read_ok w0 _ _ (by rw [ByteArray.size_append]; omega)) ?_
    rw [hg2]
    simp (maxSteps := 1000000) (disch := (first | omega | (simp only [St.next_alloc, St.next_upd]; omega))) only [Nat.reduceAdd, Nat.reduceSub, Nat.reduceMul, Nat.reduceLT, Nat.reduceLeDiff, Nat.reduceEqDiff, ↓reduceIte, reduceCtorEq, Int.reduceAdd, Int.reduceSub, Int.reduceMul, Int.reduceLT, Int.reduceLE, Int.reduceEq, Int.reduceNe, Int.reduceToNat, Int.reduceNeg, go_sem, readV, str_nums]
    refine call1 (big_ok w0 _ n _ hn) ?_
    rw [hbs]
    simp (maxSteps := 1000000) (disch := (first | omega | (simp only [St.next_alloc, St.next_upd]; omega))) only [Nat.reduceAdd, Nat.reduceSub, Nat.reduceMul, Nat.reduceLT, Nat.reduceLeDiff, Nat.reduceEqDiff, ↓reduceIte, reduceCtorEq, Int.reduceAdd, Int.reduceSub, Int.reduceMul, Int.reduceLT, Int.reduceLE, Int.reduceEq, Int.reduceNe, Int.reduceToNat, Int.reduceNeg, go_sem]
    refine call1 (fixed_ok w0 _ _ _ (by rw [ByteArray.size_append]; omega)) ?_
    rw [hg3]
    simp (maxSteps := 1000000) (disch := (first | omega | (simp only [St.next_alloc, St.next_upd]; omega))) only [Nat.reduceAdd, Nat.reduceSub, Nat.reduceMul, Nat.reduceLT, Nat.reduceLeDiff, Nat.reduceEqDiff, ↓reduceIte, reduceCtorEq, Int.reduceAdd, Int.reduceSub, Int.reduceMul, Int.reduceLT, Int.reduceLE, Int.reduceEq, Int.reduceNe, Int.reduceToNat, Int.reduceNeg, go_sem, getV, str_nums, beqBytes, eq_self, e5, Try.results7]
    exact gc_fin hw (Over.refl _) (by simp only [bnd_bool])
theorem varintBack_ok (w0 : World) (A : St) (n : Int) (s r : ByteArray) (k : Int) (hn : 0 ≤ n ∧ n ≤ 18446744073709551615) (hk : 0 ≤ k ∧ k ≤ 255) : ACalls Try.prog w0 7 #[.int .u64 n, .string s, .string r, .int .u8 k] A (fin (.bool true) A) := by
  obtain ⟨n, rfl⟩ := Int.eq_ofNat_of_zero_le hn.1
  obtain ⟨k, rfl⟩ := Int.eq_ofNat_of_zero_le hk.1
  have h1 := hn.2
  have h2 := hk.2
  exact varintBack_ok0 w0 A n k s r (by omega) (by omega)
end Go.Fw
