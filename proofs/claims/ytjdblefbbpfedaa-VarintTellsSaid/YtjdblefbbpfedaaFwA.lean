import Derived.Test.YtjdblefbbpfedaaFwFacts
set_option linter.unusedSimpArgs false
set_option linter.unusedVariables false
namespace Go.Fw
open Go.Proofs Go.RowKit
attribute [local go_sem] List.length_cons List.length_nil Nat.zero_add Nat.add_zero Nat.zero_mul Nat.mul_one Int.toNat_zero Int.toNat_natCast List.map_cons List.map_nil List.map_toArray List.toList_toArray List.append_toArray List.nil_append List.cons_append List.append_nil List.all_toArray List.all_cons List.all_nil Bool.and_true Bool.true_and Bool.and_self List.getElem?_toArray List.getElem?_cons_zero List.getElem?_cons_succ Option.bind_some Option.map_some id true_and and_true and_self St.next_alloc St.next_upd beq_self_eq_true Bool.not_true Bool.not_false Bool.false_eq_true false_implies true_implies Option.isNone_none Option.isNone_some Option.isSome_none Option.isSome_some ge_iff_le gt_iff_lt Nat.sub_zero Nat.add_assoc IntWalk.i64_in IntWalk.u64_in IntWalk.u8_in IntWalk.u32_in IntWalk.i32_in IntWalk.u16_in dec_not Bool.not_eq_true decide_true decide_false ne_eq not_true_eq_false not_false_eq_true Bool.true_or Bool.or_true Bool.or_false Bool.false_or Bool.and_false Bool.false_and upd_apply rd_eq ar_zero ar_succ ar_nil tm_size tm_getD tm_set E_tmps E_defers put_E put_none eval_tmp eval_const eval_func setArgs_0 setArgs_1 setArgs_2 append_lit stepV_some stepA_some guardO_true ifB_true ifB_false wantV_true wantV_false wantV_dec_t wantV_dec_f ifB_dec_t ifB_dec_f condV_bool dec_and dec_or isB_bool someB_t someB_f okO_tmp okO_func okO_int okO_bool okO_string okO_ptr0 okO_slice0 okO_nilFunc okO_nilIface okO_map0 okO_agg wanted_none wanted_some lookT_some aopsL_nil aopsL_cons wpA_skip wpA_label wpA_exit wpA_goto wpA_ret wpA_seq wpA_block wpA_region wpA_cond wpA_loop wpA_rangeFunc wpA_draw thenQ_normal thenQ_exit thenQ_ret thenQ_panic blockQ_normal blockQ_ret blockQ_panic blockQ_exit funQ_ret funQ_normal funQ_panic op_move op_assign pickV_or pickV_and pickV_t pickV_f pickV_true pickV_false op_pick allocV_some op_alloc op_box op_load op_nilCheck op_bin op_un op_convert op_makeInterface op_makeSlice op_fieldAddr op_field op_indexAddr op_index op_extract op_typeAssert storeV_some op_store op_slice00 op_slice10 op_slice01 op_slice11 op_slice111 op_slice011 op_build op_buildSlice op_makeFunc callV_true op_call op_builtin panicV_iface op_panic ACallV_func ACallV_yield afterCall_returned afterCall_panicked bin_add bin_sub bin_mul bin_and bin_or bin_xor bin_andNot bin_eql bin_neq bin_lss bin_leq bin_gtr bin_geq bin_quo bin_rem bin_shl bin_shr bin_sadd bin_seql bin_sneq bin_slss uB_bool bin_beql bin_bneq uP_pointer bin_peql bin_pneq uS_slice bin_leql bin_lneq bin_ieql bin_ineq un_neg un_xor un_not nilCheck_ptr nilCheck_func nilCheck_yield load_ptr loadC_one loadC_agg store_ptr slice_eq sliceU_string sliceU_slice sliceU_array sliceS_eq boundsS_some sliceL_eq boundsL_nil boundsL_exact boundsL_least boundsL_own boundsL_ownN bounds_11 bounds_10 bounds_01 bounds_00 builtin_len len_string len_array len_slice builtin_append builtin_copy pairA_some builtin_min builtin_max min_two max_two index_eq index_string index_array indexAddr_eq indexAddr_array indexAddr_slice fieldAddr_eq posO_some fAddr_some fieldAddr_struct partC_some field_eq field_struct part_eq partU_one partU_agg extract_tuple conv_eq conv_int conv_string u8O_u8 conv_bytes conv_text_nil conv_text_zero conv_text mkIface_eq get_upd_same consO_some finR_0 finR_1 finR_2 aresL_nil aresL_cons ares1_tmp ares1_cell retV_some aleave_nil aleave_coll bnd_int bnd_bool bnd_string bnd_nilIface bnd_slice0 bnd_iface bnd_slice bnd_ptr bnd_ptr0 bndL_nil bndL_cons bndA_lit bnd_tuple bnd_agg calm_same skipC_eq aopsC_nil aopsC_cons stepC_call stepC_move stepC_assign stepC_pick stepC_alloc stepC_box stepC_build stepC_buildSlice stepC_load stepC_store stepC_nilCheck stepC_binOp stepC_unOp stepC_convert stepC_makeInterface stepC_makeFunc stepC_makeSlice stepC_slice stepC_fieldAddr stepC_field stepC_indexAddr stepC_index stepC_extract stepC_typeAssert stepC_builtin to_same sameA_eq aopsX_nil aopsX_cons stepX_heavy stepX_light lightK_eq allC_nil allC_cons hs_zero hs_succ stepT_call pure_call stepT_move pure_move stepT_assign pure_assign stepT_pick pure_pick stepT_alloc pure_alloc stepT_box pure_box stepT_build pure_build stepT_buildSlice pure_buildSlice stepT_load pure_load stepT_store pure_store stepT_nilCheck pure_nilCheck stepT_binOp pure_binOp stepT_unOp pure_unOp stepT_convert pure_convert stepT_makeInterface pure_makeInterface stepT_makeFunc pure_makeFunc stepT_makeSlice pure_makeSlice stepT_slice pure_slice stepT_fieldAddr pure_fieldAddr stepT_field pure_field stepT_indexAddr pure_indexAddr stepT_index pure_index stepT_extract pure_extract stepT_typeAssert pure_typeAssert stepT_builtin pure_b_len pure_b_append pure_b_copy pure_b_min pure_b_max mk_E get_alloc_old get_alloc_new get_upd_old Try.agg1 Try.sz1 Try.byt1 Try.zero1 Try.agg2 Try.sz2 Try.byt2 Try.zero2 Try.agg3 Try.sz3 Try.byt3 Try.zero3 Try.agg4 Try.sz4 Try.byt4 Try.zero4 Try.agg5 Try.sz5 Try.byt5 Try.zero5 Try.agg6 Try.sz6 Try.byt6 Try.zero6 Try.agg7 Try.sz7 Try.byt7 Try.zero7 Try.agg8 Try.sz8 Try.byt8 Try.zero8 Try.agg9 Try.sz9 Try.byt9 Try.zero9 Try.agg10 Try.sz10 Try.byt10 Try.zero10 Try.agg11 Try.sz11 Try.byt11 Try.zero11 Try.agg12 Try.sz12 Try.byt12 Try.zero12 Try.agg13 Try.sz13 Try.byt13 Try.zero13 Try.agg14 Try.sz14 Try.byt14 Try.zero14 Try.agg15 Try.sz15 Try.byt15 Try.zero15 Try.agg16 Try.sz16 Try.byt16 Try.zero16 Try.agg17 Try.sz17 Try.byt17 Try.zero17 Try.agg18 Try.sz18 Try.byt18 Try.zero18 Try.agg19 Try.sz19 Try.byt19 Try.zero19 Try.agg20 Try.sz20 Try.byt20 Try.zero20 Try.agg21 Try.sz21 Try.byt21 Try.zero21 Try.agg22 Try.sz22 Try.byt22 Try.zero22 Try.agg23 Try.sz23 Try.byt23 Try.zero23 Try.agg24 Try.sz24 Try.byt24 Try.zero24 Try.agg26 Try.sz26 Try.byt26 Try.zero26 Try.agg27 Try.sz27 Try.byt27 Try.zero27 Try.agg28 Try.sz28 Try.byt28 Try.zero28 Try.agg29 Try.sz29 Try.byt29 Try.zero29 Try.agg30 Try.sz30 Try.byt30 Try.el30 Try.zero30 Try.agg31 Try.sz31 Try.byt31 Try.zero31 Try.agg33 Try.sz33 Try.byt33 Try.zero33 Try.agg34 Try.sz34 Try.byt34 Try.zero34 Try.agg35 Try.sz35 Try.byt35 Try.zero35 Try.agg36 Try.sz36 Try.byt36 Try.zero36 Try.agg37 Try.sz37 Try.byt37 Try.zero37 Try.agg38 Try.sz38 Try.byt38 Try.zero38 Try.agg39 Try.sz39 Try.byt39 Try.zero39 Try.agg41 Try.sz41 Try.byt41 Try.zero41 Try.agg42 Try.sz42 Try.byt42 Try.zero42 Try.agg43 Try.sz43 Try.byt43 Try.zero43 Try.agg44 Try.sz44 Try.byt44 Try.zero44 Try.agg45 Try.sz45 Try.byt45 Try.zero45 Try.agg46 Try.sz46 Try.byt46 Try.zero46 Try.agg47 Try.sz47 Try.byt47 Try.zero47 Try.agg48 Try.sz48 Try.byt48 Try.zero48 Try.agg49 Try.sz49 Try.byt49 Try.zero49 Try.agg50 Try.sz50 Try.byt50 Try.zero50 Try.agg51 Try.sz51 Try.byt51 Try.zero51 Try.agg52 Try.sz52 Try.byt52 Try.zero52 Try.agg53 Try.sz53 Try.byt53 Try.zero53 Try.agg54 Try.sz54 Try.byt54 Try.zero54 Try.agg55 Try.sz55 Try.byt55 Try.zero55 Try.agg56 Try.sz56 Try.byt56 Try.zero56 Try.agg57 Try.sz57 Try.byt57 Try.zero57 Try.agg58 Try.sz58 Try.byt58 Try.zero58 Try.agg59 Try.sz59 Try.byt59 Try.zero59 Try.agg60 Try.sz60 Try.byt60 Try.zero60 Try.agg61 Try.sz61 Try.byt61 Try.zero61 Try.agg62 Try.sz62 Try.byt62 Try.zero62 Try.underlying1 Try.underlying2 Try.underlying3 Try.underlying4 Try.underlying5 Try.underlying6 Try.underlying7 Try.underlying8 Try.underlying9 Try.underlying10 Try.underlying11 Try.underlying12 Try.underlying13 Try.underlying14 Try.underlying15 Try.underlying16 Try.underlying17 Try.underlying18 Try.underlying19 Try.underlying20 Try.underlying21 Try.underlying22 Try.underlying23 Try.underlying24 Try.underlying26 Try.underlying27 Try.underlying28 Try.underlying29 Try.underlying30 Try.underlying31 Try.underlying33 Try.underlying34 Try.underlying35 Try.underlying36 Try.underlying37 Try.underlying38 Try.underlying39 Try.underlying41 Try.underlying42 Try.underlying43 Try.underlying44 Try.underlying45 Try.underlying46 Try.underlying47 Try.underlying48 Try.underlying49 Try.underlying50 Try.underlying51 Try.underlying52 Try.underlying53 Try.underlying54 Try.underlying55 Try.underlying56 Try.underlying57 Try.underlying58 Try.underlying59 Try.underlying60 Try.underlying61 Try.underlying62
theorem Try.enters21 : Enters Try.prog 21 := enters_of Try.func21 rfl (by kernel_rfl)
theorem Try.enters9 : Enters Try.prog 9 := enters_of Try.func9 rfl (by kernel_rfl)

set_option maxHeartbeats 400000 in
theorem get1_yes (w0 : World) (A : St) (B : Nat) (s : ByteArray) (m : Option Nat) (i : Int) (hB : A.get B = some (.cells [.string s] 9 m)) (h0 : 0 ≤ i) (h1 : i < s.size) :
    ACalls Try.prog w0 21 #[.int .i64 i, .pointer (some ⟨B, 0, none⟩)] A (fin (.tuple #[.int .u8 (sbt s i.toNat), .bool true]) A) := by
  refine call_E Try.enters21 Try.func21 rfl (Nat.le_of_ble_eq_true rfl) fun hw hbd => ?_
  simp (maxSteps := 1000000) (disch := (first | omega | (simp only [St.next_alloc, St.next_upd]; omega))) only [Nat.reduceAdd, Nat.reduceSub, Nat.reduceMul, Nat.reduceLT, Nat.reduceLeDiff, Nat.reduceEqDiff, ↓reduceIte, reduceCtorEq, Int.reduceAdd, Int.reduceSub, Int.reduceMul, Int.reduceLT, Int.reduceLE, Int.reduceEq, Int.reduceNe, Int.reduceToNat, Int.reduceNeg, go_sem, Try.ntmps21, Try.results21, hB]
  exact gc_fin hw (Over.refl _) (by simp only [bnd_tuple, bndL_cons, bndL_nil, bnd_int, bnd_bool, and_self])
set_option maxHeartbeats 400000 in
theorem get1_no (w0 : World) (A : St) (B : Nat) (s : ByteArray) (m : Option Nat) (i : Int) (hB : A.get B = some (.cells [.string s] 9 m)) (h1 : s.size ≤ i) :
    ACalls Try.prog w0 21 #[.int .i64 i, .pointer (some ⟨B, 0, none⟩)] A (fin (.tuple #[.int .u8 0, .bool false]) A) := by
  refine call_E Try.enters21 Try.func21 rfl (Nat.le_of_ble_eq_true rfl) fun hw hbd => ?_
  simp (maxSteps := 1000000) (disch := (first | omega | (simp only [St.next_alloc, St.next_upd]; omega))) only [Nat.reduceAdd, Nat.reduceSub, Nat.reduceMul, Nat.reduceLT, Nat.reduceLeDiff, Nat.reduceEqDiff, ↓reduceIte, reduceCtorEq, Int.reduceAdd, Int.reduceSub, Int.reduceMul, Int.reduceLT, Int.reduceLE, Int.reduceEq, Int.reduceNe, Int.reduceToNat, Int.reduceNeg, go_sem, Try.ntmps21, Try.results21, hB]
  exact gc_fin hw (Over.refl _) (by simp only [bnd_tuple, bndL_cons, bndL_nil, bnd_int, bnd_bool, and_self])

/-- A number's first bytes, read. -/
def getL : Nat → Nat → Int → List Int → Int × List Int × Int
  | 0, _, _, _ => (0, [], 41)
  | k + 1, i, n, [] => (0, [], 40)
  | k + 1, i, n, c :: r => if (i = 9 ∧ c > 1) ∨ (i > 0 ∧ c = 0) then (0, [], 41) else if c < 128 then (n + (c % 128) * 2 ^ (7 * i), r, 0) else getL k (i + 1) (n + (c % 128) * 2 ^ (7 * i)) r
def getV (x : Int × List Int × Int) : Value := .tuple #[.int .u64 x.1, .string (strOfNums x.2.1), .int .i64 x.2.2]

theorem getL_of {i : Nat} {c : Int} {r : List Int} {k : Nat} {n : Int} : getL (k + 1) i n (c :: r) = if (i = 9 ∧ c > 1) ∨ (i > 0 ∧ c = 0) then (0, [], 41) else if c < 128 then (n + (c % 128) * 2 ^ (7 * i), r, 0) else getL k (i + 1) (n + (c % 128) * 2 ^ (7 * i)) r := rfl
theorem bytes_drop {l : List Int} (h : ∀ x ∈ l, Byte x) (i : Nat) : ∀ x ∈ l.drop i, Byte x := fun x hx => h x (List.mem_of_mem_drop hx)
/-- The seven bits of a byte, laid above those that were read. -/
theorem get_or (i : Nat) (n c : Int) (hi : i ≤ 9) (hn0 : 0 ≤ n) (hn : n < 2 ^ (7 * i)) (hc : Byte c) (h9 : i = 9 → c ≤ 1) :
    ibits .and .u8 c 127 = c % 128 ∧ ibits .or .u64 n (ishl .u64 (c % 128) (7 * (i : Int))) = n + (c % 128) * 2 ^ (7 * i) ∧ 0 ≤ n + (c % 128) * 2 ^ (7 * i) ∧ n + (c % 128) * 2 ^ (7 * i) < 18446744073709551616 ∧ (c < 128 ∨ i < 9) ∧ n + (c % 128) * 2 ^ (7 * i) < 2 ^ (7 * (i + 1)) := by
  obtain ⟨h0, h1⟩ := hc
  have e1 : ibits .and .u8 c 127 = c % 128 := and_mask .u8 rfl c 7 ⟨h0, h1⟩ (by decide)
  have hm : 0 ≤ c % 128 ∧ c % 128 < 128 := ⟨by omega, by omega⟩
  refine ⟨e1, ?_⟩
  have hp : (0 : Int) < 2 ^ (7 * i) := Int.pow_pos (by omega)
  have hs : (2 : Int) ^ (7 * (i + 1)) = 128 * 2 ^ (7 * i) := by rw [show 7 * (i + 1) = 7 + 7 * i by omega, Int.pow_add]; rfl
  have hb : (c % 128) * 2 ^ (7 * i) + n < 2 ^ (7 * (i + 1)) := by
    rw [hs]
    have : (c % 128) * 2 ^ (7 * i) ≤ 127 * 2 ^ (7 * i) := Int.mul_le_mul_of_nonneg_right (by omega) (by omega)
    omega
  have hb2 : (c % 128) * 2 ^ (7 * i) + n < 2 ^ 64 := by
    by_cases h : i = 9
    · subst h
      have := h9 rfl
      have h2 : c % 128 ≤ 1 := by omega
      have : (c % 128) * 2 ^ (7 * 9) ≤ 1 * 2 ^ (7 * 9) := Int.mul_le_mul_of_nonneg_right h2 (by omega)
      have hn' : n < 2 ^ 63 := hn
      have e63 : (2 : Int) ^ (7 * 9) = 2 ^ 63 := rfl
      rw [e63] at this ⊢
      omega
    · have h3 : (2 : Int) ^ (7 * (i + 1)) ≤ 2 ^ 63 := by
        have : (2 : Nat) ^ (7 * (i + 1)) ≤ 2 ^ 63 := Nat.pow_le_pow_right (by omega) (by omega)
        exact_mod_cast this
      have h4 : (2 : Int) ^ 63 ≤ 2 ^ 64 := by decide
      omega
  have hd0 : 0 ≤ (c % 128) * 2 ^ (7 * i) := Int.mul_nonneg (by omega) (by omega)
  have e7 : (7 * (i : Int)) = ((7 * i : Nat) : Int) := by push_cast; rfl
  have h64 : (2 : Int) ^ 64 = 18446744073709551616 := rfl
  rw [e7, ishl_eq .u64 rfl _ (7 * i) (by simp [IntKind.bits]; omega) hm.1 (by simp only [IntKind.bits]; omega), or_add .u64 rfl n _ (7 * i) hn0 hn hm.1 (by simp only [IntKind.bits]; exact hb2)]
  exact ⟨rfl, by omega, by omega, by omega, by omega⟩
set_option maxHeartbeats 1000000 in
theorem get_ok (w0 : World) (A : St) (s : ByteArray) (hs : s.size ≤ 140737488355327) : ACalls Try.prog w0 9 #[.string s] A (fin (getV (getL 10 0 0 (nums s))) A) := by
  refine call_E Try.enters9 Try.func9 rfl (Nat.le_of_ble_eq_true rfl) fun hw hbd => ?_
  simp (maxSteps := 1000000) (disch := (first | omega | (simp only [St.next_alloc, St.next_upd]; omega))) only [Nat.reduceAdd, Nat.reduceSub, Nat.reduceMul, Nat.reduceLT, Nat.reduceLeDiff, Nat.reduceEqDiff, ↓reduceIte, reduceCtorEq, Int.reduceAdd, Int.reduceSub, Int.reduceMul, Int.reduceLT, Int.reduceLE, Int.reduceEq, Int.reduceNe, Int.reduceToNat, Int.reduceNeg, go_sem, Try.ntmps9, Try.results9]
  obtain ⟨A1, hA1⟩ : ∃ A1, A1 = A.alloc (.cells [.string s] 9 (some 0)) := ⟨_, rfl⟩
  have hov : Over A A1 := hA1 ▸ (Over.refl A).alloc _
  have hB : A1.get A.next = some (.cells [.string s] 9 (some 0)) := by rw [hA1]; exact get_alloc_same ..
  rw [← hA1]
  refine aw_loop (fun m a A' => ∃ (ρ : Nat → Value) (i : Nat) (n : Int), a = E 52 ρ [] ∧ A' = A1 ∧ m = 10 - i ∧ i ≤ 10 ∧ i ≤ s.size ∧ ρ 1 = .pointer (some ⟨A.next, 0, none⟩) ∧ ρ 5 = .int .u64 n ∧ ρ 6 = .func (.func 21) #[] #[.pointer (some ⟨A.next, 0, none⟩)] ∧ ρ 11 = .int .i64 i ∧
    0 ≤ n ∧ n < 2 ^ (7 * i) ∧ getL 10 0 0 (nums s) = getL (10 - i) i n ((nums s).drop i)) 10 ⟨_, 0, 0, rfl, rfl, rfl, by omega, by omega, rfl, rfl, rfl, rfl, by omega, by decide, by simp⟩ ?_
  rintro m a A' ⟨ρ, i, n, rfl, rfl, rfl, hi, his, h1, h5, h6, h11, hn0, hn, hL⟩
  refine aw_of ?_
  simp (maxSteps := 1000000) (disch := (first | omega | (simp only [St.next_alloc, St.next_upd]; omega))) only [Nat.reduceAdd, Nat.reduceSub, Nat.reduceMul, Nat.reduceLT, Nat.reduceLeDiff, Nat.reduceEqDiff, ↓reduceIte, reduceCtorEq, Int.reduceAdd, Int.reduceSub, Int.reduceMul, Int.reduceLT, Int.reduceLE, Int.reduceEq, Int.reduceNe, Int.reduceToNat, Int.reduceNeg, go_sem, h11]
  refine ifB_dec (fun h10 => ?_) (fun h10 => ?_)
  rotate_left
  · have : i = 10 := by omega
    subst this
    simp (maxSteps := 1000000) (disch := (first | omega | (simp only [St.next_alloc, St.next_upd]; omega))) only [Nat.reduceAdd, Nat.reduceSub, Nat.reduceMul, Nat.reduceLT, Nat.reduceLeDiff, Nat.reduceEqDiff, ↓reduceIte, reduceCtorEq, Int.reduceAdd, Int.reduceSub, Int.reduceMul, Int.reduceLT, Int.reduceLE, Int.reduceEq, Int.reduceNe, Int.reduceToNat, Int.reduceNeg, go_sem, Try.results9]
    exact gc_fin' hw hov (by rw [hL]; rfl) (by simp only [getV, bnd_tuple, bndL_cons, bndL_nil, bnd_int, bnd_string, and_self])
  have bndV : ∀ x, Bnd A.next (getV x) := fun x => by simp only [getV, bnd_tuple, bndL_cons, bndL_nil, bnd_int, bnd_string, and_self]
  obtain ⟨k, hk⟩ : ∃ k, 10 - i = k + 1 := ⟨9 - i, by omega⟩
  rw [hk] at hL
  simp (maxSteps := 1000000) (disch := (first | omega | (simp only [St.next_alloc, St.next_upd]; omega))) only [Nat.reduceAdd, Nat.reduceSub, Nat.reduceMul, Nat.reduceLT, Nat.reduceLeDiff, Nat.reduceEqDiff, ↓reduceIte, reduceCtorEq, Int.reduceAdd, Int.reduceSub, Int.reduceMul, Int.reduceLT, Int.reduceLE, Int.reduceEq, Int.reduceNe, Int.reduceToNat, Int.reduceNeg, go_sem, h6, h11]
  by_cases his2 : i < s.size
  rotate_left
  · refine call1 (get1_no w0 A' A.next s _ i hB (by omega)) ?_
    simp (maxSteps := 1000000) (disch := (first | omega | (simp only [St.next_alloc, St.next_upd]; omega))) only [Nat.reduceAdd, Nat.reduceSub, Nat.reduceMul, Nat.reduceLT, Nat.reduceLeDiff, Nat.reduceEqDiff, ↓reduceIte, reduceCtorEq, Int.reduceAdd, Int.reduceSub, Int.reduceMul, Int.reduceLT, Int.reduceLE, Int.reduceEq, Int.reduceNe, Int.reduceToNat, Int.reduceNeg, go_sem, Try.results9]
    exact gc_fin' hw hov (by rw [hL, List.drop_of_length_le (by rw [nums_length]; omega)]; rfl) (bndV _)
  refine call1 (get1_yes w0 A' A.next s _ i hB (by omega) (by omega)) ?_
  rw [sbt_drop s i his2, getL_of] at hL
  have hcb := sbt_byte s i
  simp (maxSteps := 1000000) (disch := (first | omega | (simp only [St.next_alloc, St.next_upd]; omega))) only [Nat.reduceAdd, Nat.reduceSub, Nat.reduceMul, Nat.reduceLT, Nat.reduceLeDiff, Nat.reduceEqDiff, ↓reduceIte, reduceCtorEq, Int.reduceAdd, Int.reduceSub, Int.reduceMul, Int.reduceLT, Int.reduceLE, Int.reduceEq, Int.reduceNe, Int.reduceToNat, Int.reduceNeg, go_sem]
  obtain ⟨c, hc⟩ : ∃ c, c = sbt s i := ⟨_, rfl⟩
  rw [← hc] at hL hcb ⊢
  have hcases : ((i = 9 ∧ c > 1) ∨ (i = 9 ∧ ¬ c > 1 ∧ c = 0) ∨ (i ≠ 9 ∧ i > 0 ∧ c = 0)) ∨ ((i = 9 ∧ ¬ c > 1 ∧ c ≠ 0) ∨ (i ≠ 9 ∧ i > 0 ∧ c ≠ 0) ∨ i = 0) := by omega
  rcases hcases with hbad | hgood
  · have hbad' : (i = 9 ∧ c > 1) ∨ (i > 0 ∧ c = 0) := by omega
    rw [if_pos hbad'] at hL
    rcases hbad with hb | hb | hb
    · simp (maxSteps := 1000000) (disch := (first | omega | (simp only [St.next_alloc, St.next_upd]; omega))) only [Nat.reduceAdd, Nat.reduceSub, Nat.reduceMul, Nat.reduceLT, Nat.reduceLeDiff, Nat.reduceEqDiff, ↓reduceIte, reduceCtorEq, Int.reduceAdd, Int.reduceSub, Int.reduceMul, Int.reduceLT, Int.reduceLE, Int.reduceEq, Int.reduceNe, Int.reduceToNat, Int.reduceNeg, go_sem, Try.results9]
      exact gc_fin' hw hov (by rw [hL]; rfl) (bndV _)
    · simp (maxSteps := 1000000) (disch := (first | omega | (simp only [St.next_alloc, St.next_upd]; omega))) only [Nat.reduceAdd, Nat.reduceSub, Nat.reduceMul, Nat.reduceLT, Nat.reduceLeDiff, Nat.reduceEqDiff, ↓reduceIte, reduceCtorEq, Int.reduceAdd, Int.reduceSub, Int.reduceMul, Int.reduceLT, Int.reduceLE, Int.reduceEq, Int.reduceNe, Int.reduceToNat, Int.reduceNeg, go_sem, Try.results9]
      exact gc_fin' hw hov (by rw [hL]; rfl) (bndV _)
    · simp (maxSteps := 1000000) (disch := (first | omega | (simp only [St.next_alloc, St.next_upd]; omega))) only [Nat.reduceAdd, Nat.reduceSub, Nat.reduceMul, Nat.reduceLT, Nat.reduceLeDiff, Nat.reduceEqDiff, ↓reduceIte, reduceCtorEq, Int.reduceAdd, Int.reduceSub, Int.reduceMul, Int.reduceLT, Int.reduceLE, Int.reduceEq, Int.reduceNe, Int.reduceToNat, Int.reduceNeg, go_sem, Try.results9]
      exact gc_fin' hw hov (by rw [hL]; rfl) (bndV _)
  · have hgood' : ¬ ((i = 9 ∧ c > 1) ∨ (i > 0 ∧ c = 0)) := by omega
    rw [if_neg hgood'] at hL
    have hor := get_or i n c (by omega) hn0 hn hcb (by omega)
    obtain ⟨e1, e2, e3, e4, e5, e6⟩ := hor
    have hcc := hcb.1
    have hcd := hcb.2
    rcases hgood with hb | hb | hb
    · simp (maxSteps := 1000000) (disch := (first | omega | (simp only [St.next_alloc, St.next_upd]; omega))) only [Nat.reduceAdd, Nat.reduceSub, Nat.reduceMul, Nat.reduceLT, Nat.reduceLeDiff, Nat.reduceEqDiff, ↓reduceIte, reduceCtorEq, Int.reduceAdd, Int.reduceSub, Int.reduceMul, Int.reduceLT, Int.reduceLE, Int.reduceEq, Int.reduceNe, Int.reduceToNat, Int.reduceNeg, go_sem, Try.results9, h5, e1, e2]
      refine aw_draw (by kernel_rfl) ?_
      simp (maxSteps := 1000000) (disch := (first | omega | (simp only [St.next_alloc, St.next_upd]; omega))) only [Nat.reduceAdd, Nat.reduceSub, Nat.reduceMul, Nat.reduceLT, Nat.reduceLeDiff, Nat.reduceEqDiff, ↓reduceIte, reduceCtorEq, Int.reduceAdd, Int.reduceSub, Int.reduceMul, Int.reduceLT, Int.reduceLE, Int.reduceEq, Int.reduceNe, Int.reduceToNat, Int.reduceNeg, go_sem, h1, hB, Try.results9]
      rw [if_pos (by omega)] at hL
      refine gc_fin' hw hov ?_ (bndV _)
      rw [hL]
      refine congrArg Value.tuple ?_
      rw [← str_nums (s.extract _ _), nums_extract]
      rw [List.take_of_length_le (by simp [nums_length])]
      rfl
    · simp (maxSteps := 1000000) (disch := (first | omega | (simp only [St.next_alloc, St.next_upd]; omega))) only [Nat.reduceAdd, Nat.reduceSub, Nat.reduceMul, Nat.reduceLT, Nat.reduceLeDiff, Nat.reduceEqDiff, ↓reduceIte, reduceCtorEq, Int.reduceAdd, Int.reduceSub, Int.reduceMul, Int.reduceLT, Int.reduceLE, Int.reduceEq, Int.reduceNe, Int.reduceToNat, Int.reduceNeg, go_sem, Try.results9, h5, e1, e2]
      refine ifB_dec (fun h128 => ?_) (fun h128 => ?_)
      · simp (maxSteps := 1000000) (disch := (first | omega | (simp only [St.next_alloc, St.next_upd]; omega))) only [Nat.reduceAdd, Nat.reduceSub, Nat.reduceMul, Nat.reduceLT, Nat.reduceLeDiff, Nat.reduceEqDiff, ↓reduceIte, reduceCtorEq, Int.reduceAdd, Int.reduceSub, Int.reduceMul, Int.reduceLT, Int.reduceLE, Int.reduceEq, Int.reduceNe, Int.reduceToNat, Int.reduceNeg, go_sem]
        refine aw_draw (by kernel_rfl) ?_
        simp (maxSteps := 1000000) (disch := (first | omega | (simp only [St.next_alloc, St.next_upd]; omega))) only [Nat.reduceAdd, Nat.reduceSub, Nat.reduceMul, Nat.reduceLT, Nat.reduceLeDiff, Nat.reduceEqDiff, ↓reduceIte, reduceCtorEq, Int.reduceAdd, Int.reduceSub, Int.reduceMul, Int.reduceLT, Int.reduceLE, Int.reduceEq, Int.reduceNe, Int.reduceToNat, Int.reduceNeg, go_sem, h1, hB, Try.results9]
        rw [if_pos (by omega)] at hL
        refine gc_fin' hw hov ?_ (bndV _)
        rw [hL]
        refine congrArg Value.tuple ?_
        rw [← str_nums (s.extract _ _), nums_extract]
        rw [List.take_of_length_le (by simp [nums_length])]
        rfl
      · simp (maxSteps := 1000000) (disch := (first | omega | (simp only [St.next_alloc, St.next_upd]; omega))) only [Nat.reduceAdd, Nat.reduceSub, Nat.reduceMul, Nat.reduceLT, Nat.reduceLeDiff, Nat.reduceEqDiff, ↓reduceIte, reduceCtorEq, Int.reduceAdd, Int.reduceSub, Int.reduceMul, Int.reduceLT, Int.reduceLE, Int.reduceEq, Int.reduceNe, Int.reduceToNat, Int.reduceNeg, go_sem, Try.results9, h11]
        rw [if_neg (by omega)] at hL
        refine ⟨10 - (i + 1), by omega, _, i + 1, n + c % 128 * 2 ^ (7 * i), rfl, rfl, by omega, by omega, ?_, ?_, ?_, ?_, e3, e6, ?_⟩
        · simp (maxSteps := 1000000) (disch := (first | omega | (simp only [St.next_alloc, St.next_upd]; omega))) only [Nat.reduceAdd, Nat.reduceSub, Nat.reduceMul, Nat.reduceLT, Nat.reduceLeDiff, Nat.reduceEqDiff, ↓reduceIte, reduceCtorEq, Int.reduceAdd, Int.reduceSub, Int.reduceMul, Int.reduceLT, Int.reduceLE, Int.reduceEq, Int.reduceNe, Int.reduceToNat, Int.reduceNeg, go_sem, h1]
        · simp (maxSteps := 1000000) (disch := (first | omega | (simp only [St.next_alloc, St.next_upd]; omega))) only [Nat.reduceAdd, Nat.reduceSub, Nat.reduceMul, Nat.reduceLT, Nat.reduceLeDiff, Nat.reduceEqDiff, ↓reduceIte, reduceCtorEq, Int.reduceAdd, Int.reduceSub, Int.reduceMul, Int.reduceLT, Int.reduceLE, Int.reduceEq, Int.reduceNe, Int.reduceToNat, Int.reduceNeg, go_sem]
        · simp (maxSteps := 1000000) (disch := (first | omega | (simp only [St.next_alloc, St.next_upd]; omega))) only [Nat.reduceAdd, Nat.reduceSub, Nat.reduceMul, Nat.reduceLT, Nat.reduceLeDiff, Nat.reduceEqDiff, ↓reduceIte, reduceCtorEq, Int.reduceAdd, Int.reduceSub, Int.reduceMul, Int.reduceLT, Int.reduceLE, Int.reduceEq, Int.reduceNe, Int.reduceToNat, Int.reduceNeg, go_sem, h6]
        · simp (maxSteps := 1000000) (disch := (first | omega | (simp only [St.next_alloc, St.next_upd]; omega))) only [Nat.reduceAdd, Nat.reduceSub, Nat.reduceMul, Nat.reduceLT, Nat.reduceLeDiff, Nat.reduceEqDiff, ↓reduceIte, reduceCtorEq, Int.reduceAdd, Int.reduceSub, Int.reduceMul, Int.reduceLT, Int.reduceLE, Int.reduceEq, Int.reduceNe, Int.reduceToNat, Int.reduceNeg, go_sem]
          rfl
        · rw [hL]; congr 1; omega
    · simp (maxSteps := 1000000) (disch := (first | omega | (simp only [St.next_alloc, St.next_upd]; omega))) only [Nat.reduceAdd, Nat.reduceSub, Nat.reduceMul, Nat.reduceLT, Nat.reduceLeDiff, Nat.reduceEqDiff, ↓reduceIte, reduceCtorEq, Int.reduceAdd, Int.reduceSub, Int.reduceMul, Int.reduceLT, Int.reduceLE, Int.reduceEq, Int.reduceNe, Int.reduceToNat, Int.reduceNeg, go_sem, Try.results9, h5, e1, e2]
      refine ifB_dec (fun h128 => ?_) (fun h128 => ?_)
      · simp (maxSteps := 1000000) (disch := (first | omega | (simp only [St.next_alloc, St.next_upd]; omega))) only [Nat.reduceAdd, Nat.reduceSub, Nat.reduceMul, Nat.reduceLT, Nat.reduceLeDiff, Nat.reduceEqDiff, ↓reduceIte, reduceCtorEq, Int.reduceAdd, Int.reduceSub, Int.reduceMul, Int.reduceLT, Int.reduceLE, Int.reduceEq, Int.reduceNe, Int.reduceToNat, Int.reduceNeg, go_sem]
        refine aw_draw (by kernel_rfl) ?_
        simp (maxSteps := 1000000) (disch := (first | omega | (simp only [St.next_alloc, St.next_upd]; omega))) only [Nat.reduceAdd, Nat.reduceSub, Nat.reduceMul, Nat.reduceLT, Nat.reduceLeDiff, Nat.reduceEqDiff, ↓reduceIte, reduceCtorEq, Int.reduceAdd, Int.reduceSub, Int.reduceMul, Int.reduceLT, Int.reduceLE, Int.reduceEq, Int.reduceNe, Int.reduceToNat, Int.reduceNeg, go_sem, h1, hB, Try.results9]
        rw [if_pos (by omega)] at hL
        refine gc_fin' hw hov ?_ (bndV _)
        rw [hL]
        refine congrArg Value.tuple ?_
        rw [← str_nums (s.extract _ _), nums_extract]
        rw [List.take_of_length_le (by simp [nums_length])]
        rfl
      · simp (maxSteps := 1000000) (disch := (first | omega | (simp only [St.next_alloc, St.next_upd]; omega))) only [Nat.reduceAdd, Nat.reduceSub, Nat.reduceMul, Nat.reduceLT, Nat.reduceLeDiff, Nat.reduceEqDiff, ↓reduceIte, reduceCtorEq, Int.reduceAdd, Int.reduceSub, Int.reduceMul, Int.reduceLT, Int.reduceLE, Int.reduceEq, Int.reduceNe, Int.reduceToNat, Int.reduceNeg, go_sem, Try.results9, h11]
        rw [if_neg (by omega)] at hL
        refine ⟨10 - (i + 1), by omega, _, i + 1, n + c % 128 * 2 ^ (7 * i), rfl, rfl, by omega, by omega, ?_, ?_, ?_, ?_, e3, e6, ?_⟩
        · simp (maxSteps := 1000000) (disch := (first | omega | (simp only [St.next_alloc, St.next_upd]; omega))) only [Nat.reduceAdd, Nat.reduceSub, Nat.reduceMul, Nat.reduceLT, Nat.reduceLeDiff, Nat.reduceEqDiff, ↓reduceIte, reduceCtorEq, Int.reduceAdd, Int.reduceSub, Int.reduceMul, Int.reduceLT, Int.reduceLE, Int.reduceEq, Int.reduceNe, Int.reduceToNat, Int.reduceNeg, go_sem, h1]
        · simp (maxSteps := 1000000) (disch := (first | omega | (simp only [St.next_alloc, St.next_upd]; omega))) only [Nat.reduceAdd, Nat.reduceSub, Nat.reduceMul, Nat.reduceLT, Nat.reduceLeDiff, Nat.reduceEqDiff, ↓reduceIte, reduceCtorEq, Int.reduceAdd, Int.reduceSub, Int.reduceMul, Int.reduceLT, Int.reduceLE, Int.reduceEq, Int.reduceNe, Int.reduceToNat, Int.reduceNeg, go_sem]
        · simp (maxSteps := 1000000) (disch := (first | omega | (simp only [St.next_alloc, St.next_upd]; omega))) only [Nat.reduceAdd, Nat.reduceSub, Nat.reduceMul, Nat.reduceLT, Nat.reduceLeDiff, Nat.reduceEqDiff, ↓reduceIte, reduceCtorEq, Int.reduceAdd, Int.reduceSub, Int.reduceMul, Int.reduceLT, Int.reduceLE, Int.reduceEq, Int.reduceNe, Int.reduceToNat, Int.reduceNeg, go_sem, h6]
        · simp (maxSteps := 1000000) (disch := (first | omega | (simp only [St.next_alloc, St.next_upd]; omega))) only [Nat.reduceAdd, Nat.reduceSub, Nat.reduceMul, Nat.reduceLT, Nat.reduceLeDiff, Nat.reduceEqDiff, ↓reduceIte, reduceCtorEq, Int.reduceAdd, Int.reduceSub, Int.reduceMul, Int.reduceLT, Int.reduceLE, Int.reduceEq, Int.reduceNe, Int.reduceToNat, Int.reduceNeg, go_sem]
          rfl
        · rw [hL]; congr 1; omega
end Go.Fw
