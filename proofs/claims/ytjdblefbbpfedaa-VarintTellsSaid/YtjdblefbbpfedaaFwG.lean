import Derived.Test.YtjdblefbbpfedaaFwF
set_option linter.unusedSimpArgs false
set_option linter.unusedVariables false
namespace Go.Fw
open Go.Proofs Go.RowKit
attribute [local go_sem] List.length_cons List.length_nil Nat.zero_add Nat.add_zero Nat.zero_mul Nat.mul_one Int.toNat_zero Int.toNat_natCast List.map_cons List.map_nil List.map_toArray List.toList_toArray List.append_toArray List.nil_append List.cons_append List.append_nil List.all_toArray List.all_cons List.all_nil Bool.and_true Bool.true_and Bool.and_self List.getElem?_toArray List.getElem?_cons_zero List.getElem?_cons_succ Option.bind_some Option.map_some id true_and and_true and_self St.next_alloc St.next_upd beq_self_eq_true Bool.not_true Bool.not_false Bool.false_eq_true false_implies true_implies Option.isNone_none Option.isNone_some Option.isSome_none Option.isSome_some ge_iff_le gt_iff_lt Nat.sub_zero Nat.add_assoc IntWalk.i64_in IntWalk.u64_in IntWalk.u8_in IntWalk.u32_in IntWalk.i32_in IntWalk.u16_in dec_not Bool.not_eq_true decide_true decide_false ne_eq not_true_eq_false not_false_eq_true Bool.true_or Bool.or_true Bool.or_false Bool.false_or Bool.and_false Bool.false_and upd_apply rd_eq ar_zero ar_succ ar_nil tm_size tm_getD tm_set E_tmps E_defers put_E put_none eval_tmp eval_const eval_func setArgs_0 setArgs_1 setArgs_2 append_lit stepV_some stepA_some guardO_true ifB_true ifB_false wantV_true wantV_false wantV_dec_t wantV_dec_f ifB_dec_t ifB_dec_f condV_bool dec_and dec_or isB_bool someB_t someB_f okO_tmp okO_func okO_int okO_bool okO_string okO_ptr0 okO_slice0 okO_nilFunc okO_nilIface okO_map0 okO_agg wanted_none wanted_some lookT_some aopsL_nil aopsL_cons wpA_skip wpA_label wpA_exit wpA_goto wpA_ret wpA_seq wpA_block wpA_region wpA_cond wpA_loop wpA_rangeFunc wpA_draw thenQ_normal thenQ_exit thenQ_ret thenQ_panic blockQ_normal blockQ_ret blockQ_panic blockQ_exit funQ_ret funQ_normal funQ_panic op_move op_assign pickV_or pickV_and pickV_t pickV_f pickV_true pickV_false op_pick allocV_some op_alloc op_box op_load op_nilCheck op_bin op_un op_convert op_makeInterface op_makeSlice op_fieldAddr op_field op_indexAddr op_index op_extract op_typeAssert storeV_some op_store op_slice00 op_slice10 op_slice01 op_slice11 op_slice111 op_slice011 op_build op_buildSlice op_makeFunc callV_true op_call op_builtin panicV_iface op_panic ACallV_func ACallV_yield afterCall_returned afterCall_panicked bin_add bin_sub bin_mul bin_and bin_or bin_xor bin_andNot bin_eql bin_neq bin_lss bin_leq bin_gtr bin_geq bin_quo bin_rem bin_shl bin_shr bin_sadd bin_seql bin_sneq bin_slss uB_bool bin_beql bin_bneq uP_pointer bin_peql bin_pneq uS_slice bin_leql bin_lneq bin_ieql bin_ineq un_neg un_xor un_not nilCheck_ptr nilCheck_func nilCheck_yield load_ptr loadC_one loadC_agg store_ptr slice_eq sliceU_string sliceU_slice sliceU_array sliceS_eq boundsS_some sliceL_eq boundsL_nil boundsL_exact boundsL_least boundsL_own boundsL_ownN bounds_11 bounds_10 bounds_01 bounds_00 builtin_len len_string len_array len_slice builtin_append builtin_copy pairA_some builtin_min builtin_max min_two max_two index_eq index_string index_array indexAddr_eq indexAddr_array indexAddr_slice fieldAddr_eq posO_some fAddr_some fieldAddr_struct partC_some field_eq field_struct part_eq partU_one partU_agg extract_tuple conv_eq conv_int conv_string u8O_u8 conv_bytes conv_text_nil conv_text_zero conv_text mkIface_eq get_upd_same consO_some finR_0 finR_1 finR_2 aresL_nil aresL_cons ares1_tmp ares1_cell retV_some aleave_nil aleave_coll bnd_int bnd_bool bnd_string bnd_nilIface bnd_slice0 bnd_iface bnd_slice bnd_ptr bnd_ptr0 bndL_nil bndL_cons bndA_lit bnd_tuple bnd_agg calm_same skipC_eq aopsC_nil aopsC_cons stepC_call stepC_move stepC_assign stepC_pick stepC_alloc stepC_box stepC_build stepC_buildSlice stepC_load stepC_store stepC_nilCheck stepC_binOp stepC_unOp stepC_convert stepC_makeInterface stepC_makeFunc stepC_makeSlice stepC_slice stepC_fieldAddr stepC_field stepC_indexAddr stepC_index stepC_extract stepC_typeAssert stepC_builtin to_same sameA_eq aopsX_nil aopsX_cons stepX_heavy stepX_light lightK_eq allC_nil allC_cons hs_zero hs_succ stepT_call pure_call stepT_move pure_move stepT_assign pure_assign stepT_pick pure_pick stepT_alloc pure_alloc stepT_box pure_box stepT_build pure_build stepT_buildSlice pure_buildSlice stepT_load pure_load stepT_store pure_store stepT_nilCheck pure_nilCheck stepT_binOp pure_binOp stepT_unOp pure_unOp stepT_convert pure_convert stepT_makeInterface pure_makeInterface stepT_makeFunc pure_makeFunc stepT_makeSlice pure_makeSlice stepT_slice pure_slice stepT_fieldAddr pure_fieldAddr stepT_field pure_field stepT_indexAddr pure_indexAddr stepT_index pure_index stepT_extract pure_extract stepT_typeAssert pure_typeAssert stepT_builtin pure_b_len pure_b_append pure_b_copy pure_b_min pure_b_max mk_E get_alloc_old get_alloc_new get_upd_old Try.agg1 Try.sz1 Try.byt1 Try.zero1 Try.agg2 Try.sz2 Try.byt2 Try.zero2 Try.agg3 Try.sz3 Try.byt3 Try.zero3 Try.agg4 Try.sz4 Try.byt4 Try.zero4 Try.agg5 Try.sz5 Try.byt5 Try.zero5 Try.agg6 Try.sz6 Try.byt6 Try.zero6 Try.agg7 Try.sz7 Try.byt7 Try.zero7 Try.agg8 Try.sz8 Try.byt8 Try.zero8 Try.agg9 Try.sz9 Try.byt9 Try.zero9 Try.agg10 Try.sz10 Try.byt10 Try.zero10 Try.agg11 Try.sz11 Try.byt11 Try.zero11 Try.agg12 Try.sz12 Try.byt12 Try.zero12 Try.agg13 Try.sz13 Try.byt13 Try.zero13 Try.agg14 Try.sz14 Try.byt14 Try.zero14 Try.agg15 Try.sz15 Try.byt15 Try.zero15 Try.agg16 Try.sz16 Try.byt16 Try.zero16 Try.agg17 Try.sz17 Try.byt17 Try.zero17 Try.agg18 Try.sz18 Try.byt18 Try.zero18 Try.agg19 Try.sz19 Try.byt19 Try.zero19 Try.agg20 Try.sz20 Try.byt20 Try.zero20 Try.agg21 Try.sz21 Try.byt21 Try.zero21 Try.agg22 Try.sz22 Try.byt22 Try.zero22 Try.agg23 Try.sz23 Try.byt23 Try.zero23 Try.agg24 Try.sz24 Try.byt24 Try.zero24 Try.agg26 Try.sz26 Try.byt26 Try.zero26 Try.agg27 Try.sz27 Try.byt27 Try.zero27 Try.agg28 Try.sz28 Try.byt28 Try.zero28 Try.agg29 Try.sz29 Try.byt29 Try.zero29 Try.agg30 Try.sz30 Try.byt30 Try.el30 Try.zero30 Try.agg31 Try.sz31 Try.byt31 Try.zero31 Try.agg33 Try.sz33 Try.byt33 Try.zero33 Try.agg34 Try.sz34 Try.byt34 Try.zero34 Try.agg35 Try.sz35 Try.byt35 Try.zero35 Try.agg36 Try.sz36 Try.byt36 Try.zero36 Try.agg37 Try.sz37 Try.byt37 Try.zero37 Try.agg38 Try.sz38 Try.byt38 Try.zero38 Try.agg39 Try.sz39 Try.byt39 Try.zero39 Try.agg41 Try.sz41 Try.byt41 Try.zero41 Try.agg42 Try.sz42 Try.byt42 Try.zero42 Try.agg43 Try.sz43 Try.byt43 Try.zero43 Try.agg44 Try.sz44 Try.byt44 Try.zero44 Try.agg45 Try.sz45 Try.byt45 Try.zero45 Try.agg46 Try.sz46 Try.byt46 Try.zero46 Try.agg47 Try.sz47 Try.byt47 Try.zero47 Try.agg48 Try.sz48 Try.byt48 Try.zero48 Try.agg49 Try.sz49 Try.byt49 Try.zero49 Try.agg50 Try.sz50 Try.byt50 Try.zero50 Try.agg51 Try.sz51 Try.byt51 Try.zero51 Try.agg52 Try.sz52 Try.byt52 Try.zero52 Try.agg53 Try.sz53 Try.byt53 Try.zero53 Try.agg54 Try.sz54 Try.byt54 Try.zero54 Try.agg55 Try.sz55 Try.byt55 Try.zero55 Try.agg56 Try.sz56 Try.byt56 Try.zero56 Try.agg57 Try.sz57 Try.byt57 Try.zero57 Try.agg58 Try.sz58 Try.byt58 Try.zero58 Try.agg59 Try.sz59 Try.byt59 Try.zero59 Try.agg60 Try.sz60 Try.byt60 Try.zero60 Try.agg61 Try.sz61 Try.byt61 Try.zero61 Try.agg62 Try.sz62 Try.byt62 Try.zero62 Try.underlying1 Try.underlying2 Try.underlying3 Try.underlying4 Try.underlying5 Try.underlying6 Try.underlying7 Try.underlying8 Try.underlying9 Try.underlying10 Try.underlying11 Try.underlying12 Try.underlying13 Try.underlying14 Try.underlying15 Try.underlying16 Try.underlying17 Try.underlying18 Try.underlying19 Try.underlying20 Try.underlying21 Try.underlying22 Try.underlying23 Try.underlying24 Try.underlying26 Try.underlying27 Try.underlying28 Try.underlying29 Try.underlying30 Try.underlying31 Try.underlying33 Try.underlying34 Try.underlying35 Try.underlying36 Try.underlying37 Try.underlying38 Try.underlying39 Try.underlying41 Try.underlying42 Try.underlying43 Try.underlying44 Try.underlying45 Try.underlying46 Try.underlying47 Try.underlying48 Try.underlying49 Try.underlying50 Try.underlying51 Try.underlying52 Try.underlying53 Try.underlying54 Try.underlying55 Try.underlying56 Try.underlying57 Try.underlying58 Try.underlying59 Try.underlying60 Try.underlying61 Try.underlying62
theorem Try.enters14 : Enters Try.prog 14 := enters_of Try.func14 rfl (by kernel_rfl)
/-- Bytes as one number, the first the highest. -/
def beN (l : List Int) : Int := l.foldl (fun n c => n * 256 + c) 0
theorem beN_snoc (l : List Int) (c : Int) : beN (l ++ [c]) = beN l * 256 + c := by simp [beN]
theorem beN_lt : ∀ (i : Nat) (l : List Int), l.length = i → (∀ x ∈ l, Byte x) → 0 ≤ beN l ∧ beN l < 256 ^ i := by
  intro i
  induction i with
  | zero => intro l h _; rw [List.eq_nil_of_length_eq_zero h]; exact ⟨by decide, by decide⟩
  | succ i ih =>
    intro l h hb
    obtain ⟨l', c, rfl⟩ : ∃ l' c, l = l' ++ [c] := by
      have hne : l ≠ [] := by intro h0; rw [h0] at h; simp at h
      exact ⟨l.dropLast, l.getLast hne, (List.dropLast_concat_getLast hne).symm⟩
    obtain ⟨h1, h2⟩ := ih l' (by simpa using h) (fun x hx => hb x (List.mem_append_left _ hx))
    have h3 := hb c (by simp)
    have h4 := h3.1
    have h5 := h3.2
    rw [beN_snoc, Int.pow_succ]
    exact ⟨by omega, by omega⟩
/-- A number of so many bytes, read. -/
def fixL (l : List Int) (w : Int) : Int × List Int × Int :=
  if w < 1 ∨ w > 8 then (0, [], 1) else if (l.length : Int) < w then (0, [], 40) else (beN (l.take w.toNat), l.drop w.toNat, 0)
theorem fixed_or (i : Nat) (n c : Int) (hi : i ≤ 7) (hn0 : 0 ≤ n) (hn : n < 256 ^ i) (hc : Byte c) : ibits .or .u64 (ishl .u64 n 8) c = n * 256 + c := by
  obtain ⟨h0, h1⟩ := hc
  have hp : (256 : Int) ^ i ≤ 256 ^ 7 := by
    have := Int.ofNat_le.2 (Nat.pow_le_pow_right (n := 256) (by omega) hi)
    rw [Int.natCast_pow, Int.natCast_pow] at this
    exact this
  have h7 : (256 : Int) ^ 7 = 72057594037927936 := rfl
  have h8 : (2 : Int) ^ 8 = 256 := rfl
  rw [show (8 : Int) = ((8 : Nat) : Int) from rfl, ishl_eq .u64 rfl n 8 (by decide) hn0 (by simp only [IntKind.bits]; omega), h8]
  have hor : ibits .or .u64 (n * 256) c = ibits .or .u64 c (n * 256) := by
    obtain ⟨a, rfl⟩ := Int.eq_ofNat_of_zero_le hn0
    obtain ⟨b, rfl⟩ := Int.eq_ofNat_of_zero_le h0
    have e : ((a : Int) * 256) = ((a * 256 : Nat) : Int) := (Int.natCast_mul a 256).symm
    rw [e, bits_or .u64 rfl _ _ (by simp only [IntKind.bits]; omega) (by simp only [IntKind.bits]; omega), bits_or .u64 rfl _ _ (by simp only [IntKind.bits]; omega) (by simp only [IntKind.bits]; omega), Nat.or_comm]
  have := or_add .u64 rfl c n 8 h0 (by omega) hn0 (by simp only [IntKind.bits]; omega)
  rw [h8] at this
  rw [hor, this]
  omega
theorem bnd_getV (n : Nat) (x : Int × List Int × Int) : Bnd n (getV x) := by simp only [getV, bnd_tuple, bndL_cons, bndL_nil, bnd_int, bnd_string, and_self]

set_option maxHeartbeats 1000000 in
theorem fixed_ok (w0 : World) (A : St) (s : ByteArray) (wd : Int) (hs : s.size ≤ 140737488355327) : ACalls Try.prog w0 14 #[.string s, .int .i64 wd] A (fin (getV (fixL (nums s) wd)) A) := by
  refine call_E Try.enters14 Try.func14 rfl (Nat.le_of_ble_eq_true rfl) fun hw hbd => ?_
  simp (maxSteps := 1000000) (disch := (first | omega | (simp only [St.next_alloc, St.next_upd]; omega))) only [Nat.reduceAdd, Nat.reduceSub, Nat.reduceMul, Nat.reduceLT, Nat.reduceLeDiff, Nat.reduceEqDiff, ↓reduceIte, reduceCtorEq, Int.reduceAdd, Int.reduceSub, Int.reduceMul, Int.reduceLT, Int.reduceLE, Int.reduceEq, Int.reduceNe, Int.reduceToNat, Int.reduceNeg, go_sem, Try.ntmps14, Try.results14]
  by_cases h1 : wd < 1
  · simp (maxSteps := 1000000) (disch := (first | omega | (simp only [St.next_alloc, St.next_upd]; omega))) only [Nat.reduceAdd, Nat.reduceSub, Nat.reduceMul, Nat.reduceLT, Nat.reduceLeDiff, Nat.reduceEqDiff, ↓reduceIte, reduceCtorEq, Int.reduceAdd, Int.reduceSub, Int.reduceMul, Int.reduceLT, Int.reduceLE, Int.reduceEq, Int.reduceNe, Int.reduceToNat, Int.reduceNeg, go_sem, Try.results14]
    exact gc_fin' hw (Over.refl _) (by unfold fixL; rw [if_pos (.inl h1)]; rfl) (bnd_getV _ _)
  by_cases h2 : 8 < wd
  · simp (maxSteps := 1000000) (disch := (first | omega | (simp only [St.next_alloc, St.next_upd]; omega))) only [Nat.reduceAdd, Nat.reduceSub, Nat.reduceMul, Nat.reduceLT, Nat.reduceLeDiff, Nat.reduceEqDiff, ↓reduceIte, reduceCtorEq, Int.reduceAdd, Int.reduceSub, Int.reduceMul, Int.reduceLT, Int.reduceLE, Int.reduceEq, Int.reduceNe, Int.reduceToNat, Int.reduceNeg, go_sem, Try.results14]
    exact gc_fin' hw (Over.refl _) (by unfold fixL; rw [if_pos (.inr h2)]; rfl) (bnd_getV _ _)
  by_cases h3 : (s.size : Int) < wd
  · simp (maxSteps := 1000000) (disch := (first | omega | (simp only [St.next_alloc, St.next_upd]; omega))) only [Nat.reduceAdd, Nat.reduceSub, Nat.reduceMul, Nat.reduceLT, Nat.reduceLeDiff, Nat.reduceEqDiff, ↓reduceIte, reduceCtorEq, Int.reduceAdd, Int.reduceSub, Int.reduceMul, Int.reduceLT, Int.reduceLE, Int.reduceEq, Int.reduceNe, Int.reduceToNat, Int.reduceNeg, go_sem, Try.results14]
    exact gc_fin' hw (Over.refl _) (by unfold fixL; rw [if_neg (by omega), if_pos (by rw [nums_length]; exact h3)]; rfl) (bnd_getV _ _)
  obtain ⟨w, rfl⟩ := Int.eq_ofNat_of_zero_le (a := wd) (by omega)
  have hsz : (s.extract 0 w).size = w := by rw [ByteArray.size_extract]; omega
  have hbc : bcells (s.extract 0 w) = ((nums s).take w).map (.int .u8 ·) := by rw [bcells_nums, nums_extract, List.drop_zero, Nat.sub_zero]
  simp (maxSteps := 1000000) (disch := (first | omega | (simp only [St.next_alloc, St.next_upd]; omega))) only [Nat.reduceAdd, Nat.reduceSub, Nat.reduceMul, Nat.reduceLT, Nat.reduceLeDiff, Nat.reduceEqDiff, ↓reduceIte, reduceCtorEq, Int.reduceAdd, Int.reduceSub, Int.reduceMul, Int.reduceLT, Int.reduceLE, Int.reduceEq, Int.reduceNe, Int.reduceToNat, Int.reduceNeg, go_sem, hsz, hbc]
  obtain ⟨A1, hA1⟩ : ∃ A1, A1 = A.alloc (.cells (((nums s).take w).map (.int .u8 ·)) 5 (some 0)) := ⟨_, rfl⟩
  have hov : Over A A1 := hA1 ▸ (Over.refl A).alloc _
  have hB : A1.get A.next = some (.cells (((nums s).take w).map (.int .u8 ·)) 5 (some 0)) := by rw [hA1]; exact get_alloc_same ..
  rw [← hA1]
  have htl : ((nums s).take w).length = w := by rw [List.length_take, nums_length]; omega
  refine aw_loop (fun m a A' => ∃ (ρ : Nat → Value) (i : Nat), a = E 40 ρ [] ∧ A' = A1 ∧ m = w - i ∧ i ≤ w ∧ ρ 0 = .string s ∧ ρ 1 = .int .i64 w ∧ ρ 4 = .int .u64 (beN ((nums s).take i)) ∧ ρ 24 = .slice (some ⟨A.next, 0, some 1⟩) w w ∧ ρ 25 = .int .i64 w ∧ ρ 26 = .int .i64 i) w
    ⟨_, 0, rfl, rfl, rfl, by omega, rfl, rfl, rfl, rfl, rfl, rfl⟩ ?_
  rintro m a A' ⟨ρ, i, rfl, rfl, rfl, hi, g0, g1, g4, g24, g25, g26⟩
  refine aw_of ?_
  have hby : ∀ x ∈ (nums s).take i, Byte x := fun x hx => nums_byte s x (List.mem_of_mem_take hx)
  obtain ⟨q1, q2⟩ := beN_lt i ((nums s).take i) (by rw [List.length_take, nums_length]; omega) hby
  simp (maxSteps := 1000000) (disch := (first | omega | (simp only [St.next_alloc, St.next_upd]; omega))) only [Nat.reduceAdd, Nat.reduceSub, Nat.reduceMul, Nat.reduceLT, Nat.reduceLeDiff, Nat.reduceEqDiff, ↓reduceIte, reduceCtorEq, Int.reduceAdd, Int.reduceSub, Int.reduceMul, Int.reduceLT, Int.reduceLE, Int.reduceEq, Int.reduceNe, Int.reduceToNat, Int.reduceNeg, go_sem, g25, g26]
  refine ifB_dec (fun hlt => ?_) (fun hlt => ?_)
  · have hcell : (((nums s).take w).map (Value.int .u8 ·))[i]? = some (.int .u8 (sbt s i)) := by
      rw [List.getElem?_map, List.getElem?_take, if_pos (by omega), sbt_nums s i (by omega)]; rfl
    have hc := sbt_byte s i
    have hc0 := hc.1
    have hc1 := hc.2
    have hor := fixed_or i (beN ((nums s).take i)) (sbt s i) (by omega) q1 q2 hc
    simp (maxSteps := 1000000) (disch := (first | omega | (simp only [St.next_alloc, St.next_upd]; omega))) only [Nat.reduceAdd, Nat.reduceSub, Nat.reduceMul, Nat.reduceLT, Nat.reduceLeDiff, Nat.reduceEqDiff, ↓reduceIte, reduceCtorEq, Int.reduceAdd, Int.reduceSub, Int.reduceMul, Int.reduceLT, Int.reduceLE, Int.reduceEq, Int.reduceNe, Int.reduceToNat, Int.reduceNeg, go_sem, g24, g25, g26, g4, hB, hcell, hor]
    refine ⟨w - (i + 1), by omega, _, i + 1, rfl, rfl, by omega, ?_, ?_, ?_, ?_, ?_, ?_⟩
    · simp (maxSteps := 1000000) (disch := (first | omega | (simp only [St.next_alloc, St.next_upd]; omega))) only [Nat.reduceAdd, Nat.reduceSub, Nat.reduceMul, Nat.reduceLT, Nat.reduceLeDiff, Nat.reduceEqDiff, ↓reduceIte, reduceCtorEq, Int.reduceAdd, Int.reduceSub, Int.reduceMul, Int.reduceLT, Int.reduceLE, Int.reduceEq, Int.reduceNe, Int.reduceToNat, Int.reduceNeg, go_sem, g0]
    · simp (maxSteps := 1000000) (disch := (first | omega | (simp only [St.next_alloc, St.next_upd]; omega))) only [Nat.reduceAdd, Nat.reduceSub, Nat.reduceMul, Nat.reduceLT, Nat.reduceLeDiff, Nat.reduceEqDiff, ↓reduceIte, reduceCtorEq, Int.reduceAdd, Int.reduceSub, Int.reduceMul, Int.reduceLT, Int.reduceLE, Int.reduceEq, Int.reduceNe, Int.reduceToNat, Int.reduceNeg, go_sem, g1]
    · have : (nums s).take (i + 1) = (nums s).take i ++ [sbt s i] := by
        rw [List.take_add_one, sbt_nums s i (by omega)]; rfl
      simp (maxSteps := 1000000) (disch := (first | omega | (simp only [St.next_alloc, St.next_upd]; omega))) only [Nat.reduceAdd, Nat.reduceSub, Nat.reduceMul, Nat.reduceLT, Nat.reduceLeDiff, Nat.reduceEqDiff, ↓reduceIte, reduceCtorEq, Int.reduceAdd, Int.reduceSub, Int.reduceMul, Int.reduceLT, Int.reduceLE, Int.reduceEq, Int.reduceNe, Int.reduceToNat, Int.reduceNeg, go_sem, this, beN_snoc]
    · simp (maxSteps := 1000000) (disch := (first | omega | (simp only [St.next_alloc, St.next_upd]; omega))) only [Nat.reduceAdd, Nat.reduceSub, Nat.reduceMul, Nat.reduceLT, Nat.reduceLeDiff, Nat.reduceEqDiff, ↓reduceIte, reduceCtorEq, Int.reduceAdd, Int.reduceSub, Int.reduceMul, Int.reduceLT, Int.reduceLE, Int.reduceEq, Int.reduceNe, Int.reduceToNat, Int.reduceNeg, go_sem, g24]
    · simp (maxSteps := 1000000) (disch := (first | omega | (simp only [St.next_alloc, St.next_upd]; omega))) only [Nat.reduceAdd, Nat.reduceSub, Nat.reduceMul, Nat.reduceLT, Nat.reduceLeDiff, Nat.reduceEqDiff, ↓reduceIte, reduceCtorEq, Int.reduceAdd, Int.reduceSub, Int.reduceMul, Int.reduceLT, Int.reduceLE, Int.reduceEq, Int.reduceNe, Int.reduceToNat, Int.reduceNeg, go_sem, g25]
    · simp (maxSteps := 1000000) (disch := (first | omega | (simp only [St.next_alloc, St.next_upd]; omega))) only [Nat.reduceAdd, Nat.reduceSub, Nat.reduceMul, Nat.reduceLT, Nat.reduceLeDiff, Nat.reduceEqDiff, ↓reduceIte, reduceCtorEq, Int.reduceAdd, Int.reduceSub, Int.reduceMul, Int.reduceLT, Int.reduceLE, Int.reduceEq, Int.reduceNe, Int.reduceToNat, Int.reduceNeg, go_sem]
      rfl
  · have hiw : i = w := by omega
    subst hiw
    simp (maxSteps := 1000000) (disch := (first | omega | (simp only [St.next_alloc, St.next_upd]; omega))) only [Nat.reduceAdd, Nat.reduceSub, Nat.reduceMul, Nat.reduceLT, Nat.reduceLeDiff, Nat.reduceEqDiff, ↓reduceIte, reduceCtorEq, Int.reduceAdd, Int.reduceSub, Int.reduceMul, Int.reduceLT, Int.reduceLE, Int.reduceEq, Int.reduceNe, Int.reduceToNat, Int.reduceNeg, go_sem, g0, g1, g4]
    refine aw_draw (by kernel_rfl) ?_
    simp (maxSteps := 1000000) (disch := (first | omega | (simp only [St.next_alloc, St.next_upd]; omega))) only [Nat.reduceAdd, Nat.reduceSub, Nat.reduceMul, Nat.reduceLT, Nat.reduceLeDiff, Nat.reduceEqDiff, ↓reduceIte, reduceCtorEq, Int.reduceAdd, Int.reduceSub, Int.reduceMul, Int.reduceLT, Int.reduceLE, Int.reduceEq, Int.reduceNe, Int.reduceToNat, Int.reduceNeg, go_sem, g0, g1, g4, Try.results14]
    refine gc_fin' hw hov ?_ (bnd_getV _ _)
    unfold fixL
    rw [if_neg (by omega), if_neg (by rw [nums_length]; omega)]
    simp only [getV, Int.toNat_natCast]
    rw [← str_nums (s.extract i s.size), nums_extract, List.take_of_length_le (l := (nums s).drop i) (by simp [nums_length])]
end Go.Fw
