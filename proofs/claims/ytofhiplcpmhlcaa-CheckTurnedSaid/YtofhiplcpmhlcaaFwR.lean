import Derived.Test.YtofhiplcpmhlcaaFwQ
set_option linter.unusedSimpArgs false
set_option linter.unusedVariables false
namespace Go.Fw
open Go.Proofs Go.RowKit
attribute [local go_sem] List.length_cons List.length_nil Nat.zero_add Nat.add_zero Nat.zero_mul Nat.mul_one Int.toNat_zero Int.toNat_natCast List.map_cons List.map_nil List.map_toArray List.toList_toArray List.append_toArray List.append_eq List.nil_append List.cons_append List.append_nil List.all_toArray List.all_cons List.all_nil Bool.and_true Bool.true_and Bool.and_self List.getElem?_toArray List.getElem?_cons_zero List.getElem?_cons_succ List.set_cons_zero List.set_cons_succ List.drop_zero List.drop_succ_cons List.take_zero List.take_succ_cons Option.bind_some Option.map_some id true_and and_true and_self St.next_alloc St.next_upd beq_self_eq_true Bool.not_true Bool.not_false Bool.false_eq_true false_implies true_implies Option.isNone_none Option.isNone_some Option.isSome_none Option.isSome_some ge_iff_le gt_iff_lt Nat.sub_zero Nat.add_assoc IntWalk.i64_in IntWalk.u64_in IntWalk.u8_in IntWalk.u32_in IntWalk.i32_in IntWalk.u16_in dec_not Bool.not_eq_true decide_true decide_false ne_eq not_true_eq_false not_false_eq_true Bool.true_or Bool.or_true Bool.or_false Bool.false_or Bool.and_false Bool.false_and upd_apply rd_eq ar_zero ar_succ ar_nil tm_size tm_getD tm_set E_tmps E_defers put_E put_none eval_tmp eval_const eval_func setArgs_0 setArgs_1 setArgs_2 append_lit stepV_some stepA_some guardO_true ifB_true ifB_false wantV_true wantV_false wantV_dec_t wantV_dec_f ifB_dec_t ifB_dec_f condV_bool dec_and dec_or isB_bool someB_t someB_f okO_tmp okO_func okO_int okO_bool okO_string okO_ptr0 okO_slice0 okO_nilFunc okO_nilIface okO_map0 okO_agg wanted_none wanted_some lookT_some aopsL_nil aopsL_cons wpA_skip wpA_label wpA_exit wpA_goto wpA_ret wpA_seq wpA_block wpA_region wpA_cond wpA_loop wpA_rangeFunc wpA_draw thenQ_normal thenQ_exit thenQ_ret thenQ_panic blockQ_normal blockQ_ret blockQ_panic blockQ_exit funQ_ret funQ_normal funQ_panic op_move op_assign pickV_or pickV_and pickV_t pickV_f pickV_true pickV_false op_pick allocV_some op_alloc op_box op_load op_nilCheck op_bin op_un op_convert op_makeInterface op_makeSlice op_fieldAddr op_field op_indexAddr op_index op_extract op_typeAssert storeV_some op_store op_slice00 op_slice10 op_slice01 op_slice11 op_slice111 op_slice011 op_makeFunc callV_true op_call op_builtin panicV_iface op_panic ACallV_func ACallV_yield afterCall_returned afterCall_panicked bin_add bin_sub bin_mul bin_and bin_or bin_xor bin_andNot bin_eql bin_neq bin_lss bin_leq bin_gtr bin_geq bin_quo bin_rem bin_shl bin_shr bin_sadd bin_seql bin_sneq bin_slss uB_bool bin_beql bin_bneq uP_pointer bin_peql bin_pneq uS_slice bin_leql bin_lneq bin_ieql bin_ineq un_neg un_xor un_not nilCheck_ptr nilCheck_func nilCheck_yield load_ptr loadC_one loadC_agg store_ptr slice_eq sliceU_string sliceU_slice sliceU_array sliceS_eq boundsS_some sliceL_eq boundsL_nil boundsL_exact boundsL_least boundsL_own boundsL_ownN bounds_11 bounds_10 bounds_01 bounds_00 builtin_len len_string len_array len_slice builtin_append builtin_copy pairA_some builtin_min builtin_max min_two max_two index_eq index_string index_array indexAddr_eq indexAddr_array indexAddr_slice fieldAddr_eq posO_some fAddr_some fieldAddr_struct partC_some field_eq field_struct part_eq partU_one partU_agg extract_tuple conv_eq conv_int conv_string u8O_u8 conv_bytes conv_text_nil conv_text_zero conv_text mkIface_eq get_upd_same consO_some finR_0 finR_1 finR_2 aresL_nil aresL_cons ares1_tmp ares1_cell retV_some aleave_nil aleave_coll bnd_int bnd_bool bnd_string bnd_nilIface bnd_slice0 bnd_iface bnd_slice bnd_ptr bnd_ptr0 bndL_nil bndL_cons bndA_lit bnd_tuple bnd_agg calm_same skipC_eq aopsC_nil aopsC_cons stepC_call stepC_move stepC_assign stepC_pick stepC_alloc stepC_box stepC_build stepC_buildSlice stepC_load stepC_store stepC_nilCheck stepC_binOp stepC_unOp stepC_convert stepC_makeInterface stepC_makeFunc stepC_makeSlice stepC_slice stepC_fieldAddr stepC_field stepC_indexAddr stepC_index stepC_extract stepC_typeAssert stepC_builtin to_same sameA_eq aopsX_nil aopsX_cons stepX_heavy stepX_light lightK_eq allC_nil allC_cons hs_zero hs_succ stepT_call pure_call stepT_move pure_move stepT_assign pure_assign stepT_pick pure_pick stepT_alloc pure_alloc stepT_box pure_box stepT_build pure_build stepT_buildSlice pure_buildSlice stepT_load pure_load stepT_store pure_store stepT_nilCheck pure_nilCheck stepT_binOp pure_binOp stepT_unOp pure_unOp stepT_convert pure_convert stepT_makeInterface pure_makeInterface stepT_makeFunc pure_makeFunc stepT_makeSlice pure_makeSlice stepT_slice pure_slice stepT_fieldAddr pure_fieldAddr stepT_field pure_field stepT_indexAddr pure_indexAddr stepT_index pure_index stepT_extract pure_extract stepT_typeAssert pure_typeAssert stepT_builtin pure_b_len pure_b_append pure_b_copy pure_b_min pure_b_max leaveK_eq aleave_fn op_defer deferV_func resK_some defQ_ret defQ_normal storeC_int storeC_bool storeC_string storeC_slice storeC_func storeC_pointer len_cons len_nil cells_int cells_bool cells_string cells_slice cells_pointer cells_func cells_map cells_nilFunc cells_agg cell1_bool cell1_string cell1_slice cell1_pointer cell1_func cell1_i cell1_map cell1_nilFunc setList_nil setList_cons storeC_aggS fillP_nil fillP_cons fillAt_1 fillAt_n aggO_some sliceO_some places_0 places_s zerosR_0 zerosR_s thenElse_true evP_nil evP_cons okP_nil okP_cons op_buildL op_buildSliceL isBu_t isBu_f mk_E get_alloc_old get_alloc_new get_upd_old Try.agg1 Try.sz1 Try.byt1 Try.zero1 Try.agg2 Try.sz2 Try.byt2 Try.zero2 Try.agg3 Try.sz3 Try.byt3 Try.zero3 Try.agg4 Try.sz4 Try.byt4 Try.zero4 Try.agg5 Try.sz5 Try.byt5 Try.zero5 Try.agg6 Try.sz6 Try.byt6 Try.zero6 Try.agg7 Try.sz7 Try.byt7 Try.zero7 Try.agg8 Try.sz8 Try.byt8 Try.zero8 Try.agg9 Try.sz9 Try.byt9 Try.zero9 Try.agg10 Try.sz10 Try.byt10 Try.zero10 Try.agg11 Try.sz11 Try.byt11 Try.zero11 Try.agg12 Try.sz12 Try.byt12 Try.zero12 Try.agg13 Try.sz13 Try.byt13 Try.zero13 Try.agg14 Try.sz14 Try.byt14 Try.zero14 Try.agg15 Try.sz15 Try.byt15 Try.zero15 Try.agg16 Try.sz16 Try.byt16 Try.zero16 Try.agg17 Try.sz17 Try.byt17 Try.zero17 Try.agg18 Try.sz18 Try.byt18 Try.zero18 Try.agg19 Try.sz19 Try.byt19 Try.zero19 Try.agg20 Try.sz20 Try.byt20 Try.zero20 Try.agg21 Try.sz21 Try.byt21 Try.zero21 Try.agg22 Try.sz22 Try.byt22 Try.zero22 Try.agg23 Try.sz23 Try.byt23 Try.zero23 Try.agg24 Try.sz24 Try.byt24 Try.zero24 Try.agg25 Try.sz25 Try.byt25 Try.zero25 Try.agg27 Try.sz27 Try.byt27 Try.zero27 Try.agg28 Try.sz28 Try.byt28 Try.el28 Try.zero28 Try.agg30 Try.sz30 Try.byt30 Try.zero30 Try.agg31 Try.sz31 Try.byt31 Try.zero31 Try.agg32 Try.sz32 Try.byt32 Try.zero32 Try.agg33 Try.sz33 Try.byt33 Try.zero33 Try.agg34 Try.sz34 Try.byt34 Try.zero34 Try.agg35 Try.sz35 Try.byt35 Try.zero35 Try.agg36 Try.sz36 Try.byt36 Try.el36 Try.zero36 Try.agg38 Try.sz38 Try.byt38 Try.zero38 Try.agg39 Try.sz39 Try.byt39 Try.zero39 Try.agg40 Try.sz40 Try.byt40 Try.zero40 Try.agg41 Try.sz41 Try.byt41 Try.el41 Try.zero41 Try.agg42 Try.sz42 Try.byt42 Try.zero42 Try.agg43 Try.sz43 Try.byt43 Try.zero43 Try.agg44 Try.sz44 Try.byt44 Try.zero44 Try.agg46 Try.sz46 Try.byt46 Try.zero46 Try.agg47 Try.sz47 Try.byt47 Try.zero47 Try.agg48 Try.sz48 Try.byt48 Try.zero48 Try.agg49 Try.sz49 Try.byt49 Try.zero49 Try.agg50 Try.sz50 Try.byt50 Try.zero50 Try.agg51 Try.sz51 Try.byt51 Try.zero51 Try.agg52 Try.sz52 Try.byt52 Try.zero52 Try.agg53 Try.sz53 Try.byt53 Try.zero53 Try.agg54 Try.sz54 Try.byt54 Try.zero54 Try.agg55 Try.sz55 Try.byt55 Try.zero55 Try.agg56 Try.sz56 Try.byt56 Try.zero56 Try.agg57 Try.sz57 Try.byt57 Try.zero57 Try.agg58 Try.sz58 Try.byt58 Try.zero58 Try.agg59 Try.sz59 Try.byt59 Try.zero59 Try.agg60 Try.sz60 Try.byt60 Try.zero60 Try.agg61 Try.sz61 Try.byt61 Try.zero61 Try.agg62 Try.sz62 Try.byt62 Try.zero62 Try.agg63 Try.sz63 Try.byt63 Try.zero63 Try.agg64 Try.sz64 Try.byt64 Try.zero64 Try.agg65 Try.sz65 Try.byt65 Try.zero65 Try.agg66 Try.sz66 Try.byt66 Try.zero66 Try.agg67 Try.sz67 Try.byt67 Try.zero67 Try.agg68 Try.sz68 Try.byt68 Try.zero68 Try.build7 Try.build8 Try.build13 Try.build14 Try.build18 Try.build19 Try.bsl28 Try.bsl36 Try.bsl41 Try.build54 Try.build55 Try.build57 Try.build58 Try.build66 Try.build67 Try.underlying1 Try.underlying2 Try.underlying3 Try.underlying4 Try.underlying5 Try.underlying6 Try.underlying7 Try.underlying8 Try.underlying9 Try.underlying10 Try.underlying11 Try.underlying12 Try.underlying13 Try.underlying14 Try.underlying15 Try.underlying16 Try.underlying17 Try.underlying18 Try.underlying19 Try.underlying20 Try.underlying21 Try.underlying22 Try.underlying23 Try.underlying24 Try.underlying25 Try.underlying27 Try.underlying28 Try.underlying30 Try.underlying31 Try.underlying32 Try.underlying33 Try.underlying34 Try.underlying35 Try.underlying36 Try.underlying38 Try.underlying39 Try.underlying40 Try.underlying41 Try.underlying42 Try.underlying43 Try.underlying44 Try.underlying46 Try.underlying47 Try.underlying48 Try.underlying49 Try.underlying50 Try.underlying51 Try.underlying52 Try.underlying53 Try.underlying54 Try.underlying55 Try.underlying56 Try.underlying57 Try.underlying58 Try.underlying59 Try.underlying60 Try.underlying61 Try.underlying62 Try.underlying63 Try.underlying64 Try.underlying65 Try.underlying66 Try.underlying67 Try.underlying68
theorem Try.enters3 : Enters Try.prog 3 := enters_of Try.func3 rfl (by kernel_rfl)
theorem u8_one (k : Nat) (hk : k < 8) : ishl .u8 1 (k : Int) = ((2 ^ k : Nat) : Int) := by
  have hp : 2 ^ k ≤ 2 ^ 7 := Nat.pow_le_pow_right (by decide) (by omega)
  rw [ishl_eq .u8 rfl 1 k (by simp only [IntKind.bits]; omega) (by omega) (by rw [Int.one_mul, show ((2 : Int) ^ k) = ((2 ^ k : Nat) : Int) by rw [Int.natCast_pow]; rfl]; simp only [IntKind.bits]; omega), Int.one_mul, Int.natCast_pow]; rfl
theorem u32_bit (b i : Nat) (hb : b < 4294967296) (hi : i < 32) : ibits .and .u32 (ishr .u32 (b : Int) (i : Int)) 1 = ((b / 2 ^ i % 2 : Nat) : Int) := by
  rw [u32_shr b i (by omega)]
  exact u32_and1 _ (Nat.lt_of_le_of_lt (Nat.div_le_self _ _) hb)
/-- How a frame's bits have been turned. -/
structure TurnI (B pre R suf : List Int) (M k : Nat) : Prop where
  ex : ∃ R', B = pre ++ R' ++ suf ∧ R'.length = R.length ∧ (∀ x ∈ R', Byte x) ∧ leV R' = leV R ^^^ (M * 2 ^ k)
theorem TurnI.byt {B pre R suf : List Int} {M k : Nat} (h : TurnI B pre R suf M k) (hp : ∀ x ∈ pre, Byte x) (hs : ∀ x ∈ suf, Byte x) : ∀ x ∈ B, Byte x := by
  obtain ⟨R', rfl, _, hb, _⟩ := h
  intro x hx
  rcases List.mem_append.1 hx with hx | hx
  · rcases List.mem_append.1 hx with hx | hx
    · exact hp x hx
    · exact hb x hx
  · exact hs x hx
theorem TurnI.len {B pre R suf : List Int} {M k : Nat} (h : TurnI B pre R suf M k) : B.length = pre.length + R.length + suf.length := by
  obtain ⟨R', rfl, hl, _, _⟩ := h
  rw [List.length_append, List.length_append, hl]
theorem TurnI.step {B pre R suf : List Int} {M k i q b : Nat} (h : TurnI B pre R suf (mI b q i) k) (hk : k + i < 8 * R.length) (hi : i < q) (hb : b / 2 ^ i % 2 = 1) : ∃ c : Nat, c < 256 ∧ B[pre.length + (k + i) / 8]? = some (c : Int) ∧ TurnI (B.set (pre.length + (k + i) / 8) ((c ^^^ 2 ^ ((k + i) % 8) : Nat) : Int)) pre R suf (mI b q (i + 1)) k := by
  obtain ⟨R', rfl, hl, hby, hv⟩ := h
  have hj : (k + i) / 8 < R'.length := by omega
  obtain ⟨x, hx⟩ : ∃ x, R'[(k + i) / 8]? = some x := ⟨_, List.getElem?_eq_getElem hj⟩
  have hxb := hby x (List.mem_of_getElem? hx)
  unfold Byte at hxb
  obtain ⟨c, rfl⟩ := Int.eq_ofNat_of_zero_le hxb.1
  have hc : c < 256 := by omega
  have hd : 2 ^ ((k + i) % 8) < 256 := by
    have : 2 ^ ((k + i) % 8) ≤ 2 ^ 7 := Nat.pow_le_pow_right (by decide) (by omega)
    omega
  refine ⟨c, hc, by rw [get_mid hj]; exact hx, ⟨_, set_mid hj, by rw [List.length_set]; exact hl, ?_, ?_⟩⟩
  · intro y hy
    rcases List.mem_or_eq_of_mem_set hy with hy | rfl
    · exact hby y hy
    · have := Nat.xor_lt_two_pow (n := 8) (show c < 2 ^ 8 from hc) (show 2 ^ ((k + i) % 8) < 2 ^ 8 from hd)
      exact ⟨by omega, by omega⟩
  · rw [leV_set R' _ c _ hby hx hd, hv, (mI_yes hi hb).1, mul_xor]
    have e : 2 ^ ((k + i) % 8) * 256 ^ ((k + i) / 8) = 2 ^ i * 2 ^ k := by
      rw [show 256 = 2 ^ 8 from rfl, ← Nat.pow_mul, ← Nat.pow_add, ← Nat.pow_add]; congr 1; omega
    rw [e, Nat.xor_assoc]
theorem TurnI.zero {B pre R suf : List Int} {k : Nat} (h : TurnI B pre R suf 0 k) (hR : ∀ x ∈ R, Byte x) : B = pre ++ R ++ suf := by
  obtain ⟨R', rfl, hl, hb, hv⟩ := h
  rw [Nat.zero_mul, Nat.xor_zero] at hv
  rw [leV_inj R' R hl hb hR hv]
set_option maxHeartbeats 8000000 in
theorem turned_ok (w0 : World) (A : St) (s : ByteArray) (at' bits : Int) (sm : Bool) (rest : ByteArray) (hat : 0 ≤ at' ∧ at' ≤ 65535) (hbits : 0 ≤ bits ∧ bits ≤ 4294967295) : ACalls Try.prog w0 3 #[.string s, .int .u16 at', .int .u32 bits, .bool sm, .string rest] A (fin (.bool true) A) := by
  refine call_E Try.enters3 Try.func3 rfl (Nat.le_of_ble_eq_true rfl) fun hw hbd => ?_
  obtain ⟨ct, rfl⟩ := Int.eq_ofNat_of_zero_le hat.1
  obtain ⟨b, rfl⟩ := Int.eq_ofNat_of_zero_le hbits.1
  have hb32 : b < 4294967296 := by omega
  simp (maxSteps := 1000000) (disch := (first | omega | (simp only [nx_alloc, nx_upd, len_cons, len_nil, List.length_set, List.length_map, List.length_append] <;> omega) | fail)) only [Nat.reduceAdd, Nat.reduceSub, Nat.reduceMul, Nat.reduceLT, Nat.reduceLeDiff, Nat.reduceEqDiff, ↓reduceIte, reduceCtorEq, Int.reduceAdd, Int.reduceSub, Int.reduceMul, Int.reduceLT, Int.reduceLE, Int.reduceEq, Int.reduceNe, Int.reduceToNat, Int.reduceNeg, go_sem, Try.ntmps3, Try.results3]
  by_cases h1 : 200 < s.size
  · simp (maxSteps := 1000000) (disch := (first | omega | (simp only [nx_alloc, nx_upd, len_cons, len_nil, List.length_set, List.length_map, List.length_append] <;> omega) | fail)) only [Nat.reduceAdd, Nat.reduceSub, Nat.reduceMul, Nat.reduceLT, Nat.reduceLeDiff, Nat.reduceEqDiff, ↓reduceIte, reduceCtorEq, Int.reduceAdd, Int.reduceSub, Int.reduceMul, Int.reduceLT, Int.reduceLE, Int.reduceEq, Int.reduceNe, Int.reduceToNat, Int.reduceNeg, go_sem, Try.results3]
    refine call1 (shown_ok w0 _) ?_
    simp (maxSteps := 1000000) (disch := (first | omega | (simp only [nx_alloc, nx_upd, len_cons, len_nil, List.length_set, List.length_map, List.length_append] <;> omega) | fail)) only [Nat.reduceAdd, Nat.reduceSub, Nat.reduceMul, Nat.reduceLT, Nat.reduceLeDiff, Nat.reduceEqDiff, ↓reduceIte, reduceCtorEq, Int.reduceAdd, Int.reduceSub, Int.reduceMul, Int.reduceLT, Int.reduceLE, Int.reduceEq, Int.reduceNe, Int.reduceToNat, Int.reduceNeg, go_sem, Try.results3]
    exact gc_fin hw (Over.refl _) (by simp only [bnd_bool])
  by_cases h2 : 200 < rest.size
  · simp (maxSteps := 1000000) (disch := (first | omega | (simp only [nx_alloc, nx_upd, len_cons, len_nil, List.length_set, List.length_map, List.length_append] <;> omega) | fail)) only [Nat.reduceAdd, Nat.reduceSub, Nat.reduceMul, Nat.reduceLT, Nat.reduceLeDiff, Nat.reduceEqDiff, ↓reduceIte, reduceCtorEq, Int.reduceAdd, Int.reduceSub, Int.reduceMul, Int.reduceLT, Int.reduceLE, Int.reduceEq, Int.reduceNe, Int.reduceToNat, Int.reduceNeg, go_sem, Try.results3]
    refine call1 (shown_ok w0 _) ?_
    simp (maxSteps := 1000000) (disch := (first | omega | (simp only [nx_alloc, nx_upd, len_cons, len_nil, List.length_set, List.length_map, List.length_append] <;> omega) | fail)) only [Nat.reduceAdd, Nat.reduceSub, Nat.reduceMul, Nat.reduceLT, Nat.reduceLeDiff, Nat.reduceEqDiff, ↓reduceIte, reduceCtorEq, Int.reduceAdd, Int.reduceSub, Int.reduceMul, Int.reduceLT, Int.reduceLE, Int.reduceEq, Int.reduceNe, Int.reduceToNat, Int.reduceNeg, go_sem, Try.results3]
    exact gc_fin hw (Over.refl _) (by simp only [bnd_bool])
  by_cases h3 : (b : Int) = 0
  · simp (maxSteps := 1000000) (disch := (first | omega | (simp only [nx_alloc, nx_upd, len_cons, len_nil, List.length_set, List.length_map, List.length_append] <;> omega) | fail)) only [Nat.reduceAdd, Nat.reduceSub, Nat.reduceMul, Nat.reduceLT, Nat.reduceLeDiff, Nat.reduceEqDiff, ↓reduceIte, reduceCtorEq, Int.reduceAdd, Int.reduceSub, Int.reduceMul, Int.reduceLT, Int.reduceLE, Int.reduceEq, Int.reduceNe, Int.reduceToNat, Int.reduceNeg, go_sem, h3, Try.results3]
    refine call1 (shown_ok w0 _) ?_
    simp (maxSteps := 1000000) (disch := (first | omega | (simp only [nx_alloc, nx_upd, len_cons, len_nil, List.length_set, List.length_map, List.length_append] <;> omega) | fail)) only [Nat.reduceAdd, Nat.reduceSub, Nat.reduceMul, Nat.reduceLT, Nat.reduceLeDiff, Nat.reduceEqDiff, ↓reduceIte, reduceCtorEq, Int.reduceAdd, Int.reduceSub, Int.reduceMul, Int.reduceLT, Int.reduceLE, Int.reduceEq, Int.reduceNe, Int.reduceToNat, Int.reduceNeg, go_sem, Try.results3]
    exact gc_fin hw (Over.refl _) (by simp only [bnd_bool])
  simp (maxSteps := 1000000) (disch := (first | omega | (simp only [nx_alloc, nx_upd, len_cons, len_nil, List.length_set, List.length_map, List.length_append] <;> omega) | fail)) only [Nat.reduceAdd, Nat.reduceSub, Nat.reduceMul, Nat.reduceLT, Nat.reduceLeDiff, Nat.reduceEqDiff, ↓reduceIte, reduceCtorEq, Int.reduceAdd, Int.reduceSub, Int.reduceMul, Int.reduceLT, Int.reduceLE, Int.reduceEq, Int.reduceNe, Int.reduceToNat, Int.reduceNeg, go_sem]
  refine call1 (shown_ok w0 _) ?_
  simp (maxSteps := 1000000) (disch := (first | omega | (simp only [nx_alloc, nx_upd, len_cons, len_nil, List.length_set, List.length_map, List.length_append] <;> omega) | fail)) only [Nat.reduceAdd, Nat.reduceSub, Nat.reduceMul, Nat.reduceLT, Nat.reduceLeDiff, Nat.reduceEqDiff, ↓reduceIte, reduceCtorEq, Int.reduceAdd, Int.reduceSub, Int.reduceMul, Int.reduceLT, Int.reduceLE, Int.reduceEq, Int.reduceNe, Int.reduceToNat, Int.reduceNeg, go_sem]
  refine call1 (frame_ok w0 _ s (by omega)) ?_
  obtain ⟨P, hP⟩ : ∃ P, P = nums s := ⟨_, rfl⟩
  have hPl : P.length = s.size := by rw [hP, nums_length]
  have hPb : ∀ x ∈ P, Byte x := by rw [hP]; exact nums_byte s
  have hfv : frameV (nums s) = .tuple #[.string (strOfNums (frameL P)), .int .i64 0] := by unfold frameV; rw [if_neg (by rw [nums_length]; omega), hP]
  have hFb := frameL_byte hPb
  have hFl : (frameL P).length = s.size + 6 := by rw [frameL_len, hPl]
  have hfs : (strOfNums (frameL P)).size = 6 + s.size := by rw [str_size, hFl]; omega
  have e6 : (6 : Int) + (s.size : Int) = ((6 + s.size : Nat) : Int) := by omega
  have hbc : bcells (strOfNums (frameL P)) = (frameL P).map (.int .u8 ·) := by rw [bcells_nums, nums_str hFb]
  have hH : bigL s.size 2 = bigL P.length 2 := by rw [hPl]
  rw [hfv]
  simp (maxSteps := 1000000) (disch := (first | omega | (simp only [nx_alloc, nx_upd, len_cons, len_nil, List.length_set, List.length_map, List.length_append] <;> omega) | fail)) only [Nat.reduceAdd, Nat.reduceSub, Nat.reduceMul, Nat.reduceLT, Nat.reduceLeDiff, Nat.reduceEqDiff, ↓reduceIte, reduceCtorEq, Int.reduceAdd, Int.reduceSub, Int.reduceMul, Int.reduceLT, Int.reduceLE, Int.reduceEq, Int.reduceNe, Int.reduceToNat, Int.reduceNeg, go_sem, hfs, e6, hbc]
  have e8 : (8 : Int) * (s.size : Int) = ((8 * s.size : Nat) : Int) := by omega
  have hrb := nums_byte rest
  have hall : ∀ x ∈ bigL P.length 2 ++ P, Byte x := fun x hx => (List.mem_append.1 hx).elim (bigL_byte _ _ x) (hPb x)
  have hsl := sumZ_lt hall
  obtain ⟨A1, hA1⟩ : ∃ A1, A1 = A.alloc (.cells ((frameL P).map (.int .u8 ·)) 5 (some 0)) := ⟨_, rfl⟩
  have hg1 : A1.get A.next = some (.cells ((frameL P).map (.int .u8 ·)) 5 (some 0)) := by rw [hA1]; exact get_alloc_same ..
  have ho1 : Over A A1 := by rw [hA1]; exact (Over.refl A).alloc _
  have hn1 : A1.next = A.next + 1 := by rw [hA1]; rfl
  rw [← hA1]
  have hse : strOfNums [] = ⟨#[]⟩ := rfl
  have hsb : ((⟨#[]⟩ : ByteArray) == ⟨#[]⟩) = true := by rw [beqBytes]; simp
  have hss : (strOfNums P == s) = true := by rw [hP, str_nums]; exact beqB s
  by_cases hsel : sm = true ∨ s.size = 0
  · have hgoal : True := trivial
    by_cases hsm : sm = true
    · subst hsm
      simp (maxSteps := 1000000) (disch := (first | omega | (simp only [nx_alloc, nx_upd, len_cons, len_nil, List.length_set, List.length_map, List.length_append] <;> omega) | fail)) only [Nat.reduceAdd, Nat.reduceSub, Nat.reduceMul, Nat.reduceLT, Nat.reduceLeDiff, Nat.reduceEqDiff, ↓reduceIte, reduceCtorEq, Int.reduceAdd, Int.reduceSub, Int.reduceMul, Int.reduceLT, Int.reduceLE, Int.reduceEq, Int.reduceNe, Int.reduceToNat, Int.reduceNeg, go_sem, e8]
      obtain ⟨k, hk⟩ : ∃ k, k = ct % 32 := ⟨_, rfl⟩
      have hkm : k < 32 := by rw [hk]; exact Nat.mod_lt _ (by omega)
      have qk : Int.tmod (ct : Int) ((32 : Nat) : Int) = (k : Int) := by rw [hk, Int.tmod_eq_emod_of_nonneg (by omega)]; exact (Int.natCast_emod _ _).symm
      obtain ⟨q, hq⟩ : ∃ q, q = 32 - k := ⟨_, rfl⟩
      have hRl : (bigL (sumZ (bigL P.length 2 ++ P)) 4).length = 4 := bigL_length _ _
      have hpl : (bigL P.length 2).length = 2 := by simp [bigL_length]
      have hRb : ∀ x ∈ bigL (sumZ (bigL P.length 2 ++ P)) 4, Byte x := by first | exact hPb | exact bigL_byte _ _
      have hpb : ∀ x ∈ bigL P.length 2, Byte x := by intro x hx; first | exact bigL_byte _ _ x hx | (exact (List.mem_append.1 hx).elim (bigL_byte _ _ x) (bigL_byte _ _ x))
      have hsb' : ∀ x ∈ (P : List Int), Byte x := by first | exact hPb | (intro x hx; cases hx)
      refine aw_hide fun Q hQ => ?_
      refine aw_loop (fun m a A' => ∃ (ρ : Nat → Value) (i : Nat) (B : List Int), a = E 127 ρ [] ∧ m = 32 - i ∧ i ≤ 32 ∧ Over A A' ∧ A.next + 1 ≤ A'.next ∧ A'.get A.next = some (.cells (B.map (.int .u8 ·)) 5 (some 0)) ∧ TurnI B (bigL P.length 2) (bigL (sumZ (bigL P.length 2 ++ P)) 4) (P) (mI b q i) k ∧
          ρ 0 = .string s ∧ ρ 1 = .int .u16 ct ∧ ρ 2 = .int .u32 b ∧ ρ 4 = .string rest ∧ ρ 13 = .slice (some ⟨A.next, 0, some 1⟩) (6 + s.size) (6 + s.size) ∧ ρ 14 = .int .i64 16 ∧ ρ 15 = .int .i64 ((32 : Nat) : Int) ∧ ρ 16 = .bool (decide (mI b q i ≠ 0)) ∧ ρ 17 = .int .i64 i) 32
        ⟨_, 0, frameL P, rfl, rfl, by omega, ho1, by omega, hg1, ⟨_, ?_, rfl, hRb, by rw [mI_zero, Nat.zero_mul, Nat.xor_zero]⟩, rfl, rfl, rfl, rfl, rfl, rfl, ?_, ?_, rfl⟩ ?_
      · unfold frameL
        simp
      · simp (maxSteps := 1000000) (disch := (first | omega | (simp only [nx_alloc, nx_upd, len_cons, len_nil, List.length_set, List.length_map, List.length_append] <;> omega) | fail)) only [Nat.reduceAdd, Nat.reduceSub, Nat.reduceMul, Nat.reduceLT, Nat.reduceLeDiff, Nat.reduceEqDiff, ↓reduceIte, reduceCtorEq, Int.reduceAdd, Int.reduceSub, Int.reduceMul, Int.reduceLT, Int.reduceLE, Int.reduceEq, Int.reduceNe, Int.reduceToNat, Int.reduceNeg, go_sem]
        all_goals (try rfl)
      · simp (maxSteps := 1000000) (disch := (first | omega | (simp only [nx_alloc, nx_upd, len_cons, len_nil, List.length_set, List.length_map, List.length_append] <;> omega) | fail)) only [Nat.reduceAdd, Nat.reduceSub, Nat.reduceMul, Nat.reduceLT, Nat.reduceLeDiff, Nat.reduceEqDiff, ↓reduceIte, reduceCtorEq, Int.reduceAdd, Int.reduceSub, Int.reduceMul, Int.reduceLT, Int.reduceLE, Int.reduceEq, Int.reduceNe, Int.reduceToNat, Int.reduceNeg, go_sem, mI_zero]
        all_goals simp
      rintro m a A' ⟨ρ, i, B, rfl, rfl, hi, hov, hn, hg, hT, p0, p1, p2, p4, p13, p14, p15, p16, p17⟩
      have hTl : B.length = 2 + 4 + (P : List Int).length := by
        have := hT.len
        omega
      refine aw_of ?_
      simp (maxSteps := 1000000) (disch := (first | omega | (simp only [nx_alloc, nx_upd, len_cons, len_nil, List.length_set, List.length_map, List.length_append] <;> omega) | fail)) only [Nat.reduceAdd, Nat.reduceSub, Nat.reduceMul, Nat.reduceLT, Nat.reduceLeDiff, Nat.reduceEqDiff, ↓reduceIte, reduceCtorEq, Int.reduceAdd, Int.reduceSub, Int.reduceMul, Int.reduceLT, Int.reduceLE, Int.reduceEq, Int.reduceNe, Int.reduceToNat, Int.reduceNeg, go_sem, p17]
      refine ifB_dec (fun hlt => ?_) (fun hlt => ?_)
      · have ek : (k : Int) + (i : Int) = ((k + i : Nat) : Int) := by omega
        have hbit := u32_bit b i hb32 (by omega)
        have step : ∀ (ρ' : Nat → Value) (A2 : St) (B' : List Int), TurnI B' (bigL P.length 2) (bigL (sumZ (bigL P.length 2 ++ P)) 4) (P) (mI b q (i + 1)) k → A2.next = A'.next → A2.get A.next = some (.cells (B'.map (.int .u8 ·)) 5 (some 0)) → (∀ c, c < A.next → A2.get c = A'.get c) → ρ' 0 = .string s → ρ' 1 = .int .u16 ct → ρ' 2 = .int .u32 b → ρ' 4 = .string rest → ρ' 13 = .slice (some ⟨A.next, 0, some 1⟩) (6 + s.size) (6 + s.size) → ρ' 14 = .int .i64 16 → ρ' 15 = .int .i64 ((32 : Nat) : Int) → ρ' 16 = .bool (decide (mI b q (i + 1) ≠ 0)) → ρ' 17 = .int .i64 ((i : Int) + 1) →
          ∃ m', m' < 32 - i ∧ ∃ (ρ : Nat → Value) (i : Nat) (B : List Int), E 127 ρ' [] = E 127 ρ [] ∧ m' = 32 - i ∧ i ≤ 32 ∧ Over A A2 ∧ A.next + 1 ≤ A2.next ∧ A2.get A.next = some (.cells (B.map (.int .u8 ·)) 5 (some 0)) ∧ TurnI B (bigL P.length 2) (bigL (sumZ (bigL P.length 2 ++ P)) 4) (P) (mI b q i) k ∧
          ρ 0 = .string s ∧ ρ 1 = .int .u16 ct ∧ ρ 2 = .int .u32 b ∧ ρ 4 = .string rest ∧ ρ 13 = .slice (some ⟨A.next, 0, some 1⟩) (6 + s.size) (6 + s.size) ∧ ρ 14 = .int .i64 16 ∧ ρ 15 = .int .i64 ((32 : Nat) : Int) ∧ ρ 16 = .bool (decide (mI b q i ≠ 0)) ∧ ρ 17 = .int .i64 i := fun ρ' A2 B' h1 h2 h3 h4 x0 x1 x2 x4 x13 x14 x15 x16 x17 =>
            ⟨32 - (i + 1), by omega, ρ', i + 1, B', rfl, rfl, by omega, ⟨by omega, fun c hc => (h4 c hc).trans (hov.get c hc)⟩, by omega, h3, h1, x0, x1, x2, x4, x13, x14, x15, x16, x17⟩
        by_cases hin : k + i < 32
        · by_cases hb1 : b / 2 ^ i % 2 = 1
          · obtain ⟨c, hc, hcB, hT'⟩ := TurnI.step (M := 0) hT (by rw [hRl]; omega) (by omega) hb1
            have hm := (mI_yes (b := b) (q := q) (i := i) (by omega) hb1).2
            obtain ⟨p, hp⟩ : ∃ p, p = 16 + (k + i) := ⟨_, rfl⟩
            have ep : (16 : Int) + ((k + i : Nat) : Int) = (p : Int) := by omega
            have ep1 : Int.tdiv (p : Int) 8 = ((p / 8 : Nat) : Int) := by rw [Int.tdiv_eq_ediv_of_nonneg (by omega)]; omega
            have ep2 : Int.tmod (p : Int) 8 = ((p % 8 : Nat) : Int) := by rw [Int.tmod_eq_emod_of_nonneg (by omega)]; omega
            have ej : 2 + (k + i) / 8 = p / 8 := by omega
            have er : (k + i) % 8 = p % 8 := by omega
            rw [hpl, ej] at hcB hT'
            rw [er] at hT'
            have hcell : (B.map (Value.int .u8 ·))[p / 8]? = some (.int .u8 (c : Int)) := by rw [List.getElem?_map, hcB]; rfl
            have hp8 : 2 ^ (p % 8) < 256 := by
              have : 2 ^ (p % 8) ≤ 2 ^ 7 := Nat.pow_le_pow_right (by decide) (by omega)
              omega
            have hx := u8_xor c (2 ^ (p % 8)) hc hp8
            have hml : (B.map (Value.int .u8 ·)).length = 6 + s.size := by rw [List.length_map, hTl]; (first | omega | (simp only [List.length_nil]; omega))
            have hpB : p / 8 < 6 + s.size := by omega
            simp (maxSteps := 1000000) (disch := (first | omega | (simp only [nx_alloc, nx_upd, len_cons, len_nil, List.length_set, List.length_map, List.length_append] <;> omega) | fail)) only [Nat.reduceAdd, Nat.reduceSub, Nat.reduceMul, Nat.reduceLT, Nat.reduceLeDiff, Nat.reduceEqDiff, ↓reduceIte, reduceCtorEq, Int.reduceAdd, Int.reduceSub, Int.reduceMul, Int.reduceLT, Int.reduceLE, Int.reduceEq, Int.reduceNe, Int.reduceToNat, Int.reduceNeg, go_sem, p1, p2, p15, p17, qk, ek, hbit, hb1]
            refine aw_draw2 [⟨false, [], [0]⟩, ⟨false, [], [0]⟩, ⟨false, [], [0]⟩, ⟨false, [1, 2], [0]⟩, ⟨false, [1, 2, 3], [0]⟩, ⟨false, [], [0]⟩, ⟨false, [], [0]⟩, ⟨false, [], [0]⟩, ⟨false, [6, 7], [0]⟩, ⟨false, [6, 7, 8], [0]⟩, ⟨false, [5, 6, 7, 8, 9], [0]⟩, ⟨false, [5, 6, 7, 8, 9, 10], [0]⟩, ⟨false, [], [0]⟩, ⟨false, [], [0]⟩, ⟨false, [12, 13], [0]⟩, ⟨false, [12, 13, 14], [0]⟩, ⟨false, [12, 13, 14, 15], [0]⟩, ⟨false, [5, 6, 7, 8, 9, 10, 11, 12, 13, 14, 15, 16], [0]⟩, ⟨false, [0, 1, 2, 3, 4, 5, 6, 7, 8, 9, 10, 11, 12, 13, 14, 15, 16, 17], [0]⟩, ⟨true, [0, 1, 2, 3, 4, 5, 6, 7, 8, 9, 10, 11, 12, 13, 14, 15, 16, 17, 18], [0]⟩] [A', A'.upd A.next (some (.cells ((B.set (p / 8) ((c ^^^ 2 ^ (p % 8) : Nat) : Int)).map (.int .u8 ·)) 5 (some 0)))] 1 (by kernel_rfl) (by kernel_rfl) rfl ?_
            simp (maxSteps := 1000000) (disch := (first | omega | (simp only [nx_alloc, nx_upd, len_cons, len_nil, List.length_set, List.length_map, List.length_append] <;> omega) | fail)) only [Nat.reduceAdd, Nat.reduceSub, Nat.reduceMul, Nat.reduceLT, Nat.reduceLeDiff, Nat.reduceEqDiff, ↓reduceIte, reduceCtorEq, Int.reduceAdd, Int.reduceSub, Int.reduceMul, Int.reduceLT, Int.reduceLE, Int.reduceEq, Int.reduceNe, Int.reduceToNat, Int.reduceNeg, go_sem, p13, p14, ep, ep1, ep2, hg, hcell, u8_one (p % 8) (Nat.mod_lt _ (by decide)), hx, List.map_set, p17]
            refine ⟨32 - (i + 1), by omega, _, i + 1, B.set (p / 8) ((c ^^^ 2 ^ (p % 8) : Nat) : Int), rfl, rfl, by omega, hov.upd (Nat.le_refl _) _, ?_, ?_, hT', ?_, ?_, ?_, ?_, ?_, ?_, ?_, ?_, ?_⟩
            · first | exact hn | (simp (disch := (first | omega | (simp only [nx_alloc, nx_upd, len_cons, len_nil, List.length_set, List.length_map, List.length_append] <;> omega) | fail)) only [St.get_upd, St.get_alloc, St.next_alloc, St.next_upd, ↓reduceIte, natF_lt, natF_gt, natF_ne, Nat.add_assoc, Nat.reduceAdd, Nat.reduceEqDiff, Nat.add_left_cancel_iff]; exact hn)
            · first | rfl | (rw [List.map_set]) | exact get_upd_same ..
            · simp (maxSteps := 1000000) (disch := (first | omega | (simp only [nx_alloc, nx_upd, len_cons, len_nil, List.length_set, List.length_map, List.length_append] <;> omega) | fail)) only [Nat.reduceAdd, Nat.reduceSub, Nat.reduceMul, Nat.reduceLT, Nat.reduceLeDiff, Nat.reduceEqDiff, ↓reduceIte, reduceCtorEq, Int.reduceAdd, Int.reduceSub, Int.reduceMul, Int.reduceLT, Int.reduceLE, Int.reduceEq, Int.reduceNe, Int.reduceToNat, Int.reduceNeg, go_sem, p0]
            · simp (maxSteps := 1000000) (disch := (first | omega | (simp only [nx_alloc, nx_upd, len_cons, len_nil, List.length_set, List.length_map, List.length_append] <;> omega) | fail)) only [Nat.reduceAdd, Nat.reduceSub, Nat.reduceMul, Nat.reduceLT, Nat.reduceLeDiff, Nat.reduceEqDiff, ↓reduceIte, reduceCtorEq, Int.reduceAdd, Int.reduceSub, Int.reduceMul, Int.reduceLT, Int.reduceLE, Int.reduceEq, Int.reduceNe, Int.reduceToNat, Int.reduceNeg, go_sem, p1]
            · simp (maxSteps := 1000000) (disch := (first | omega | (simp only [nx_alloc, nx_upd, len_cons, len_nil, List.length_set, List.length_map, List.length_append] <;> omega) | fail)) only [Nat.reduceAdd, Nat.reduceSub, Nat.reduceMul, Nat.reduceLT, Nat.reduceLeDiff, Nat.reduceEqDiff, ↓reduceIte, reduceCtorEq, Int.reduceAdd, Int.reduceSub, Int.reduceMul, Int.reduceLT, Int.reduceLE, Int.reduceEq, Int.reduceNe, Int.reduceToNat, Int.reduceNeg, go_sem, p2]
            · simp (maxSteps := 1000000) (disch := (first | omega | (simp only [nx_alloc, nx_upd, len_cons, len_nil, List.length_set, List.length_map, List.length_append] <;> omega) | fail)) only [Nat.reduceAdd, Nat.reduceSub, Nat.reduceMul, Nat.reduceLT, Nat.reduceLeDiff, Nat.reduceEqDiff, ↓reduceIte, reduceCtorEq, Int.reduceAdd, Int.reduceSub, Int.reduceMul, Int.reduceLT, Int.reduceLE, Int.reduceEq, Int.reduceNe, Int.reduceToNat, Int.reduceNeg, go_sem, p4]
            · simp (maxSteps := 1000000) (disch := (first | omega | (simp only [nx_alloc, nx_upd, len_cons, len_nil, List.length_set, List.length_map, List.length_append] <;> omega) | fail)) only [Nat.reduceAdd, Nat.reduceSub, Nat.reduceMul, Nat.reduceLT, Nat.reduceLeDiff, Nat.reduceEqDiff, ↓reduceIte, reduceCtorEq, Int.reduceAdd, Int.reduceSub, Int.reduceMul, Int.reduceLT, Int.reduceLE, Int.reduceEq, Int.reduceNe, Int.reduceToNat, Int.reduceNeg, go_sem, p13]
            · simp (maxSteps := 1000000) (disch := (first | omega | (simp only [nx_alloc, nx_upd, len_cons, len_nil, List.length_set, List.length_map, List.length_append] <;> omega) | fail)) only [Nat.reduceAdd, Nat.reduceSub, Nat.reduceMul, Nat.reduceLT, Nat.reduceLeDiff, Nat.reduceEqDiff, ↓reduceIte, reduceCtorEq, Int.reduceAdd, Int.reduceSub, Int.reduceMul, Int.reduceLT, Int.reduceLE, Int.reduceEq, Int.reduceNe, Int.reduceToNat, Int.reduceNeg, go_sem, p14]
            · simp (maxSteps := 1000000) (disch := (first | omega | (simp only [nx_alloc, nx_upd, len_cons, len_nil, List.length_set, List.length_map, List.length_append] <;> omega) | fail)) only [Nat.reduceAdd, Nat.reduceSub, Nat.reduceMul, Nat.reduceLT, Nat.reduceLeDiff, Nat.reduceEqDiff, ↓reduceIte, reduceCtorEq, Int.reduceAdd, Int.reduceSub, Int.reduceMul, Int.reduceLT, Int.reduceLE, Int.reduceEq, Int.reduceNe, Int.reduceToNat, Int.reduceNeg, go_sem, p15]
            · simp (maxSteps := 1000000) (disch := (first | omega | (simp only [nx_alloc, nx_upd, len_cons, len_nil, List.length_set, List.length_map, List.length_append] <;> omega) | fail)) only [Nat.reduceAdd, Nat.reduceSub, Nat.reduceMul, Nat.reduceLT, Nat.reduceLeDiff, Nat.reduceEqDiff, ↓reduceIte, reduceCtorEq, Int.reduceAdd, Int.reduceSub, Int.reduceMul, Int.reduceLT, Int.reduceLE, Int.reduceEq, Int.reduceNe, Int.reduceToNat, Int.reduceNeg, go_sem]
              rw [decide_eq_true hm]
            · simp (maxSteps := 1000000) (disch := (first | omega | (simp only [nx_alloc, nx_upd, len_cons, len_nil, List.length_set, List.length_map, List.length_append] <;> omega) | fail)) only [Nat.reduceAdd, Nat.reduceSub, Nat.reduceMul, Nat.reduceLT, Nat.reduceLeDiff, Nat.reduceEqDiff, ↓reduceIte, reduceCtorEq, Int.reduceAdd, Int.reduceSub, Int.reduceMul, Int.reduceLT, Int.reduceLE, Int.reduceEq, Int.reduceNe, Int.reduceToNat, Int.reduceNeg, go_sem]
              all_goals (try rfl)
          · have hb0 : b / 2 ^ i % 2 = 0 := by omega
            have hm := mI_no (b := b) (q := q) (i := i) (by omega) hb0
            simp (maxSteps := 1000000) (disch := (first | omega | (simp only [nx_alloc, nx_upd, len_cons, len_nil, List.length_set, List.length_map, List.length_append] <;> omega) | fail)) only [Nat.reduceAdd, Nat.reduceSub, Nat.reduceMul, Nat.reduceLT, Nat.reduceLeDiff, Nat.reduceEqDiff, ↓reduceIte, reduceCtorEq, Int.reduceAdd, Int.reduceSub, Int.reduceMul, Int.reduceLT, Int.reduceLE, Int.reduceEq, Int.reduceNe, Int.reduceToNat, Int.reduceNeg, go_sem, p1, p2, p15, p17, qk, ek, hbit, hb0]
            refine step _ _ _ (by rw [hm]; exact hT) rfl hg (fun c hc => rfl) ?_ ?_ ?_ ?_ ?_ ?_ ?_ ?_ ?_
            · simp (maxSteps := 1000000) (disch := (first | omega | (simp only [nx_alloc, nx_upd, len_cons, len_nil, List.length_set, List.length_map, List.length_append] <;> omega) | fail)) only [Nat.reduceAdd, Nat.reduceSub, Nat.reduceMul, Nat.reduceLT, Nat.reduceLeDiff, Nat.reduceEqDiff, ↓reduceIte, reduceCtorEq, Int.reduceAdd, Int.reduceSub, Int.reduceMul, Int.reduceLT, Int.reduceLE, Int.reduceEq, Int.reduceNe, Int.reduceToNat, Int.reduceNeg, go_sem, p0]
            · simp (maxSteps := 1000000) (disch := (first | omega | (simp only [nx_alloc, nx_upd, len_cons, len_nil, List.length_set, List.length_map, List.length_append] <;> omega) | fail)) only [Nat.reduceAdd, Nat.reduceSub, Nat.reduceMul, Nat.reduceLT, Nat.reduceLeDiff, Nat.reduceEqDiff, ↓reduceIte, reduceCtorEq, Int.reduceAdd, Int.reduceSub, Int.reduceMul, Int.reduceLT, Int.reduceLE, Int.reduceEq, Int.reduceNe, Int.reduceToNat, Int.reduceNeg, go_sem, p1]
            · simp (maxSteps := 1000000) (disch := (first | omega | (simp only [nx_alloc, nx_upd, len_cons, len_nil, List.length_set, List.length_map, List.length_append] <;> omega) | fail)) only [Nat.reduceAdd, Nat.reduceSub, Nat.reduceMul, Nat.reduceLT, Nat.reduceLeDiff, Nat.reduceEqDiff, ↓reduceIte, reduceCtorEq, Int.reduceAdd, Int.reduceSub, Int.reduceMul, Int.reduceLT, Int.reduceLE, Int.reduceEq, Int.reduceNe, Int.reduceToNat, Int.reduceNeg, go_sem, p2]
            · simp (maxSteps := 1000000) (disch := (first | omega | (simp only [nx_alloc, nx_upd, len_cons, len_nil, List.length_set, List.length_map, List.length_append] <;> omega) | fail)) only [Nat.reduceAdd, Nat.reduceSub, Nat.reduceMul, Nat.reduceLT, Nat.reduceLeDiff, Nat.reduceEqDiff, ↓reduceIte, reduceCtorEq, Int.reduceAdd, Int.reduceSub, Int.reduceMul, Int.reduceLT, Int.reduceLE, Int.reduceEq, Int.reduceNe, Int.reduceToNat, Int.reduceNeg, go_sem, p4]
            · simp (maxSteps := 1000000) (disch := (first | omega | (simp only [nx_alloc, nx_upd, len_cons, len_nil, List.length_set, List.length_map, List.length_append] <;> omega) | fail)) only [Nat.reduceAdd, Nat.reduceSub, Nat.reduceMul, Nat.reduceLT, Nat.reduceLeDiff, Nat.reduceEqDiff, ↓reduceIte, reduceCtorEq, Int.reduceAdd, Int.reduceSub, Int.reduceMul, Int.reduceLT, Int.reduceLE, Int.reduceEq, Int.reduceNe, Int.reduceToNat, Int.reduceNeg, go_sem, p13]
            · simp (maxSteps := 1000000) (disch := (first | omega | (simp only [nx_alloc, nx_upd, len_cons, len_nil, List.length_set, List.length_map, List.length_append] <;> omega) | fail)) only [Nat.reduceAdd, Nat.reduceSub, Nat.reduceMul, Nat.reduceLT, Nat.reduceLeDiff, Nat.reduceEqDiff, ↓reduceIte, reduceCtorEq, Int.reduceAdd, Int.reduceSub, Int.reduceMul, Int.reduceLT, Int.reduceLE, Int.reduceEq, Int.reduceNe, Int.reduceToNat, Int.reduceNeg, go_sem, p14]
            · simp (maxSteps := 1000000) (disch := (first | omega | (simp only [nx_alloc, nx_upd, len_cons, len_nil, List.length_set, List.length_map, List.length_append] <;> omega) | fail)) only [Nat.reduceAdd, Nat.reduceSub, Nat.reduceMul, Nat.reduceLT, Nat.reduceLeDiff, Nat.reduceEqDiff, ↓reduceIte, reduceCtorEq, Int.reduceAdd, Int.reduceSub, Int.reduceMul, Int.reduceLT, Int.reduceLE, Int.reduceEq, Int.reduceNe, Int.reduceToNat, Int.reduceNeg, go_sem, p15]
            · simp (maxSteps := 1000000) (disch := (first | omega | (simp only [nx_alloc, nx_upd, len_cons, len_nil, List.length_set, List.length_map, List.length_append] <;> omega) | fail)) only [Nat.reduceAdd, Nat.reduceSub, Nat.reduceMul, Nat.reduceLT, Nat.reduceLeDiff, Nat.reduceEqDiff, ↓reduceIte, reduceCtorEq, Int.reduceAdd, Int.reduceSub, Int.reduceMul, Int.reduceLT, Int.reduceLE, Int.reduceEq, Int.reduceNe, Int.reduceToNat, Int.reduceNeg, go_sem, p16]
              rw [hm]
            · simp (maxSteps := 1000000) (disch := (first | omega | (simp only [nx_alloc, nx_upd, len_cons, len_nil, List.length_set, List.length_map, List.length_append] <;> omega) | fail)) only [Nat.reduceAdd, Nat.reduceSub, Nat.reduceMul, Nat.reduceLT, Nat.reduceLeDiff, Nat.reduceEqDiff, ↓reduceIte, reduceCtorEq, Int.reduceAdd, Int.reduceSub, Int.reduceMul, Int.reduceLT, Int.reduceLE, Int.reduceEq, Int.reduceNe, Int.reduceToNat, Int.reduceNeg, go_sem]
        · have hm := mI_out (b := b) (q := q) (i := i) (by omega)
          simp (maxSteps := 1000000) (disch := (first | omega | (simp only [nx_alloc, nx_upd, len_cons, len_nil, List.length_set, List.length_map, List.length_append] <;> omega) | fail)) only [Nat.reduceAdd, Nat.reduceSub, Nat.reduceMul, Nat.reduceLT, Nat.reduceLeDiff, Nat.reduceEqDiff, ↓reduceIte, reduceCtorEq, Int.reduceAdd, Int.reduceSub, Int.reduceMul, Int.reduceLT, Int.reduceLE, Int.reduceEq, Int.reduceNe, Int.reduceToNat, Int.reduceNeg, go_sem, p1, p2, p15, p17, qk, ek]
          refine step _ _ _ (by rw [hm]; exact hT) rfl hg (fun c hc => rfl) ?_ ?_ ?_ ?_ ?_ ?_ ?_ ?_ ?_
          · simp (maxSteps := 1000000) (disch := (first | omega | (simp only [nx_alloc, nx_upd, len_cons, len_nil, List.length_set, List.length_map, List.length_append] <;> omega) | fail)) only [Nat.reduceAdd, Nat.reduceSub, Nat.reduceMul, Nat.reduceLT, Nat.reduceLeDiff, Nat.reduceEqDiff, ↓reduceIte, reduceCtorEq, Int.reduceAdd, Int.reduceSub, Int.reduceMul, Int.reduceLT, Int.reduceLE, Int.reduceEq, Int.reduceNe, Int.reduceToNat, Int.reduceNeg, go_sem, p0]
          · simp (maxSteps := 1000000) (disch := (first | omega | (simp only [nx_alloc, nx_upd, len_cons, len_nil, List.length_set, List.length_map, List.length_append] <;> omega) | fail)) only [Nat.reduceAdd, Nat.reduceSub, Nat.reduceMul, Nat.reduceLT, Nat.reduceLeDiff, Nat.reduceEqDiff, ↓reduceIte, reduceCtorEq, Int.reduceAdd, Int.reduceSub, Int.reduceMul, Int.reduceLT, Int.reduceLE, Int.reduceEq, Int.reduceNe, Int.reduceToNat, Int.reduceNeg, go_sem, p1]
          · simp (maxSteps := 1000000) (disch := (first | omega | (simp only [nx_alloc, nx_upd, len_cons, len_nil, List.length_set, List.length_map, List.length_append] <;> omega) | fail)) only [Nat.reduceAdd, Nat.reduceSub, Nat.reduceMul, Nat.reduceLT, Nat.reduceLeDiff, Nat.reduceEqDiff, ↓reduceIte, reduceCtorEq, Int.reduceAdd, Int.reduceSub, Int.reduceMul, Int.reduceLT, Int.reduceLE, Int.reduceEq, Int.reduceNe, Int.reduceToNat, Int.reduceNeg, go_sem, p2]
          · simp (maxSteps := 1000000) (disch := (first | omega | (simp only [nx_alloc, nx_upd, len_cons, len_nil, List.length_set, List.length_map, List.length_append] <;> omega) | fail)) only [Nat.reduceAdd, Nat.reduceSub, Nat.reduceMul, Nat.reduceLT, Nat.reduceLeDiff, Nat.reduceEqDiff, ↓reduceIte, reduceCtorEq, Int.reduceAdd, Int.reduceSub, Int.reduceMul, Int.reduceLT, Int.reduceLE, Int.reduceEq, Int.reduceNe, Int.reduceToNat, Int.reduceNeg, go_sem, p4]
          · simp (maxSteps := 1000000) (disch := (first | omega | (simp only [nx_alloc, nx_upd, len_cons, len_nil, List.length_set, List.length_map, List.length_append] <;> omega) | fail)) only [Nat.reduceAdd, Nat.reduceSub, Nat.reduceMul, Nat.reduceLT, Nat.reduceLeDiff, Nat.reduceEqDiff, ↓reduceIte, reduceCtorEq, Int.reduceAdd, Int.reduceSub, Int.reduceMul, Int.reduceLT, Int.reduceLE, Int.reduceEq, Int.reduceNe, Int.reduceToNat, Int.reduceNeg, go_sem, p13]
          · simp (maxSteps := 1000000) (disch := (first | omega | (simp only [nx_alloc, nx_upd, len_cons, len_nil, List.length_set, List.length_map, List.length_append] <;> omega) | fail)) only [Nat.reduceAdd, Nat.reduceSub, Nat.reduceMul, Nat.reduceLT, Nat.reduceLeDiff, Nat.reduceEqDiff, ↓reduceIte, reduceCtorEq, Int.reduceAdd, Int.reduceSub, Int.reduceMul, Int.reduceLT, Int.reduceLE, Int.reduceEq, Int.reduceNe, Int.reduceToNat, Int.reduceNeg, go_sem, p14]
          · simp (maxSteps := 1000000) (disch := (first | omega | (simp only [nx_alloc, nx_upd, len_cons, len_nil, List.length_set, List.length_map, List.length_append] <;> omega) | fail)) only [Nat.reduceAdd, Nat.reduceSub, Nat.reduceMul, Nat.reduceLT, Nat.reduceLeDiff, Nat.reduceEqDiff, ↓reduceIte, reduceCtorEq, Int.reduceAdd, Int.reduceSub, Int.reduceMul, Int.reduceLT, Int.reduceLE, Int.reduceEq, Int.reduceNe, Int.reduceToNat, Int.reduceNeg, go_sem, p15]
          · simp (maxSteps := 1000000) (disch := (first | omega | (simp only [nx_alloc, nx_upd, len_cons, len_nil, List.length_set, List.length_map, List.length_append] <;> omega) | fail)) only [Nat.reduceAdd, Nat.reduceSub, Nat.reduceMul, Nat.reduceLT, Nat.reduceLeDiff, Nat.reduceEqDiff, ↓reduceIte, reduceCtorEq, Int.reduceAdd, Int.reduceSub, Int.reduceMul, Int.reduceLT, Int.reduceLE, Int.reduceEq, Int.reduceNe, Int.reduceToNat, Int.reduceNeg, go_sem, p16]
            rw [hm]
          · simp (maxSteps := 1000000) (disch := (first | omega | (simp only [nx_alloc, nx_upd, len_cons, len_nil, List.length_set, List.length_map, List.length_append] <;> omega) | fail)) only [Nat.reduceAdd, Nat.reduceSub, Nat.reduceMul, Nat.reduceLT, Nat.reduceLeDiff, Nat.reduceEqDiff, ↓reduceIte, reduceCtorEq, Int.reduceAdd, Int.reduceSub, Int.reduceMul, Int.reduceLT, Int.reduceLE, Int.reduceEq, Int.reduceNe, Int.reduceToNat, Int.reduceNeg, go_sem]
      · rw [hQ]
        have hBb := hT.byt hpb hsb'
        have hBl : B.length = 6 + s.size := by rw [hTl]; (first | omega | (simp only [List.length_nil]; omega))
        have hBs : (strOfNums B).size = 6 + s.size := by rw [str_size, hBl]
        simp (maxSteps := 1000000) (disch := (first | omega | (simp only [nx_alloc, nx_upd, len_cons, len_nil, List.length_set, List.length_map, List.length_append] <;> omega) | fail)) only [Nat.reduceAdd, Nat.reduceSub, Nat.reduceMul, Nat.reduceLT, Nat.reduceLeDiff, Nat.reduceEqDiff, ↓reduceIte, reduceCtorEq, Int.reduceAdd, Int.reduceSub, Int.reduceMul, Int.reduceLT, Int.reduceLE, Int.reduceEq, Int.reduceNe, Int.reduceToNat, Int.reduceNeg, go_sem, p13, hg]
        rw [textC_some (l := B) (by rw [List.length_map, hBl]; omega) (by rw [List.drop_zero]; exact List.take_of_length_le (by rw [List.length_map, hBl]; omega))]
        have hcat : strOfNums B ++ rest = strOfNums (B ++ nums rest) := by rw [← str_append, str_nums]
        have hcz : (strOfNums (B ++ nums rest)).size = 6 + s.size + rest.size := by rw [str_size, List.length_append, hBl, nums_length]
        simp (maxSteps := 1000000) (disch := (first | omega | (simp only [nx_alloc, nx_upd, len_cons, len_nil, List.length_set, List.length_map, List.length_append] <;> omega) | fail)) only [Nat.reduceAdd, Nat.reduceSub, Nat.reduceMul, Nat.reduceLT, Nat.reduceLeDiff, Nat.reduceEqDiff, ↓reduceIte, reduceCtorEq, Int.reduceAdd, Int.reduceSub, Int.reduceMul, Int.reduceLT, Int.reduceLE, Int.reduceEq, Int.reduceNe, Int.reduceToNat, Int.reduceNeg, go_sem, p4, hBs, hcat]
        refine call1 (first_ok w0 A' _ (by omega)) ?_
        rw [nums_str (fun x hx => (List.mem_append.1 hx).elim (hBb x) (hrb x))]
        obtain ⟨M, hM⟩ : ∃ M, M = mI b q i := ⟨_, rfl⟩
        have hM32 : M < 4294967296 := by rw [hM]; exact mI_lt _ _ _ hb32
        rw [← hM] at hT p16
        by_cases hM0 : M = 0
        · subst hM0
          rw [hT.zero hRb]
          have hfr : firstL ((bigL P.length 2) ++ (bigL (sumZ (bigL P.length 2 ++ P)) 4) ++ (P) ++ nums rest) = (P, nums rest, 0) := by
            have := frame_first (l := P) (r := nums rest) hPb (by omega)
            unfold frameL at this
            simpa using this
          rw [hfr]
          simp (maxSteps := 1000000) (disch := (first | omega | (simp only [nx_alloc, nx_upd, len_cons, len_nil, List.length_set, List.length_map, List.length_append] <;> omega) | fail)) only [Nat.reduceAdd, Nat.reduceSub, Nat.reduceMul, Nat.reduceLT, Nat.reduceLeDiff, Nat.reduceEqDiff, ↓reduceIte, reduceCtorEq, Int.reduceAdd, Int.reduceSub, Int.reduceMul, Int.reduceLT, Int.reduceLE, Int.reduceEq, Int.reduceNe, Int.reduceToNat, Int.reduceNeg, go_sem, firstV, p16, p0, hss, Try.results3]
          exact gc_fin hw hov (by simp only [bnd_bool])
        · have hfr : firstL (B ++ nums rest) = ([], [], 100) := by
            obtain ⟨R', rfl, hl', hb', hv'⟩ := hT
            have hne : R' ≠ bigL (sumZ (bigL P.length 2 ++ P)) 4 := by
              intro h
              rw [h] at hv'
              have h0 : M * 2 ^ k = 0 := by
                have : leV (bigL (sumZ (bigL P.length 2 ++ P)) 4) ^^^ leV (bigL (sumZ (bigL P.length 2 ++ P)) 4) = leV (bigL (sumZ (bigL P.length 2 ++ P)) 4) ^^^ (leV (bigL (sumZ (bigL P.length 2 ++ P)) 4) ^^^ (M * 2 ^ k)) := by rw [← hv']
                rw [Nat.xor_self, ← Nat.xor_assoc, Nat.xor_self, Nat.zero_xor] at this
                exact this.symm
              have hpk := Nat.two_pow_pos k
              rcases Nat.mul_eq_zero.1 h0 with h | h
              · exact hM0 h
              · omega
            have h4 : R'.length = 4 := by rw [hl', bigL_length]
            have hgen := first_gen (q := R') (x := P) (r := nums rest) (by omega) h4
            rw [show bigL P.length 2 ++ R' ++ P ++ nums rest = bigL P.length 2 ++ (R' ++ (P ++ nums rest)) by simp, hgen, if_pos]
            intro he
            apply hne
            refine beN_inj 4 _ _ h4 (bigL_length _ _) hb' (bigL_byte _ _) ?_
            rw [beN_big, Nat.mod_eq_of_lt hsl, ← he]
          rw [hfr]
          simp (maxSteps := 1000000) (disch := (first | omega | (simp only [nx_alloc, nx_upd, len_cons, len_nil, List.length_set, List.length_map, List.length_append] <;> omega) | fail)) only [Nat.reduceAdd, Nat.reduceSub, Nat.reduceMul, Nat.reduceLT, Nat.reduceLeDiff, Nat.reduceEqDiff, ↓reduceIte, reduceCtorEq, Int.reduceAdd, Int.reduceSub, Int.reduceMul, Int.reduceLT, Int.reduceLE, Int.reduceEq, Int.reduceNe, Int.reduceToNat, Int.reduceNeg, go_sem, firstV, p16, hM0, hse, hsb, Try.results3]
          exact gc_fin hw hov (by simp only [bnd_bool])
    · have hsm' : sm = false := by cases sm <;> simp_all
      have hz : s.size = 0 := by rcases hsel with h | h; exact absurd h hsm; exact h
      have hd80 : decide (((8 * s.size : Nat) : Int) = 0) = true := decide_eq_true (by omega)
      simp (maxSteps := 1000000) (disch := (first | omega | (simp only [nx_alloc, nx_upd, len_cons, len_nil, List.length_set, List.length_map, List.length_append] <;> omega) | fail)) only [Nat.reduceAdd, Nat.reduceSub, Nat.reduceMul, Nat.reduceLT, Nat.reduceLeDiff, Nat.reduceEqDiff, ↓reduceIte, reduceCtorEq, Int.reduceAdd, Int.reduceSub, Int.reduceMul, Int.reduceLT, Int.reduceLE, Int.reduceEq, Int.reduceNe, Int.reduceToNat, Int.reduceNeg, go_sem, hsm', e8, hd80]
      obtain ⟨k, hk⟩ : ∃ k, k = ct % 32 := ⟨_, rfl⟩
      have hkm : k < 32 := by rw [hk]; exact Nat.mod_lt _ (by omega)
      have qk : Int.tmod (ct : Int) ((32 : Nat) : Int) = (k : Int) := by rw [hk, Int.tmod_eq_emod_of_nonneg (by omega)]; exact (Int.natCast_emod _ _).symm
      obtain ⟨q, hq⟩ : ∃ q, q = 32 - k := ⟨_, rfl⟩
      have hRl : (bigL (sumZ (bigL P.length 2 ++ P)) 4).length = 4 := bigL_length _ _
      have hpl : (bigL P.length 2).length = 2 := by simp [bigL_length]
      have hRb : ∀ x ∈ bigL (sumZ (bigL P.length 2 ++ P)) 4, Byte x := by first | exact hPb | exact bigL_byte _ _
      have hpb : ∀ x ∈ bigL P.length 2, Byte x := by intro x hx; first | exact bigL_byte _ _ x hx | (exact (List.mem_append.1 hx).elim (bigL_byte _ _ x) (bigL_byte _ _ x))
      have hsb' : ∀ x ∈ (P : List Int), Byte x := by first | exact hPb | (intro x hx; cases hx)
      refine aw_hide fun Q hQ => ?_
      refine aw_loop (fun m a A' => ∃ (ρ : Nat → Value) (i : Nat) (B : List Int), a = E 127 ρ [] ∧ m = 32 - i ∧ i ≤ 32 ∧ Over A A' ∧ A.next + 1 ≤ A'.next ∧ A'.get A.next = some (.cells (B.map (.int .u8 ·)) 5 (some 0)) ∧ TurnI B (bigL P.length 2) (bigL (sumZ (bigL P.length 2 ++ P)) 4) (P) (mI b q i) k ∧
          ρ 0 = .string s ∧ ρ 1 = .int .u16 ct ∧ ρ 2 = .int .u32 b ∧ ρ 4 = .string rest ∧ ρ 13 = .slice (some ⟨A.next, 0, some 1⟩) (6 + s.size) (6 + s.size) ∧ ρ 14 = .int .i64 16 ∧ ρ 15 = .int .i64 ((32 : Nat) : Int) ∧ ρ 16 = .bool (decide (mI b q i ≠ 0)) ∧ ρ 17 = .int .i64 i) 32
        ⟨_, 0, frameL P, rfl, rfl, by omega, ho1, by omega, hg1, ⟨_, ?_, rfl, hRb, by rw [mI_zero, Nat.zero_mul, Nat.xor_zero]⟩, rfl, rfl, rfl, rfl, rfl, rfl, ?_, ?_, rfl⟩ ?_
      · unfold frameL
        simp
      · simp (maxSteps := 1000000) (disch := (first | omega | (simp only [nx_alloc, nx_upd, len_cons, len_nil, List.length_set, List.length_map, List.length_append] <;> omega) | fail)) only [Nat.reduceAdd, Nat.reduceSub, Nat.reduceMul, Nat.reduceLT, Nat.reduceLeDiff, Nat.reduceEqDiff, ↓reduceIte, reduceCtorEq, Int.reduceAdd, Int.reduceSub, Int.reduceMul, Int.reduceLT, Int.reduceLE, Int.reduceEq, Int.reduceNe, Int.reduceToNat, Int.reduceNeg, go_sem]
        all_goals (try rfl)
      · simp (maxSteps := 1000000) (disch := (first | omega | (simp only [nx_alloc, nx_upd, len_cons, len_nil, List.length_set, List.length_map, List.length_append] <;> omega) | fail)) only [Nat.reduceAdd, Nat.reduceSub, Nat.reduceMul, Nat.reduceLT, Nat.reduceLeDiff, Nat.reduceEqDiff, ↓reduceIte, reduceCtorEq, Int.reduceAdd, Int.reduceSub, Int.reduceMul, Int.reduceLT, Int.reduceLE, Int.reduceEq, Int.reduceNe, Int.reduceToNat, Int.reduceNeg, go_sem, mI_zero]
        all_goals simp
      rintro m a A' ⟨ρ, i, B, rfl, rfl, hi, hov, hn, hg, hT, p0, p1, p2, p4, p13, p14, p15, p16, p17⟩
      have hTl : B.length = 2 + 4 + (P : List Int).length := by
        have := hT.len
        omega
      refine aw_of ?_
      simp (maxSteps := 1000000) (disch := (first | omega | (simp only [nx_alloc, nx_upd, len_cons, len_nil, List.length_set, List.length_map, List.length_append] <;> omega) | fail)) only [Nat.reduceAdd, Nat.reduceSub, Nat.reduceMul, Nat.reduceLT, Nat.reduceLeDiff, Nat.reduceEqDiff, ↓reduceIte, reduceCtorEq, Int.reduceAdd, Int.reduceSub, Int.reduceMul, Int.reduceLT, Int.reduceLE, Int.reduceEq, Int.reduceNe, Int.reduceToNat, Int.reduceNeg, go_sem, p17]
      refine ifB_dec (fun hlt => ?_) (fun hlt => ?_)
      · have ek : (k : Int) + (i : Int) = ((k + i : Nat) : Int) := by omega
        have hbit := u32_bit b i hb32 (by omega)
        have step : ∀ (ρ' : Nat → Value) (A2 : St) (B' : List Int), TurnI B' (bigL P.length 2) (bigL (sumZ (bigL P.length 2 ++ P)) 4) (P) (mI b q (i + 1)) k → A2.next = A'.next → A2.get A.next = some (.cells (B'.map (.int .u8 ·)) 5 (some 0)) → (∀ c, c < A.next → A2.get c = A'.get c) → ρ' 0 = .string s → ρ' 1 = .int .u16 ct → ρ' 2 = .int .u32 b → ρ' 4 = .string rest → ρ' 13 = .slice (some ⟨A.next, 0, some 1⟩) (6 + s.size) (6 + s.size) → ρ' 14 = .int .i64 16 → ρ' 15 = .int .i64 ((32 : Nat) : Int) → ρ' 16 = .bool (decide (mI b q (i + 1) ≠ 0)) → ρ' 17 = .int .i64 ((i : Int) + 1) →
          ∃ m', m' < 32 - i ∧ ∃ (ρ : Nat → Value) (i : Nat) (B : List Int), E 127 ρ' [] = E 127 ρ [] ∧ m' = 32 - i ∧ i ≤ 32 ∧ Over A A2 ∧ A.next + 1 ≤ A2.next ∧ A2.get A.next = some (.cells (B.map (.int .u8 ·)) 5 (some 0)) ∧ TurnI B (bigL P.length 2) (bigL (sumZ (bigL P.length 2 ++ P)) 4) (P) (mI b q i) k ∧
          ρ 0 = .string s ∧ ρ 1 = .int .u16 ct ∧ ρ 2 = .int .u32 b ∧ ρ 4 = .string rest ∧ ρ 13 = .slice (some ⟨A.next, 0, some 1⟩) (6 + s.size) (6 + s.size) ∧ ρ 14 = .int .i64 16 ∧ ρ 15 = .int .i64 ((32 : Nat) : Int) ∧ ρ 16 = .bool (decide (mI b q i ≠ 0)) ∧ ρ 17 = .int .i64 i := fun ρ' A2 B' h1 h2 h3 h4 x0 x1 x2 x4 x13 x14 x15 x16 x17 =>
            ⟨32 - (i + 1), by omega, ρ', i + 1, B', rfl, rfl, by omega, ⟨by omega, fun c hc => (h4 c hc).trans (hov.get c hc)⟩, by omega, h3, h1, x0, x1, x2, x4, x13, x14, x15, x16, x17⟩
        by_cases hin : k + i < 32
        · by_cases hb1 : b / 2 ^ i % 2 = 1
          · obtain ⟨c, hc, hcB, hT'⟩ := TurnI.step (M := 0) hT (by rw [hRl]; omega) (by omega) hb1
            have hm := (mI_yes (b := b) (q := q) (i := i) (by omega) hb1).2
            obtain ⟨p, hp⟩ : ∃ p, p = 16 + (k + i) := ⟨_, rfl⟩
            have ep : (16 : Int) + ((k + i : Nat) : Int) = (p : Int) := by omega
            have ep1 : Int.tdiv (p : Int) 8 = ((p / 8 : Nat) : Int) := by rw [Int.tdiv_eq_ediv_of_nonneg (by omega)]; omega
            have ep2 : Int.tmod (p : Int) 8 = ((p % 8 : Nat) : Int) := by rw [Int.tmod_eq_emod_of_nonneg (by omega)]; omega
            have ej : 2 + (k + i) / 8 = p / 8 := by omega
            have er : (k + i) % 8 = p % 8 := by omega
            rw [hpl, ej] at hcB hT'
            rw [er] at hT'
            have hcell : (B.map (Value.int .u8 ·))[p / 8]? = some (.int .u8 (c : Int)) := by rw [List.getElem?_map, hcB]; rfl
            have hp8 : 2 ^ (p % 8) < 256 := by
              have : 2 ^ (p % 8) ≤ 2 ^ 7 := Nat.pow_le_pow_right (by decide) (by omega)
              omega
            have hx := u8_xor c (2 ^ (p % 8)) hc hp8
            have hml : (B.map (Value.int .u8 ·)).length = 6 + s.size := by rw [List.length_map, hTl]; (first | omega | (simp only [List.length_nil]; omega))
            have hpB : p / 8 < 6 + s.size := by omega
            simp (maxSteps := 1000000) (disch := (first | omega | (simp only [nx_alloc, nx_upd, len_cons, len_nil, List.length_set, List.length_map, List.length_append] <;> omega) | fail)) only [Nat.reduceAdd, Nat.reduceSub, Nat.reduceMul, Nat.reduceLT, Nat.reduceLeDiff, Nat.reduceEqDiff, ↓reduceIte, reduceCtorEq, Int.reduceAdd, Int.reduceSub, Int.reduceMul, Int.reduceLT, Int.reduceLE, Int.reduceEq, Int.reduceNe, Int.reduceToNat, Int.reduceNeg, go_sem, p1, p2, p15, p17, qk, ek, hbit, hb1]
            refine aw_draw2 [⟨false, [], [0]⟩, ⟨false, [], [0]⟩, ⟨false, [], [0]⟩, ⟨false, [1, 2], [0]⟩, ⟨false, [1, 2, 3], [0]⟩, ⟨false, [], [0]⟩, ⟨false, [], [0]⟩, ⟨false, [], [0]⟩, ⟨false, [6, 7], [0]⟩, ⟨false, [6, 7, 8], [0]⟩, ⟨false, [5, 6, 7, 8, 9], [0]⟩, ⟨false, [5, 6, 7, 8, 9, 10], [0]⟩, ⟨false, [], [0]⟩, ⟨false, [], [0]⟩, ⟨false, [12, 13], [0]⟩, ⟨false, [12, 13, 14], [0]⟩, ⟨false, [12, 13, 14, 15], [0]⟩, ⟨false, [5, 6, 7, 8, 9, 10, 11, 12, 13, 14, 15, 16], [0]⟩, ⟨false, [0, 1, 2, 3, 4, 5, 6, 7, 8, 9, 10, 11, 12, 13, 14, 15, 16, 17], [0]⟩, ⟨true, [0, 1, 2, 3, 4, 5, 6, 7, 8, 9, 10, 11, 12, 13, 14, 15, 16, 17, 18], [0]⟩] [A', A'.upd A.next (some (.cells ((B.set (p / 8) ((c ^^^ 2 ^ (p % 8) : Nat) : Int)).map (.int .u8 ·)) 5 (some 0)))] 1 (by kernel_rfl) (by kernel_rfl) rfl ?_
            simp (maxSteps := 1000000) (disch := (first | omega | (simp only [nx_alloc, nx_upd, len_cons, len_nil, List.length_set, List.length_map, List.length_append] <;> omega) | fail)) only [Nat.reduceAdd, Nat.reduceSub, Nat.reduceMul, Nat.reduceLT, Nat.reduceLeDiff, Nat.reduceEqDiff, ↓reduceIte, reduceCtorEq, Int.reduceAdd, Int.reduceSub, Int.reduceMul, Int.reduceLT, Int.reduceLE, Int.reduceEq, Int.reduceNe, Int.reduceToNat, Int.reduceNeg, go_sem, p13, p14, ep, ep1, ep2, hg, hcell, u8_one (p % 8) (Nat.mod_lt _ (by decide)), hx, List.map_set, p17]
            refine ⟨32 - (i + 1), by omega, _, i + 1, B.set (p / 8) ((c ^^^ 2 ^ (p % 8) : Nat) : Int), rfl, rfl, by omega, hov.upd (Nat.le_refl _) _, ?_, ?_, hT', ?_, ?_, ?_, ?_, ?_, ?_, ?_, ?_, ?_⟩
            · first | exact hn | (simp (disch := (first | omega | (simp only [nx_alloc, nx_upd, len_cons, len_nil, List.length_set, List.length_map, List.length_append] <;> omega) | fail)) only [St.get_upd, St.get_alloc, St.next_alloc, St.next_upd, ↓reduceIte, natF_lt, natF_gt, natF_ne, Nat.add_assoc, Nat.reduceAdd, Nat.reduceEqDiff, Nat.add_left_cancel_iff]; exact hn)
            · first | rfl | (rw [List.map_set]) | exact get_upd_same ..
            · simp (maxSteps := 1000000) (disch := (first | omega | (simp only [nx_alloc, nx_upd, len_cons, len_nil, List.length_set, List.length_map, List.length_append] <;> omega) | fail)) only [Nat.reduceAdd, Nat.reduceSub, Nat.reduceMul, Nat.reduceLT, Nat.reduceLeDiff, Nat.reduceEqDiff, ↓reduceIte, reduceCtorEq, Int.reduceAdd, Int.reduceSub, Int.reduceMul, Int.reduceLT, Int.reduceLE, Int.reduceEq, Int.reduceNe, Int.reduceToNat, Int.reduceNeg, go_sem, p0]
            · simp (maxSteps := 1000000) (disch := (first | omega | (simp only [nx_alloc, nx_upd, len_cons, len_nil, List.length_set, List.length_map, List.length_append] <;> omega) | fail)) only [Nat.reduceAdd, Nat.reduceSub, Nat.reduceMul, Nat.reduceLT, Nat.reduceLeDiff, Nat.reduceEqDiff, ↓reduceIte, reduceCtorEq, Int.reduceAdd, Int.reduceSub, Int.reduceMul, Int.reduceLT, Int.reduceLE, Int.reduceEq, Int.reduceNe, Int.reduceToNat, Int.reduceNeg, go_sem, p1]
            · simp (maxSteps := 1000000) (disch := (first | omega | (simp only [nx_alloc, nx_upd, len_cons, len_nil, List.length_set, List.length_map, List.length_append] <;> omega) | fail)) only [Nat.reduceAdd, Nat.reduceSub, Nat.reduceMul, Nat.reduceLT, Nat.reduceLeDiff, Nat.reduceEqDiff, ↓reduceIte, reduceCtorEq, Int.reduceAdd, Int.reduceSub, Int.reduceMul, Int.reduceLT, Int.reduceLE, Int.reduceEq, Int.reduceNe, Int.reduceToNat, Int.reduceNeg, go_sem, p2]
            · simp (maxSteps := 1000000) (disch := (first | omega | (simp only [nx_alloc, nx_upd, len_cons, len_nil, List.length_set, List.length_map, List.length_append] <;> omega) | fail)) only [Nat.reduceAdd, Nat.reduceSub, Nat.reduceMul, Nat.reduceLT, Nat.reduceLeDiff, Nat.reduceEqDiff, ↓reduceIte, reduceCtorEq, Int.reduceAdd, Int.reduceSub, Int.reduceMul, Int.reduceLT, Int.reduceLE, Int.reduceEq, Int.reduceNe, Int.reduceToNat, Int.reduceNeg, go_sem, p4]
            · simp (maxSteps := 1000000) (disch := (first | omega | (simp only [nx_alloc, nx_upd, len_cons, len_nil, List.length_set, List.length_map, List.length_append] <;> omega) | fail)) only [Nat.reduceAdd, Nat.reduceSub, Nat.reduceMul, Nat.reduceLT, Nat.reduceLeDiff, Nat.reduceEqDiff, ↓reduceIte, reduceCtorEq, Int.reduceAdd, Int.reduceSub, Int.reduceMul, Int.reduceLT, Int.reduceLE, Int.reduceEq, Int.reduceNe, Int.reduceToNat, Int.reduceNeg, go_sem, p13]
            · simp (maxSteps := 1000000) (disch := (first | omega | (simp only [nx_alloc, nx_upd, len_cons, len_nil, List.length_set, List.length_map, List.length_append] <;> omega) | fail)) only [Nat.reduceAdd, Nat.reduceSub, Nat.reduceMul, Nat.reduceLT, Nat.reduceLeDiff, Nat.reduceEqDiff, ↓reduceIte, reduceCtorEq, Int.reduceAdd, Int.reduceSub, Int.reduceMul, Int.reduceLT, Int.reduceLE, Int.reduceEq, Int.reduceNe, Int.reduceToNat, Int.reduceNeg, go_sem, p14]
            · simp (maxSteps := 1000000) (disch := (first | omega | (simp only [nx_alloc, nx_upd, len_cons, len_nil, List.length_set, List.length_map, List.length_append] <;> omega) | fail)) only [Nat.reduceAdd, Nat.reduceSub, Nat.reduceMul, Nat.reduceLT, Nat.reduceLeDiff, Nat.reduceEqDiff, ↓reduceIte, reduceCtorEq, Int.reduceAdd, Int.reduceSub, Int.reduceMul, Int.reduceLT, Int.reduceLE, Int.reduceEq, Int.reduceNe, Int.reduceToNat, Int.reduceNeg, go_sem, p15]
            · simp (maxSteps := 1000000) (disch := (first | omega | (simp only [nx_alloc, nx_upd, len_cons, len_nil, List.length_set, List.length_map, List.length_append] <;> omega) | fail)) only [Nat.reduceAdd, Nat.reduceSub, Nat.reduceMul, Nat.reduceLT, Nat.reduceLeDiff, Nat.reduceEqDiff, ↓reduceIte, reduceCtorEq, Int.reduceAdd, Int.reduceSub, Int.reduceMul, Int.reduceLT, Int.reduceLE, Int.reduceEq, Int.reduceNe, Int.reduceToNat, Int.reduceNeg, go_sem]
              rw [decide_eq_true hm]
            · simp (maxSteps := 1000000) (disch := (first | omega | (simp only [nx_alloc, nx_upd, len_cons, len_nil, List.length_set, List.length_map, List.length_append] <;> omega) | fail)) only [Nat.reduceAdd, Nat.reduceSub, Nat.reduceMul, Nat.reduceLT, Nat.reduceLeDiff, Nat.reduceEqDiff, ↓reduceIte, reduceCtorEq, Int.reduceAdd, Int.reduceSub, Int.reduceMul, Int.reduceLT, Int.reduceLE, Int.reduceEq, Int.reduceNe, Int.reduceToNat, Int.reduceNeg, go_sem]
              all_goals (try rfl)
          · have hb0 : b / 2 ^ i % 2 = 0 := by omega
            have hm := mI_no (b := b) (q := q) (i := i) (by omega) hb0
            simp (maxSteps := 1000000) (disch := (first | omega | (simp only [nx_alloc, nx_upd, len_cons, len_nil, List.length_set, List.length_map, List.length_append] <;> omega) | fail)) only [Nat.reduceAdd, Nat.reduceSub, Nat.reduceMul, Nat.reduceLT, Nat.reduceLeDiff, Nat.reduceEqDiff, ↓reduceIte, reduceCtorEq, Int.reduceAdd, Int.reduceSub, Int.reduceMul, Int.reduceLT, Int.reduceLE, Int.reduceEq, Int.reduceNe, Int.reduceToNat, Int.reduceNeg, go_sem, p1, p2, p15, p17, qk, ek, hbit, hb0]
            refine step _ _ _ (by rw [hm]; exact hT) rfl hg (fun c hc => rfl) ?_ ?_ ?_ ?_ ?_ ?_ ?_ ?_ ?_
            · simp (maxSteps := 1000000) (disch := (first | omega | (simp only [nx_alloc, nx_upd, len_cons, len_nil, List.length_set, List.length_map, List.length_append] <;> omega) | fail)) only [Nat.reduceAdd, Nat.reduceSub, Nat.reduceMul, Nat.reduceLT, Nat.reduceLeDiff, Nat.reduceEqDiff, ↓reduceIte, reduceCtorEq, Int.reduceAdd, Int.reduceSub, Int.reduceMul, Int.reduceLT, Int.reduceLE, Int.reduceEq, Int.reduceNe, Int.reduceToNat, Int.reduceNeg, go_sem, p0]
            · simp (maxSteps := 1000000) (disch := (first | omega | (simp only [nx_alloc, nx_upd, len_cons, len_nil, List.length_set, List.length_map, List.length_append] <;> omega) | fail)) only [Nat.reduceAdd, Nat.reduceSub, Nat.reduceMul, Nat.reduceLT, Nat.reduceLeDiff, Nat.reduceEqDiff, ↓reduceIte, reduceCtorEq, Int.reduceAdd, Int.reduceSub, Int.reduceMul, Int.reduceLT, Int.reduceLE, Int.reduceEq, Int.reduceNe, Int.reduceToNat, Int.reduceNeg, go_sem, p1]
            · simp (maxSteps := 1000000) (disch := (first | omega | (simp only [nx_alloc, nx_upd, len_cons, len_nil, List.length_set, List.length_map, List.length_append] <;> omega) | fail)) only [Nat.reduceAdd, Nat.reduceSub, Nat.reduceMul, Nat.reduceLT, Nat.reduceLeDiff, Nat.reduceEqDiff, ↓reduceIte, reduceCtorEq, Int.reduceAdd, Int.reduceSub, Int.reduceMul, Int.reduceLT, Int.reduceLE, Int.reduceEq, Int.reduceNe, Int.reduceToNat, Int.reduceNeg, go_sem, p2]
            · simp (maxSteps := 1000000) (disch := (first | omega | (simp only [nx_alloc, nx_upd, len_cons, len_nil, List.length_set, List.length_map, List.length_append] <;> omega) | fail)) only [Nat.reduceAdd, Nat.reduceSub, Nat.reduceMul, Nat.reduceLT, Nat.reduceLeDiff, Nat.reduceEqDiff, ↓reduceIte, reduceCtorEq, Int.reduceAdd, Int.reduceSub, Int.reduceMul, Int.reduceLT, Int.reduceLE, Int.reduceEq, Int.reduceNe, Int.reduceToNat, Int.reduceNeg, go_sem, p4]
            · simp (maxSteps := 1000000) (disch := (first | omega | (simp only [nx_alloc, nx_upd, len_cons, len_nil, List.length_set, List.length_map, List.length_append] <;> omega) | fail)) only [Nat.reduceAdd, Nat.reduceSub, Nat.reduceMul, Nat.reduceLT, Nat.reduceLeDiff, Nat.reduceEqDiff, ↓reduceIte, reduceCtorEq, Int.reduceAdd, Int.reduceSub, Int.reduceMul, Int.reduceLT, Int.reduceLE, Int.reduceEq, Int.reduceNe, Int.reduceToNat, Int.reduceNeg, go_sem, p13]
            · simp (maxSteps := 1000000) (disch := (first | omega | (simp only [nx_alloc, nx_upd, len_cons, len_nil, List.length_set, List.length_map, List.length_append] <;> omega) | fail)) only [Nat.reduceAdd, Nat.reduceSub, Nat.reduceMul, Nat.reduceLT, Nat.reduceLeDiff, Nat.reduceEqDiff, ↓reduceIte, reduceCtorEq, Int.reduceAdd, Int.reduceSub, Int.reduceMul, Int.reduceLT, Int.reduceLE, Int.reduceEq, Int.reduceNe, Int.reduceToNat, Int.reduceNeg, go_sem, p14]
            · simp (maxSteps := 1000000) (disch := (first | omega | (simp only [nx_alloc, nx_upd, len_cons, len_nil, List.length_set, List.length_map, List.length_append] <;> omega) | fail)) only [Nat.reduceAdd, Nat.reduceSub, Nat.reduceMul, Nat.reduceLT, Nat.reduceLeDiff, Nat.reduceEqDiff, ↓reduceIte, reduceCtorEq, Int.reduceAdd, Int.reduceSub, Int.reduceMul, Int.reduceLT, Int.reduceLE, Int.reduceEq, Int.reduceNe, Int.reduceToNat, Int.reduceNeg, go_sem, p15]
            · simp (maxSteps := 1000000) (disch := (first | omega | (simp only [nx_alloc, nx_upd, len_cons, len_nil, List.length_set, List.length_map, List.length_append] <;> omega) | fail)) only [Nat.reduceAdd, Nat.reduceSub, Nat.reduceMul, Nat.reduceLT, Nat.reduceLeDiff, Nat.reduceEqDiff, ↓reduceIte, reduceCtorEq, Int.reduceAdd, Int.reduceSub, Int.reduceMul, Int.reduceLT, Int.reduceLE, Int.reduceEq, Int.reduceNe, Int.reduceToNat, Int.reduceNeg, go_sem, p16]
              rw [hm]
            · simp (maxSteps := 1000000) (disch := (first | omega | (simp only [nx_alloc, nx_upd, len_cons, len_nil, List.length_set, List.length_map, List.length_append] <;> omega) | fail)) only [Nat.reduceAdd, Nat.reduceSub, Nat.reduceMul, Nat.reduceLT, Nat.reduceLeDiff, Nat.reduceEqDiff, ↓reduceIte, reduceCtorEq, Int.reduceAdd, Int.reduceSub, Int.reduceMul, Int.reduceLT, Int.reduceLE, Int.reduceEq, Int.reduceNe, Int.reduceToNat, Int.reduceNeg, go_sem]
        · have hm := mI_out (b := b) (q := q) (i := i) (by omega)
          simp (maxSteps := 1000000) (disch := (first | omega | (simp only [nx_alloc, nx_upd, len_cons, len_nil, List.length_set, List.length_map, List.length_append] <;> omega) | fail)) only [Nat.reduceAdd, Nat.reduceSub, Nat.reduceMul, Nat.reduceLT, Nat.reduceLeDiff, Nat.reduceEqDiff, ↓reduceIte, reduceCtorEq, Int.reduceAdd, Int.reduceSub, Int.reduceMul, Int.reduceLT, Int.reduceLE, Int.reduceEq, Int.reduceNe, Int.reduceToNat, Int.reduceNeg, go_sem, p1, p2, p15, p17, qk, ek]
          refine step _ _ _ (by rw [hm]; exact hT) rfl hg (fun c hc => rfl) ?_ ?_ ?_ ?_ ?_ ?_ ?_ ?_ ?_
          · simp (maxSteps := 1000000) (disch := (first | omega | (simp only [nx_alloc, nx_upd, len_cons, len_nil, List.length_set, List.length_map, List.length_append] <;> omega) | fail)) only [Nat.reduceAdd, Nat.reduceSub, Nat.reduceMul, Nat.reduceLT, Nat.reduceLeDiff, Nat.reduceEqDiff, ↓reduceIte, reduceCtorEq, Int.reduceAdd, Int.reduceSub, Int.reduceMul, Int.reduceLT, Int.reduceLE, Int.reduceEq, Int.reduceNe, Int.reduceToNat, Int.reduceNeg, go_sem, p0]
          · simp (maxSteps := 1000000) (disch := (first | omega | (simp only [nx_alloc, nx_upd, len_cons, len_nil, List.length_set, List.length_map, List.length_append] <;> omega) | fail)) only [Nat.reduceAdd, Nat.reduceSub, Nat.reduceMul, Nat.reduceLT, Nat.reduceLeDiff, Nat.reduceEqDiff, ↓reduceIte, reduceCtorEq, Int.reduceAdd, Int.reduceSub, Int.reduceMul, Int.reduceLT, Int.reduceLE, Int.reduceEq, Int.reduceNe, Int.reduceToNat, Int.reduceNeg, go_sem, p1]
          · simp (maxSteps := 1000000) (disch := (first | omega | (simp only [nx_alloc, nx_upd, len_cons, len_nil, List.length_set, List.length_map, List.length_append] <;> omega) | fail)) only [Nat.reduceAdd, Nat.reduceSub, Nat.reduceMul, Nat.reduceLT, Nat.reduceLeDiff, Nat.reduceEqDiff, ↓reduceIte, reduceCtorEq, Int.reduceAdd, Int.reduceSub, Int.reduceMul, Int.reduceLT, Int.reduceLE, Int.reduceEq, Int.reduceNe, Int.reduceToNat, Int.reduceNeg, go_sem, p2]
          · simp (maxSteps := 1000000) (disch := (first | omega | (simp only [nx_alloc, nx_upd, len_cons, len_nil, List.length_set, List.length_map, List.length_append] <;> omega) | fail)) only [Nat.reduceAdd, Nat.reduceSub, Nat.reduceMul, Nat.reduceLT, Nat.reduceLeDiff, Nat.reduceEqDiff, ↓reduceIte, reduceCtorEq, Int.reduceAdd, Int.reduceSub, Int.reduceMul, Int.reduceLT, Int.reduceLE, Int.reduceEq, Int.reduceNe, Int.reduceToNat, Int.reduceNeg, go_sem, p4]
          · simp (maxSteps := 1000000) (disch := (first | omega | (simp only [nx_alloc, nx_upd, len_cons, len_nil, List.length_set, List.length_map, List.length_append] <;> omega) | fail)) only [Nat.reduceAdd, Nat.reduceSub, Nat.reduceMul, Nat.reduceLT, Nat.reduceLeDiff, Nat.reduceEqDiff, ↓reduceIte, reduceCtorEq, Int.reduceAdd, Int.reduceSub, Int.reduceMul, Int.reduceLT, Int.reduceLE, Int.reduceEq, Int.reduceNe, Int.reduceToNat, Int.reduceNeg, go_sem, p13]
          · simp (maxSteps := 1000000) (disch := (first | omega | (simp only [nx_alloc, nx_upd, len_cons, len_nil, List.length_set, List.length_map, List.length_append] <;> omega) | fail)) only [Nat.reduceAdd, Nat.reduceSub, Nat.reduceMul, Nat.reduceLT, Nat.reduceLeDiff, Nat.reduceEqDiff, ↓reduceIte, reduceCtorEq, Int.reduceAdd, Int.reduceSub, Int.reduceMul, Int.reduceLT, Int.reduceLE, Int.reduceEq, Int.reduceNe, Int.reduceToNat, Int.reduceNeg, go_sem, p14]
          · simp (maxSteps := 1000000) (disch := (first | omega | (simp only [nx_alloc, nx_upd, len_cons, len_nil, List.length_set, List.length_map, List.length_append] <;> omega) | fail)) only [Nat.reduceAdd, Nat.reduceSub, Nat.reduceMul, Nat.reduceLT, Nat.reduceLeDiff, Nat.reduceEqDiff, ↓reduceIte, reduceCtorEq, Int.reduceAdd, Int.reduceSub, Int.reduceMul, Int.reduceLT, Int.reduceLE, Int.reduceEq, Int.reduceNe, Int.reduceToNat, Int.reduceNeg, go_sem, p15]
          · simp (maxSteps := 1000000) (disch := (first | omega | (simp only [nx_alloc, nx_upd, len_cons, len_nil, List.length_set, List.length_map, List.length_append] <;> omega) | fail)) only [Nat.reduceAdd, Nat.reduceSub, Nat.reduceMul, Nat.reduceLT, Nat.reduceLeDiff, Nat.reduceEqDiff, ↓reduceIte, reduceCtorEq, Int.reduceAdd, Int.reduceSub, Int.reduceMul, Int.reduceLT, Int.reduceLE, Int.reduceEq, Int.reduceNe, Int.reduceToNat, Int.reduceNeg, go_sem, p16]
            rw [hm]
          · simp (maxSteps := 1000000) (disch := (first | omega | (simp only [nx_alloc, nx_upd, len_cons, len_nil, List.length_set, List.length_map, List.length_append] <;> omega) | fail)) only [Nat.reduceAdd, Nat.reduceSub, Nat.reduceMul, Nat.reduceLT, Nat.reduceLeDiff, Nat.reduceEqDiff, ↓reduceIte, reduceCtorEq, Int.reduceAdd, Int.reduceSub, Int.reduceMul, Int.reduceLT, Int.reduceLE, Int.reduceEq, Int.reduceNe, Int.reduceToNat, Int.reduceNeg, go_sem]
      · rw [hQ]
        have hBb := hT.byt hpb hsb'
        have hBl : B.length = 6 + s.size := by rw [hTl]; (first | omega | (simp only [List.length_nil]; omega))
        have hBs : (strOfNums B).size = 6 + s.size := by rw [str_size, hBl]
        simp (maxSteps := 1000000) (disch := (first | omega | (simp only [nx_alloc, nx_upd, len_cons, len_nil, List.length_set, List.length_map, List.length_append] <;> omega) | fail)) only [Nat.reduceAdd, Nat.reduceSub, Nat.reduceMul, Nat.reduceLT, Nat.reduceLeDiff, Nat.reduceEqDiff, ↓reduceIte, reduceCtorEq, Int.reduceAdd, Int.reduceSub, Int.reduceMul, Int.reduceLT, Int.reduceLE, Int.reduceEq, Int.reduceNe, Int.reduceToNat, Int.reduceNeg, go_sem, p13, hg]
        rw [textC_some (l := B) (by rw [List.length_map, hBl]; omega) (by rw [List.drop_zero]; exact List.take_of_length_le (by rw [List.length_map, hBl]; omega))]
        have hcat : strOfNums B ++ rest = strOfNums (B ++ nums rest) := by rw [← str_append, str_nums]
        have hcz : (strOfNums (B ++ nums rest)).size = 6 + s.size + rest.size := by rw [str_size, List.length_append, hBl, nums_length]
        simp (maxSteps := 1000000) (disch := (first | omega | (simp only [nx_alloc, nx_upd, len_cons, len_nil, List.length_set, List.length_map, List.length_append] <;> omega) | fail)) only [Nat.reduceAdd, Nat.reduceSub, Nat.reduceMul, Nat.reduceLT, Nat.reduceLeDiff, Nat.reduceEqDiff, ↓reduceIte, reduceCtorEq, Int.reduceAdd, Int.reduceSub, Int.reduceMul, Int.reduceLT, Int.reduceLE, Int.reduceEq, Int.reduceNe, Int.reduceToNat, Int.reduceNeg, go_sem, p4, hBs, hcat]
        refine call1 (first_ok w0 A' _ (by omega)) ?_
        rw [nums_str (fun x hx => (List.mem_append.1 hx).elim (hBb x) (hrb x))]
        obtain ⟨M, hM⟩ : ∃ M, M = mI b q i := ⟨_, rfl⟩
        have hM32 : M < 4294967296 := by rw [hM]; exact mI_lt _ _ _ hb32
        rw [← hM] at hT p16
        by_cases hM0 : M = 0
        · subst hM0
          rw [hT.zero hRb]
          have hfr : firstL ((bigL P.length 2) ++ (bigL (sumZ (bigL P.length 2 ++ P)) 4) ++ (P) ++ nums rest) = (P, nums rest, 0) := by
            have := frame_first (l := P) (r := nums rest) hPb (by omega)
            unfold frameL at this
            simpa using this
          rw [hfr]
          simp (maxSteps := 1000000) (disch := (first | omega | (simp only [nx_alloc, nx_upd, len_cons, len_nil, List.length_set, List.length_map, List.length_append] <;> omega) | fail)) only [Nat.reduceAdd, Nat.reduceSub, Nat.reduceMul, Nat.reduceLT, Nat.reduceLeDiff, Nat.reduceEqDiff, ↓reduceIte, reduceCtorEq, Int.reduceAdd, Int.reduceSub, Int.reduceMul, Int.reduceLT, Int.reduceLE, Int.reduceEq, Int.reduceNe, Int.reduceToNat, Int.reduceNeg, go_sem, firstV, p16, p0, hss, Try.results3]
          exact gc_fin hw hov (by simp only [bnd_bool])
        · have hfr : firstL (B ++ nums rest) = ([], [], 100) := by
            obtain ⟨R', rfl, hl', hb', hv'⟩ := hT
            have hne : R' ≠ bigL (sumZ (bigL P.length 2 ++ P)) 4 := by
              intro h
              rw [h] at hv'
              have h0 : M * 2 ^ k = 0 := by
                have : leV (bigL (sumZ (bigL P.length 2 ++ P)) 4) ^^^ leV (bigL (sumZ (bigL P.length 2 ++ P)) 4) = leV (bigL (sumZ (bigL P.length 2 ++ P)) 4) ^^^ (leV (bigL (sumZ (bigL P.length 2 ++ P)) 4) ^^^ (M * 2 ^ k)) := by rw [← hv']
                rw [Nat.xor_self, ← Nat.xor_assoc, Nat.xor_self, Nat.zero_xor] at this
                exact this.symm
              have hpk := Nat.two_pow_pos k
              rcases Nat.mul_eq_zero.1 h0 with h | h
              · exact hM0 h
              · omega
            have h4 : R'.length = 4 := by rw [hl', bigL_length]
            have hgen := first_gen (q := R') (x := P) (r := nums rest) (by omega) h4
            rw [show bigL P.length 2 ++ R' ++ P ++ nums rest = bigL P.length 2 ++ (R' ++ (P ++ nums rest)) by simp, hgen, if_pos]
            intro he
            apply hne
            refine beN_inj 4 _ _ h4 (bigL_length _ _) hb' (bigL_byte _ _) ?_
            rw [beN_big, Nat.mod_eq_of_lt hsl, ← he]
          rw [hfr]
          simp (maxSteps := 1000000) (disch := (first | omega | (simp only [nx_alloc, nx_upd, len_cons, len_nil, List.length_set, List.length_map, List.length_append] <;> omega) | fail)) only [Nat.reduceAdd, Nat.reduceSub, Nat.reduceMul, Nat.reduceLT, Nat.reduceLeDiff, Nat.reduceEqDiff, ↓reduceIte, reduceCtorEq, Int.reduceAdd, Int.reduceSub, Int.reduceMul, Int.reduceLT, Int.reduceLE, Int.reduceEq, Int.reduceNe, Int.reduceToNat, Int.reduceNeg, go_sem, firstV, p16, hM0, hse, hsb, Try.results3]
          exact gc_fin hw hov (by simp only [bnd_bool])
  · have hz : s.size ≠ 0 := fun h => hsel (.inr h)
    have hsm : sm = false := by cases sm <;> simp_all
    have hd80 : decide (((8 * s.size : Nat) : Int) = 0) = false := decide_eq_false (by omega)
    simp (maxSteps := 1000000) (disch := (first | omega | (simp only [nx_alloc, nx_upd, len_cons, len_nil, List.length_set, List.length_map, List.length_append] <;> omega) | fail)) only [Nat.reduceAdd, Nat.reduceSub, Nat.reduceMul, Nat.reduceLT, Nat.reduceLeDiff, Nat.reduceEqDiff, ↓reduceIte, reduceCtorEq, Int.reduceAdd, Int.reduceSub, Int.reduceMul, Int.reduceLT, Int.reduceLE, Int.reduceEq, Int.reduceNe, Int.reduceToNat, Int.reduceNeg, go_sem, hsm, e8, hd80]
    obtain ⟨k, hk⟩ : ∃ k, k = ct % (8 * s.size) := ⟨_, rfl⟩
    have hkm : k < (8 * s.size) := by rw [hk]; exact Nat.mod_lt _ (by omega)
    have qk : Int.tmod (ct : Int) (((8 * s.size) : Nat) : Int) = (k : Int) := by rw [hk, Int.tmod_eq_emod_of_nonneg (by omega)]; exact (Int.natCast_emod _ _).symm
    obtain ⟨q, hq⟩ : ∃ q, q = (8 * s.size) - k := ⟨_, rfl⟩
    have hRl : (P).length = s.size := hPl
    have hpl : (bigL P.length 2 ++ bigL (sumZ (bigL P.length 2 ++ P)) 4).length = 6 := by simp [bigL_length]
    have hRb : ∀ x ∈ P, Byte x := by first | exact hPb | exact bigL_byte _ _
    have hpb : ∀ x ∈ bigL P.length 2 ++ bigL (sumZ (bigL P.length 2 ++ P)) 4, Byte x := by intro x hx; first | exact bigL_byte _ _ x hx | (exact (List.mem_append.1 hx).elim (bigL_byte _ _ x) (bigL_byte _ _ x))
    have hsb' : ∀ x ∈ ([] : List Int), Byte x := by first | exact hPb | (intro x hx; cases hx)
    refine aw_hide fun Q hQ => ?_
    refine aw_loop (fun m a A' => ∃ (ρ : Nat → Value) (i : Nat) (B : List Int), a = E 127 ρ [] ∧ m = 32 - i ∧ i ≤ 32 ∧ Over A A' ∧ A.next + 1 ≤ A'.next ∧ A'.get A.next = some (.cells (B.map (.int .u8 ·)) 5 (some 0)) ∧ TurnI B (bigL P.length 2 ++ bigL (sumZ (bigL P.length 2 ++ P)) 4) (P) ([]) (mI b q i) k ∧
        ρ 0 = .string s ∧ ρ 1 = .int .u16 ct ∧ ρ 2 = .int .u32 b ∧ ρ 4 = .string rest ∧ ρ 13 = .slice (some ⟨A.next, 0, some 1⟩) (6 + s.size) (6 + s.size) ∧ ρ 14 = .int .i64 48 ∧ ρ 15 = .int .i64 (((8 * s.size) : Nat) : Int) ∧ ρ 16 = .bool (decide (mI b q i ≠ 0)) ∧ ρ 17 = .int .i64 i) 32
      ⟨_, 0, frameL P, rfl, rfl, by omega, ho1, by omega, hg1, ⟨_, ?_, rfl, hRb, by rw [mI_zero, Nat.zero_mul, Nat.xor_zero]⟩, rfl, rfl, rfl, rfl, rfl, rfl, ?_, ?_, rfl⟩ ?_
    · unfold frameL
      simp
    · simp (maxSteps := 1000000) (disch := (first | omega | (simp only [nx_alloc, nx_upd, len_cons, len_nil, List.length_set, List.length_map, List.length_append] <;> omega) | fail)) only [Nat.reduceAdd, Nat.reduceSub, Nat.reduceMul, Nat.reduceLT, Nat.reduceLeDiff, Nat.reduceEqDiff, ↓reduceIte, reduceCtorEq, Int.reduceAdd, Int.reduceSub, Int.reduceMul, Int.reduceLT, Int.reduceLE, Int.reduceEq, Int.reduceNe, Int.reduceToNat, Int.reduceNeg, go_sem]
      all_goals (try rfl)
    · simp (maxSteps := 1000000) (disch := (first | omega | (simp only [nx_alloc, nx_upd, len_cons, len_nil, List.length_set, List.length_map, List.length_append] <;> omega) | fail)) only [Nat.reduceAdd, Nat.reduceSub, Nat.reduceMul, Nat.reduceLT, Nat.reduceLeDiff, Nat.reduceEqDiff, ↓reduceIte, reduceCtorEq, Int.reduceAdd, Int.reduceSub, Int.reduceMul, Int.reduceLT, Int.reduceLE, Int.reduceEq, Int.reduceNe, Int.reduceToNat, Int.reduceNeg, go_sem, mI_zero]
      all_goals simp
    rintro m a A' ⟨ρ, i, B, rfl, rfl, hi, hov, hn, hg, hT, p0, p1, p2, p4, p13, p14, p15, p16, p17⟩
    have hTl : B.length = 6 + s.size + ([] : List Int).length := by
      have := hT.len
      omega
    refine aw_of ?_
    simp (maxSteps := 1000000) (disch := (first | omega | (simp only [nx_alloc, nx_upd, len_cons, len_nil, List.length_set, List.length_map, List.length_append] <;> omega) | fail)) only [Nat.reduceAdd, Nat.reduceSub, Nat.reduceMul, Nat.reduceLT, Nat.reduceLeDiff, Nat.reduceEqDiff, ↓reduceIte, reduceCtorEq, Int.reduceAdd, Int.reduceSub, Int.reduceMul, Int.reduceLT, Int.reduceLE, Int.reduceEq, Int.reduceNe, Int.reduceToNat, Int.reduceNeg, go_sem, p17]
    refine ifB_dec (fun hlt => ?_) (fun hlt => ?_)
    · have ek : (k : Int) + (i : Int) = ((k + i : Nat) : Int) := by omega
      have hbit := u32_bit b i hb32 (by omega)
      have step : ∀ (ρ' : Nat → Value) (A2 : St) (B' : List Int), TurnI B' (bigL P.length 2 ++ bigL (sumZ (bigL P.length 2 ++ P)) 4) (P) ([]) (mI b q (i + 1)) k → A2.next = A'.next → A2.get A.next = some (.cells (B'.map (.int .u8 ·)) 5 (some 0)) → (∀ c, c < A.next → A2.get c = A'.get c) → ρ' 0 = .string s → ρ' 1 = .int .u16 ct → ρ' 2 = .int .u32 b → ρ' 4 = .string rest → ρ' 13 = .slice (some ⟨A.next, 0, some 1⟩) (6 + s.size) (6 + s.size) → ρ' 14 = .int .i64 48 → ρ' 15 = .int .i64 (((8 * s.size) : Nat) : Int) → ρ' 16 = .bool (decide (mI b q (i + 1) ≠ 0)) → ρ' 17 = .int .i64 ((i : Int) + 1) →
        ∃ m', m' < 32 - i ∧ ∃ (ρ : Nat → Value) (i : Nat) (B : List Int), E 127 ρ' [] = E 127 ρ [] ∧ m' = 32 - i ∧ i ≤ 32 ∧ Over A A2 ∧ A.next + 1 ≤ A2.next ∧ A2.get A.next = some (.cells (B.map (.int .u8 ·)) 5 (some 0)) ∧ TurnI B (bigL P.length 2 ++ bigL (sumZ (bigL P.length 2 ++ P)) 4) (P) ([]) (mI b q i) k ∧
        ρ 0 = .string s ∧ ρ 1 = .int .u16 ct ∧ ρ 2 = .int .u32 b ∧ ρ 4 = .string rest ∧ ρ 13 = .slice (some ⟨A.next, 0, some 1⟩) (6 + s.size) (6 + s.size) ∧ ρ 14 = .int .i64 48 ∧ ρ 15 = .int .i64 (((8 * s.size) : Nat) : Int) ∧ ρ 16 = .bool (decide (mI b q i ≠ 0)) ∧ ρ 17 = .int .i64 i := fun ρ' A2 B' h1 h2 h3 h4 x0 x1 x2 x4 x13 x14 x15 x16 x17 =>
          ⟨32 - (i + 1), by omega, ρ', i + 1, B', rfl, rfl, by omega, ⟨by omega, fun c hc => (h4 c hc).trans (hov.get c hc)⟩, by omega, h3, h1, x0, x1, x2, x4, x13, x14, x15, x16, x17⟩
      by_cases hin : k + i < (8 * s.size)
      · by_cases hb1 : b / 2 ^ i % 2 = 1
        · obtain ⟨c, hc, hcB, hT'⟩ := TurnI.step (M := 0) hT (by rw [hRl]; omega) (by omega) hb1
          have hm := (mI_yes (b := b) (q := q) (i := i) (by omega) hb1).2
          obtain ⟨p, hp⟩ : ∃ p, p = 48 + (k + i) := ⟨_, rfl⟩
          have ep : (48 : Int) + ((k + i : Nat) : Int) = (p : Int) := by omega
          have ep1 : Int.tdiv (p : Int) 8 = ((p / 8 : Nat) : Int) := by rw [Int.tdiv_eq_ediv_of_nonneg (by omega)]; omega
          have ep2 : Int.tmod (p : Int) 8 = ((p % 8 : Nat) : Int) := by rw [Int.tmod_eq_emod_of_nonneg (by omega)]; omega
          have ej : 6 + (k + i) / 8 = p / 8 := by omega
          have er : (k + i) % 8 = p % 8 := by omega
          rw [hpl, ej] at hcB hT'
          rw [er] at hT'
          have hcell : (B.map (Value.int .u8 ·))[p / 8]? = some (.int .u8 (c : Int)) := by rw [List.getElem?_map, hcB]; rfl
          have hp8 : 2 ^ (p % 8) < 256 := by
            have : 2 ^ (p % 8) ≤ 2 ^ 7 := Nat.pow_le_pow_right (by decide) (by omega)
            omega
          have hx := u8_xor c (2 ^ (p % 8)) hc hp8
          have hml : (B.map (Value.int .u8 ·)).length = 6 + s.size := by rw [List.length_map, hTl]; (first | omega | (simp only [List.length_nil]; omega))
          have hpB : p / 8 < 6 + s.size := by omega
          simp (maxSteps := 1000000) (disch := (first | omega | (simp only [nx_alloc, nx_upd, len_cons, len_nil, List.length_set, List.length_map, List.length_append] <;> omega) | fail)) only [Nat.reduceAdd, Nat.reduceSub, Nat.reduceMul, Nat.reduceLT, Nat.reduceLeDiff, Nat.reduceEqDiff, ↓reduceIte, reduceCtorEq, Int.reduceAdd, Int.reduceSub, Int.reduceMul, Int.reduceLT, Int.reduceLE, Int.reduceEq, Int.reduceNe, Int.reduceToNat, Int.reduceNeg, go_sem, p1, p2, p15, p17, qk, ek, hbit, hb1]
          refine aw_draw2 [⟨false, [], [0]⟩, ⟨false, [], [0]⟩, ⟨false, [], [0]⟩, ⟨false, [1, 2], [0]⟩, ⟨false, [1, 2, 3], [0]⟩, ⟨false, [], [0]⟩, ⟨false, [], [0]⟩, ⟨false, [], [0]⟩, ⟨false, [6, 7], [0]⟩, ⟨false, [6, 7, 8], [0]⟩, ⟨false, [5, 6, 7, 8, 9], [0]⟩, ⟨false, [5, 6, 7, 8, 9, 10], [0]⟩, ⟨false, [], [0]⟩, ⟨false, [], [0]⟩, ⟨false, [12, 13], [0]⟩, ⟨false, [12, 13, 14], [0]⟩, ⟨false, [12, 13, 14, 15], [0]⟩, ⟨false, [5, 6, 7, 8, 9, 10, 11, 12, 13, 14, 15, 16], [0]⟩, ⟨false, [0, 1, 2, 3, 4, 5, 6, 7, 8, 9, 10, 11, 12, 13, 14, 15, 16, 17], [0]⟩, ⟨true, [0, 1, 2, 3, 4, 5, 6, 7, 8, 9, 10, 11, 12, 13, 14, 15, 16, 17, 18], [0]⟩] [A', A'.upd A.next (some (.cells ((B.set (p / 8) ((c ^^^ 2 ^ (p % 8) : Nat) : Int)).map (.int .u8 ·)) 5 (some 0)))] 1 (by kernel_rfl) (by kernel_rfl) rfl ?_
          simp (maxSteps := 1000000) (disch := (first | omega | (simp only [nx_alloc, nx_upd, len_cons, len_nil, List.length_set, List.length_map, List.length_append] <;> omega) | fail)) only [Nat.reduceAdd, Nat.reduceSub, Nat.reduceMul, Nat.reduceLT, Nat.reduceLeDiff, Nat.reduceEqDiff, ↓reduceIte, reduceCtorEq, Int.reduceAdd, Int.reduceSub, Int.reduceMul, Int.reduceLT, Int.reduceLE, Int.reduceEq, Int.reduceNe, Int.reduceToNat, Int.reduceNeg, go_sem, p13, p14, ep, ep1, ep2, hg, hcell, u8_one (p % 8) (Nat.mod_lt _ (by decide)), hx, List.map_set, p17]
          refine ⟨32 - (i + 1), by omega, _, i + 1, B.set (p / 8) ((c ^^^ 2 ^ (p % 8) : Nat) : Int), rfl, rfl, by omega, hov.upd (Nat.le_refl _) _, ?_, ?_, hT', ?_, ?_, ?_, ?_, ?_, ?_, ?_, ?_, ?_⟩
          · first | exact hn | (simp (disch := (first | omega | (simp only [nx_alloc, nx_upd, len_cons, len_nil, List.length_set, List.length_map, List.length_append] <;> omega) | fail)) only [St.get_upd, St.get_alloc, St.next_alloc, St.next_upd, ↓reduceIte, natF_lt, natF_gt, natF_ne, Nat.add_assoc, Nat.reduceAdd, Nat.reduceEqDiff, Nat.add_left_cancel_iff]; exact hn)
          · first | rfl | (rw [List.map_set]) | exact get_upd_same ..
          · simp (maxSteps := 1000000) (disch := (first | omega | (simp only [nx_alloc, nx_upd, len_cons, len_nil, List.length_set, List.length_map, List.length_append] <;> omega) | fail)) only [Nat.reduceAdd, Nat.reduceSub, Nat.reduceMul, Nat.reduceLT, Nat.reduceLeDiff, Nat.reduceEqDiff, ↓reduceIte, reduceCtorEq, Int.reduceAdd, Int.reduceSub, Int.reduceMul, Int.reduceLT, Int.reduceLE, Int.reduceEq, Int.reduceNe, Int.reduceToNat, Int.reduceNeg, go_sem, p0]
          · simp (maxSteps := 1000000) (disch := (first | omega | (simp only [nx_alloc, nx_upd, len_cons, len_nil, List.length_set, List.length_map, List.length_append] <;> omega) | fail)) only [Nat.reduceAdd, Nat.reduceSub, Nat.reduceMul, Nat.reduceLT, Nat.reduceLeDiff, Nat.reduceEqDiff, ↓reduceIte, reduceCtorEq, Int.reduceAdd, Int.reduceSub, Int.reduceMul, Int.reduceLT, Int.reduceLE, Int.reduceEq, Int.reduceNe, Int.reduceToNat, Int.reduceNeg, go_sem, p1]
          · simp (maxSteps := 1000000) (disch := (first | omega | (simp only [nx_alloc, nx_upd, len_cons, len_nil, List.length_set, List.length_map, List.length_append] <;> omega) | fail)) only [Nat.reduceAdd, Nat.reduceSub, Nat.reduceMul, Nat.reduceLT, Nat.reduceLeDiff, Nat.reduceEqDiff, ↓reduceIte, reduceCtorEq, Int.reduceAdd, Int.reduceSub, Int.reduceMul, Int.reduceLT, Int.reduceLE, Int.reduceEq, Int.reduceNe, Int.reduceToNat, Int.reduceNeg, go_sem, p2]
          · simp (maxSteps := 1000000) (disch := (first | omega | (simp only [nx_alloc, nx_upd, len_cons, len_nil, List.length_set, List.length_map, List.length_append] <;> omega) | fail)) only [Nat.reduceAdd, Nat.reduceSub, Nat.reduceMul, Nat.reduceLT, Nat.reduceLeDiff, Nat.reduceEqDiff, ↓reduceIte, reduceCtorEq, Int.reduceAdd, Int.reduceSub, Int.reduceMul, Int.reduceLT, Int.reduceLE, Int.reduceEq, Int.reduceNe, Int.reduceToNat, Int.reduceNeg, go_sem, p4]
          · simp (maxSteps := 1000000) (disch := (first | omega | (simp only [nx_alloc, nx_upd, len_cons, len_nil, List.length_set, List.length_map, List.length_append] <;> omega) | fail)) only [Nat.reduceAdd, Nat.reduceSub, Nat.reduceMul, Nat.reduceLT, Nat.reduceLeDiff, Nat.reduceEqDiff, ↓reduceIte, reduceCtorEq, Int.reduceAdd, Int.reduceSub, Int.reduceMul, Int.reduceLT, Int.reduceLE, Int.reduceEq, Int.reduceNe, Int.reduceToNat, Int.reduceNeg, go_sem, p13]
          · simp (maxSteps := 1000000) (disch := (first | omega | (simp only [nx_alloc, nx_upd, len_cons, len_nil, List.length_set, List.length_map, List.length_append] <;> omega) | fail)) only [Nat.reduceAdd, Nat.reduceSub, Nat.reduceMul, Nat.reduceLT, Nat.reduceLeDiff, Nat.reduceEqDiff, ↓reduceIte, reduceCtorEq, Int.reduceAdd, Int.reduceSub, Int.reduceMul, Int.reduceLT, Int.reduceLE, Int.reduceEq, Int.reduceNe, Int.reduceToNat, Int.reduceNeg, go_sem, p14]
          · simp (maxSteps := 1000000) (disch := (first | omega | (simp only [nx_alloc, nx_upd, len_cons, len_nil, List.length_set, List.length_map, List.length_append] <;> omega) | fail)) only [Nat.reduceAdd, Nat.reduceSub, Nat.reduceMul, Nat.reduceLT, Nat.reduceLeDiff, Nat.reduceEqDiff, ↓reduceIte, reduceCtorEq, Int.reduceAdd, Int.reduceSub, Int.reduceMul, Int.reduceLT, Int.reduceLE, Int.reduceEq, Int.reduceNe, Int.reduceToNat, Int.reduceNeg, go_sem, p15]
          · simp (maxSteps := 1000000) (disch := (first | omega | (simp only [nx_alloc, nx_upd, len_cons, len_nil, List.length_set, List.length_map, List.length_append] <;> omega) | fail)) only [Nat.reduceAdd, Nat.reduceSub, Nat.reduceMul, Nat.reduceLT, Nat.reduceLeDiff, Nat.reduceEqDiff, ↓reduceIte, reduceCtorEq, Int.reduceAdd, Int.reduceSub, Int.reduceMul, Int.reduceLT, Int.reduceLE, Int.reduceEq, Int.reduceNe, Int.reduceToNat, Int.reduceNeg, go_sem]
            rw [decide_eq_true hm]
          · simp (maxSteps := 1000000) (disch := (first | omega | (simp only [nx_alloc, nx_upd, len_cons, len_nil, List.length_set, List.length_map, List.length_append] <;> omega) | fail)) only [Nat.reduceAdd, Nat.reduceSub, Nat.reduceMul, Nat.reduceLT, Nat.reduceLeDiff, Nat.reduceEqDiff, ↓reduceIte, reduceCtorEq, Int.reduceAdd, Int.reduceSub, Int.reduceMul, Int.reduceLT, Int.reduceLE, Int.reduceEq, Int.reduceNe, Int.reduceToNat, Int.reduceNeg, go_sem]
            all_goals (try rfl)
        · have hb0 : b / 2 ^ i % 2 = 0 := by omega
          have hm := mI_no (b := b) (q := q) (i := i) (by omega) hb0
          simp (maxSteps := 1000000) (disch := (first | omega | (simp only [nx_alloc, nx_upd, len_cons, len_nil, List.length_set, List.length_map, List.length_append] <;> omega) | fail)) only [Nat.reduceAdd, Nat.reduceSub, Nat.reduceMul, Nat.reduceLT, Nat.reduceLeDiff, Nat.reduceEqDiff, ↓reduceIte, reduceCtorEq, Int.reduceAdd, Int.reduceSub, Int.reduceMul, Int.reduceLT, Int.reduceLE, Int.reduceEq, Int.reduceNe, Int.reduceToNat, Int.reduceNeg, go_sem, p1, p2, p15, p17, qk, ek, hbit, hb0]
          refine step _ _ _ (by rw [hm]; exact hT) rfl hg (fun c hc => rfl) ?_ ?_ ?_ ?_ ?_ ?_ ?_ ?_ ?_
          · simp (maxSteps := 1000000) (disch := (first | omega | (simp only [nx_alloc, nx_upd, len_cons, len_nil, List.length_set, List.length_map, List.length_append] <;> omega) | fail)) only [Nat.reduceAdd, Nat.reduceSub, Nat.reduceMul, Nat.reduceLT, Nat.reduceLeDiff, Nat.reduceEqDiff, ↓reduceIte, reduceCtorEq, Int.reduceAdd, Int.reduceSub, Int.reduceMul, Int.reduceLT, Int.reduceLE, Int.reduceEq, Int.reduceNe, Int.reduceToNat, Int.reduceNeg, go_sem, p0]
          · simp (maxSteps := 1000000) (disch := (first | omega | (simp only [nx_alloc, nx_upd, len_cons, len_nil, List.length_set, List.length_map, List.length_append] <;> omega) | fail)) only [Nat.reduceAdd, Nat.reduceSub, Nat.reduceMul, Nat.reduceLT, Nat.reduceLeDiff, Nat.reduceEqDiff, ↓reduceIte, reduceCtorEq, Int.reduceAdd, Int.reduceSub, Int.reduceMul, Int.reduceLT, Int.reduceLE, Int.reduceEq, Int.reduceNe, Int.reduceToNat, Int.reduceNeg, go_sem, p1]
          · simp (maxSteps := 1000000) (disch := (first | omega | (simp only [nx_alloc, nx_upd, len_cons, len_nil, List.length_set, List.length_map, List.length_append] <;> omega) | fail)) only [Nat.reduceAdd, Nat.reduceSub, Nat.reduceMul, Nat.reduceLT, Nat.reduceLeDiff, Nat.reduceEqDiff, ↓reduceIte, reduceCtorEq, Int.reduceAdd, Int.reduceSub, Int.reduceMul, Int.reduceLT, Int.reduceLE, Int.reduceEq, Int.reduceNe, Int.reduceToNat, Int.reduceNeg, go_sem, p2]
          · simp (maxSteps := 1000000) (disch := (first | omega | (simp only [nx_alloc, nx_upd, len_cons, len_nil, List.length_set, List.length_map, List.length_append] <;> omega) | fail)) only [Nat.reduceAdd, Nat.reduceSub, Nat.reduceMul, Nat.reduceLT, Nat.reduceLeDiff, Nat.reduceEqDiff, ↓reduceIte, reduceCtorEq, Int.reduceAdd, Int.reduceSub, Int.reduceMul, Int.reduceLT, Int.reduceLE, Int.reduceEq, Int.reduceNe, Int.reduceToNat, Int.reduceNeg, go_sem, p4]
          · simp (maxSteps := 1000000) (disch := (first | omega | (simp only [nx_alloc, nx_upd, len_cons, len_nil, List.length_set, List.length_map, List.length_append] <;> omega) | fail)) only [Nat.reduceAdd, Nat.reduceSub, Nat.reduceMul, Nat.reduceLT, Nat.reduceLeDiff, Nat.reduceEqDiff, ↓reduceIte, reduceCtorEq, Int.reduceAdd, Int.reduceSub, Int.reduceMul, Int.reduceLT, Int.reduceLE, Int.reduceEq, Int.reduceNe, Int.reduceToNat, Int.reduceNeg, go_sem, p13]
          · simp (maxSteps := 1000000) (disch := (first | omega | (simp only [nx_alloc, nx_upd, len_cons, len_nil, List.length_set, List.length_map, List.length_append] <;> omega) | fail)) only [Nat.reduceAdd, Nat.reduceSub, Nat.reduceMul, Nat.reduceLT, Nat.reduceLeDiff, Nat.reduceEqDiff, ↓reduceIte, reduceCtorEq, Int.reduceAdd, Int.reduceSub, Int.reduceMul, Int.reduceLT, Int.reduceLE, Int.reduceEq, Int.reduceNe, Int.reduceToNat, Int.reduceNeg, go_sem, p14]
          · simp (maxSteps := 1000000) (disch := (first | omega | (simp only [nx_alloc, nx_upd, len_cons, len_nil, List.length_set, List.length_map, List.length_append] <;> omega) | fail)) only [Nat.reduceAdd, Nat.reduceSub, Nat.reduceMul, Nat.reduceLT, Nat.reduceLeDiff, Nat.reduceEqDiff, ↓reduceIte, reduceCtorEq, Int.reduceAdd, Int.reduceSub, Int.reduceMul, Int.reduceLT, Int.reduceLE, Int.reduceEq, Int.reduceNe, Int.reduceToNat, Int.reduceNeg, go_sem, p15]
          · simp (maxSteps := 1000000) (disch := (first | omega | (simp only [nx_alloc, nx_upd, len_cons, len_nil, List.length_set, List.length_map, List.length_append] <;> omega) | fail)) only [Nat.reduceAdd, Nat.reduceSub, Nat.reduceMul, Nat.reduceLT, Nat.reduceLeDiff, Nat.reduceEqDiff, ↓reduceIte, reduceCtorEq, Int.reduceAdd, Int.reduceSub, Int.reduceMul, Int.reduceLT, Int.reduceLE, Int.reduceEq, Int.reduceNe, Int.reduceToNat, Int.reduceNeg, go_sem, p16]
            rw [hm]
          · simp (maxSteps := 1000000) (disch := (first | omega | (simp only [nx_alloc, nx_upd, len_cons, len_nil, List.length_set, List.length_map, List.length_append] <;> omega) | fail)) only [Nat.reduceAdd, Nat.reduceSub, Nat.reduceMul, Nat.reduceLT, Nat.reduceLeDiff, Nat.reduceEqDiff, ↓reduceIte, reduceCtorEq, Int.reduceAdd, Int.reduceSub, Int.reduceMul, Int.reduceLT, Int.reduceLE, Int.reduceEq, Int.reduceNe, Int.reduceToNat, Int.reduceNeg, go_sem]
      · have hm := mI_out (b := b) (q := q) (i := i) (by omega)
        simp (maxSteps := 1000000) (disch := (first | omega | (simp only [nx_alloc, nx_upd, len_cons, len_nil, List.length_set, List.length_map, List.length_append] <;> omega) | fail)) only [Nat.reduceAdd, Nat.reduceSub, Nat.reduceMul, Nat.reduceLT, Nat.reduceLeDiff, Nat.reduceEqDiff, ↓reduceIte, reduceCtorEq, Int.reduceAdd, Int.reduceSub, Int.reduceMul, Int.reduceLT, Int.reduceLE, Int.reduceEq, Int.reduceNe, Int.reduceToNat, Int.reduceNeg, go_sem, p1, p2, p15, p17, qk, ek]
        refine step _ _ _ (by rw [hm]; exact hT) rfl hg (fun c hc => rfl) ?_ ?_ ?_ ?_ ?_ ?_ ?_ ?_ ?_
        · simp (maxSteps := 1000000) (disch := (first | omega | (simp only [nx_alloc, nx_upd, len_cons, len_nil, List.length_set, List.length_map, List.length_append] <;> omega) | fail)) only [Nat.reduceAdd, Nat.reduceSub, Nat.reduceMul, Nat.reduceLT, Nat.reduceLeDiff, Nat.reduceEqDiff, ↓reduceIte, reduceCtorEq, Int.reduceAdd, Int.reduceSub, Int.reduceMul, Int.reduceLT, Int.reduceLE, Int.reduceEq, Int.reduceNe, Int.reduceToNat, Int.reduceNeg, go_sem, p0]
        · simp (maxSteps := 1000000) (disch := (first | omega | (simp only [nx_alloc, nx_upd, len_cons, len_nil, List.length_set, List.length_map, List.length_append] <;> omega) | fail)) only [Nat.reduceAdd, Nat.reduceSub, Nat.reduceMul, Nat.reduceLT, Nat.reduceLeDiff, Nat.reduceEqDiff, ↓reduceIte, reduceCtorEq, Int.reduceAdd, Int.reduceSub, Int.reduceMul, Int.reduceLT, Int.reduceLE, Int.reduceEq, Int.reduceNe, Int.reduceToNat, Int.reduceNeg, go_sem, p1]
        · simp (maxSteps := 1000000) (disch := (first | omega | (simp only [nx_alloc, nx_upd, len_cons, len_nil, List.length_set, List.length_map, List.length_append] <;> omega) | fail)) only [Nat.reduceAdd, Nat.reduceSub, Nat.reduceMul, Nat.reduceLT, Nat.reduceLeDiff, Nat.reduceEqDiff, ↓reduceIte, reduceCtorEq, Int.reduceAdd, Int.reduceSub, Int.reduceMul, Int.reduceLT, Int.reduceLE, Int.reduceEq, Int.reduceNe, Int.reduceToNat, Int.reduceNeg, go_sem, p2]
        · simp (maxSteps := 1000000) (disch := (first | omega | (simp only [nx_alloc, nx_upd, len_cons, len_nil, List.length_set, List.length_map, List.length_append] <;> omega) | fail)) only [Nat.reduceAdd, Nat.reduceSub, Nat.reduceMul, Nat.reduceLT, Nat.reduceLeDiff, Nat.reduceEqDiff, ↓reduceIte, reduceCtorEq, Int.reduceAdd, Int.reduceSub, Int.reduceMul, Int.reduceLT, Int.reduceLE, Int.reduceEq, Int.reduceNe, Int.reduceToNat, Int.reduceNeg, go_sem, p4]
        · simp (maxSteps := 1000000) (disch := (first | omega | (simp only [nx_alloc, nx_upd, len_cons, len_nil, List.length_set, List.length_map, List.length_append] <;> omega) | fail)) only [Nat.reduceAdd, Nat.reduceSub, Nat.reduceMul, Nat.reduceLT, Nat.reduceLeDiff, Nat.reduceEqDiff, ↓reduceIte, reduceCtorEq, Int.reduceAdd, Int.reduceSub, Int.reduceMul, Int.reduceLT, Int.reduceLE, Int.reduceEq, Int.reduceNe, Int.reduceToNat, Int.reduceNeg, go_sem, p13]
        · simp (maxSteps := 1000000) (disch := (first | omega | (simp only [nx_alloc, nx_upd, len_cons, len_nil, List.length_set, List.length_map, List.length_append] <;> omega) | fail)) only [Nat.reduceAdd, Nat.reduceSub, Nat.reduceMul, Nat.reduceLT, Nat.reduceLeDiff, Nat.reduceEqDiff, ↓reduceIte, reduceCtorEq, Int.reduceAdd, Int.reduceSub, Int.reduceMul, Int.reduceLT, Int.reduceLE, Int.reduceEq, Int.reduceNe, Int.reduceToNat, Int.reduceNeg, go_sem, p14]
        · simp (maxSteps := 1000000) (disch := (first | omega | (simp only [nx_alloc, nx_upd, len_cons, len_nil, List.length_set, List.length_map, List.length_append] <;> omega) | fail)) only [Nat.reduceAdd, Nat.reduceSub, Nat.reduceMul, Nat.reduceLT, Nat.reduceLeDiff, Nat.reduceEqDiff, ↓reduceIte, reduceCtorEq, Int.reduceAdd, Int.reduceSub, Int.reduceMul, Int.reduceLT, Int.reduceLE, Int.reduceEq, Int.reduceNe, Int.reduceToNat, Int.reduceNeg, go_sem, p15]
        · simp (maxSteps := 1000000) (disch := (first | omega | (simp only [nx_alloc, nx_upd, len_cons, len_nil, List.length_set, List.length_map, List.length_append] <;> omega) | fail)) only [Nat.reduceAdd, Nat.reduceSub, Nat.reduceMul, Nat.reduceLT, Nat.reduceLeDiff, Nat.reduceEqDiff, ↓reduceIte, reduceCtorEq, Int.reduceAdd, Int.reduceSub, Int.reduceMul, Int.reduceLT, Int.reduceLE, Int.reduceEq, Int.reduceNe, Int.reduceToNat, Int.reduceNeg, go_sem, p16]
          rw [hm]
        · simp (maxSteps := 1000000) (disch := (first | omega | (simp only [nx_alloc, nx_upd, len_cons, len_nil, List.length_set, List.length_map, List.length_append] <;> omega) | fail)) only [Nat.reduceAdd, Nat.reduceSub, Nat.reduceMul, Nat.reduceLT, Nat.reduceLeDiff, Nat.reduceEqDiff, ↓reduceIte, reduceCtorEq, Int.reduceAdd, Int.reduceSub, Int.reduceMul, Int.reduceLT, Int.reduceLE, Int.reduceEq, Int.reduceNe, Int.reduceToNat, Int.reduceNeg, go_sem]
    · rw [hQ]
      have hBb := hT.byt hpb hsb'
      have hBl : B.length = 6 + s.size := by rw [hTl]; (first | omega | (simp only [List.length_nil]; omega))
      have hBs : (strOfNums B).size = 6 + s.size := by rw [str_size, hBl]
      simp (maxSteps := 1000000) (disch := (first | omega | (simp only [nx_alloc, nx_upd, len_cons, len_nil, List.length_set, List.length_map, List.length_append] <;> omega) | fail)) only [Nat.reduceAdd, Nat.reduceSub, Nat.reduceMul, Nat.reduceLT, Nat.reduceLeDiff, Nat.reduceEqDiff, ↓reduceIte, reduceCtorEq, Int.reduceAdd, Int.reduceSub, Int.reduceMul, Int.reduceLT, Int.reduceLE, Int.reduceEq, Int.reduceNe, Int.reduceToNat, Int.reduceNeg, go_sem, p13, hg]
      rw [textC_some (l := B) (by rw [List.length_map, hBl]; omega) (by rw [List.drop_zero]; exact List.take_of_length_le (by rw [List.length_map, hBl]; omega))]
      have hcat : strOfNums B ++ rest = strOfNums (B ++ nums rest) := by rw [← str_append, str_nums]
      have hcz : (strOfNums (B ++ nums rest)).size = 6 + s.size + rest.size := by rw [str_size, List.length_append, hBl, nums_length]
      simp (maxSteps := 1000000) (disch := (first | omega | (simp only [nx_alloc, nx_upd, len_cons, len_nil, List.length_set, List.length_map, List.length_append] <;> omega) | fail)) only [Nat.reduceAdd, Nat.reduceSub, Nat.reduceMul, Nat.reduceLT, Nat.reduceLeDiff, Nat.reduceEqDiff, ↓reduceIte, reduceCtorEq, Int.reduceAdd, Int.reduceSub, Int.reduceMul, Int.reduceLT, Int.reduceLE, Int.reduceEq, Int.reduceNe, Int.reduceToNat, Int.reduceNeg, go_sem, p4, hBs, hcat]
      refine call1 (first_ok w0 A' _ (by omega)) ?_
      rw [nums_str (fun x hx => (List.mem_append.1 hx).elim (hBb x) (hrb x))]
      obtain ⟨M, hM⟩ : ∃ M, M = mI b q i := ⟨_, rfl⟩
      have hM32 : M < 4294967296 := by rw [hM]; exact mI_lt _ _ _ hb32
      rw [← hM] at hT p16
      by_cases hM0 : M = 0
      · subst hM0
        rw [hT.zero hRb]
        have hfr : firstL ((bigL P.length 2 ++ bigL (sumZ (bigL P.length 2 ++ P)) 4) ++ (P) ++ ([]) ++ nums rest) = (P, nums rest, 0) := by
          have := frame_first (l := P) (r := nums rest) hPb (by omega)
          unfold frameL at this
          simpa using this
        rw [hfr]
        simp (maxSteps := 1000000) (disch := (first | omega | (simp only [nx_alloc, nx_upd, len_cons, len_nil, List.length_set, List.length_map, List.length_append] <;> omega) | fail)) only [Nat.reduceAdd, Nat.reduceSub, Nat.reduceMul, Nat.reduceLT, Nat.reduceLeDiff, Nat.reduceEqDiff, ↓reduceIte, reduceCtorEq, Int.reduceAdd, Int.reduceSub, Int.reduceMul, Int.reduceLT, Int.reduceLE, Int.reduceEq, Int.reduceNe, Int.reduceToNat, Int.reduceNeg, go_sem, firstV, p16, p0, hss, Try.results3]
        exact gc_fin hw hov (by simp only [bnd_bool])
      · have hfr : firstL (B ++ nums rest) = ([], [], 100) := by
          obtain ⟨R', rfl, hl', hb', hv'⟩ := hT
          have h4 : (bigL (sumZ (bigL P.length 2 ++ P)) 4).length = 4 := bigL_length _ _
          have hgen := first_gen (q := bigL (sumZ (bigL P.length 2 ++ P)) 4) (x := R') (r := nums rest) (by omega) h4
          rw [hl'] at hgen
          rw [show bigL P.length 2 ++ bigL (sumZ (bigL P.length 2 ++ P)) 4 ++ R' ++ [] ++ nums rest = bigL P.length 2 ++ (bigL (sumZ (bigL P.length 2 ++ P)) 4 ++ (R' ++ nums rest)) by simp, hgen, if_pos]
          intro he
          rw [beN_big, Nat.mod_eq_of_lt hsl] at he
          have he' : sumZ (bigL P.length 2 ++ R') = sumZ (bigL P.length 2 ++ P) := by omega
          exact sumZ_burst (bigL_byte _ _) hPb hb' hl' hM32 hM0 (by omega) hv' he'
        rw [hfr]
        simp (maxSteps := 1000000) (disch := (first | omega | (simp only [nx_alloc, nx_upd, len_cons, len_nil, List.length_set, List.length_map, List.length_append] <;> omega) | fail)) only [Nat.reduceAdd, Nat.reduceSub, Nat.reduceMul, Nat.reduceLT, Nat.reduceLeDiff, Nat.reduceEqDiff, ↓reduceIte, reduceCtorEq, Int.reduceAdd, Int.reduceSub, Int.reduceMul, Int.reduceLT, Int.reduceLE, Int.reduceEq, Int.reduceNe, Int.reduceToNat, Int.reduceNeg, go_sem, firstV, p16, hM0, hse, hsb, Try.results3]
        exact gc_fin hw hov (by simp only [bnd_bool])
end Go.Fw
