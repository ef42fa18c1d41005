import Derived.Test.YtlkldalfchjjeaaFwB
set_option linter.unusedSimpArgs false
set_option linter.unusedVariables false
namespace Go.Fw
open Go.Proofs Go.RowKit
attribute [local go_sem] List.length_cons List.length_nil Nat.zero_add Nat.add_zero Nat.zero_mul Nat.mul_one Int.toNat_zero Int.toNat_natCast List.map_cons List.map_nil List.map_toArray List.toList_toArray List.append_toArray List.append_eq List.nil_append List.cons_append List.append_nil List.all_toArray List.all_cons List.all_nil Bool.and_true Bool.true_and Bool.and_self List.getElem?_toArray List.getElem?_cons_zero List.getElem?_cons_succ List.set_cons_zero List.set_cons_succ List.drop_zero List.drop_succ_cons List.take_zero List.take_succ_cons Option.bind_some Option.map_some id true_and and_true and_self St.next_alloc St.next_upd beq_self_eq_true Bool.not_true Bool.not_false Bool.false_eq_true false_implies true_implies Option.isNone_none Option.isNone_some Option.isSome_none Option.isSome_some ge_iff_le gt_iff_lt Nat.sub_zero Nat.add_assoc IntWalk.i64_in IntWalk.u64_in IntWalk.u8_in IntWalk.u32_in IntWalk.i32_in IntWalk.u16_in dec_not Bool.not_eq_true decide_true decide_false ne_eq not_true_eq_false not_false_eq_true Bool.true_or Bool.or_true Bool.or_false Bool.false_or Bool.and_false Bool.false_and upd_apply rd_eq ar_zero ar_succ ar_nil tm_size tm_getD tm_set E_tmps E_defers put_E put_none eval_tmp eval_const eval_func setArgs_0 setArgs_1 setArgs_2 append_lit stepV_some stepA_some guardO_true ifB_true ifB_false wantV_true wantV_false wantV_dec_t wantV_dec_f ifB_dec_t ifB_dec_f condV_bool dec_and dec_or isB_bool someB_t someB_f okO_tmp okO_func okO_int okO_bool okO_string okO_ptr0 okO_slice0 okO_nilFunc okO_nilIface okO_map0 okO_agg wanted_none wanted_some lookT_some aopsL_nil aopsL_cons wpA_skip wpA_label wpA_exit wpA_goto wpA_ret wpA_seq wpA_block wpA_region wpA_cond wpA_loop wpA_rangeFunc wpA_draw thenQ_normal thenQ_exit thenQ_ret thenQ_panic blockQ_normal blockQ_ret blockQ_panic blockQ_exit funQ_ret funQ_normal funQ_panic op_move op_assign pickV_or pickV_and pickV_t pickV_f pickV_true pickV_false op_pick allocV_some op_alloc op_box op_load op_nilCheck op_bin op_lookup bptr btype op_un op_convert op_makeInterface op_makeSlice op_fieldAddr op_field op_indexAddr op_index op_extract op_typeAssert storeV_some op_store op_makeMap op_mapUpdate op_slice00 op_slice10 op_slice01 op_slice11 op_slice111 op_slice011 op_makeFunc callV_true op_call op_builtin panicV_iface op_panic ACallV_func ACallF_false ACallF_true ACallV_yield afterCall_returned afterCall_panicked bin_add bin_sub bin_mul bin_and bin_or bin_xor bin_andNot bin_eql bin_neq bin_lss bin_leq bin_gtr bin_geq mval_some mval_none lookup_map lookU_map lookK_smap mapSet_map msetU_map msetK_int conv_to conv_from unsT_cells unsF_cells bin_same bin_nil bdata_nil bdata_some builtin_data builtin_str bin_quo bin_rem bin_shl bin_shr bin_sadd bin_seql bin_sneq bin_slss uB_bool bin_beql bin_bneq uP_pointer bin_peql bin_pneq uS_slice bin_leql bin_lneq bin_ieql bin_ineq un_neg un_xor un_not nilCheck_ptr nilCheck_func nilCheck_yield load_ptr loadC_one loadC_agg store_ptr slice_eq sliceU_string sliceU_slice sliceU_array sliceS_eq boundsS_some sliceL_eq boundsL_nil boundsL_exact boundsL_least boundsL_own boundsL_ownN bounds_11 bounds_10 bounds_01 bounds_00 builtin_len len_string len_array len_slice builtin_append builtin_copy pairA_some builtin_min builtin_max min_two max_two index_eq index_string index_array indexAddr_eq indexAddr_array indexAddr_slice fieldAddr_eq posO_some fAddr_some fieldAddr_struct partC_some field_eq field_struct part_eq partU_one partU_agg extract_tuple conv_eq conv_int conv_string u8O_u8 conv_bytes conv_text_nil conv_text_zero conv_text mkIface_eq get_upd_same consO_some finR_0 finR_1 finR_2 aresL_nil aresL_cons ares1_tmp ares1_cell retV_some aleave_nil aleave_coll bnd_int bnd_bool bnd_string bnd_nilIface bnd_slice0 bnd_iface bnd_slice bnd_ptr bnd_ptr0 bndL_nil bndL_cons bndA_lit bnd_tuple bnd_agg calm_same skipC_eq aopsC_nil aopsC_cons stepC_call stepC_move stepC_assign stepC_pick stepC_alloc stepC_box stepC_build stepC_buildSlice stepC_load stepC_store stepC_nilCheck stepC_binOp stepC_unOp stepC_convert stepC_makeInterface stepC_makeFunc stepC_makeSlice stepC_slice stepC_fieldAddr stepC_field stepC_indexAddr stepC_index stepC_extract stepC_typeAssert stepC_lookup stepC_mapUpdate stepC_makeMap stepC_builtin to_same sameA_eq aopsX_nil aopsX_cons stepX_heavy stepX_light lightK_eq allC_nil allC_cons hs_zero hs_succ stepT_call pure_call stepT_move pure_move stepT_assign pure_assign stepT_pick pure_pick stepT_alloc pure_alloc stepT_box pure_box stepT_build pure_build stepT_buildSlice pure_buildSlice stepT_load pure_load stepT_store pure_store stepT_nilCheck pure_nilCheck stepT_binOp pure_binOp stepT_unOp pure_unOp stepT_convert pure_convert stepT_makeInterface pure_makeInterface stepT_makeFunc pure_makeFunc stepT_makeSlice pure_makeSlice stepT_slice pure_slice stepT_fieldAddr pure_fieldAddr stepT_field pure_field stepT_indexAddr pure_indexAddr stepT_index pure_index stepT_extract pure_extract stepT_typeAssert pure_typeAssert stepT_lookup pure_lookup stepT_mapUpdate pure_mapUpdate stepT_makeMap pure_makeMap stepT_builtin pure_b_len pure_b_append pure_b_copy pure_b_min pure_b_max pure_b_unsafeSliceData pure_b_unsafeString leaveK_eq aleave_fn op_defer deferV_func resK_some defQ_ret defQ_normal storeC_int storeC_bool storeC_string storeC_slice storeC_func storeC_pointer len_cons len_nil cells_int cells_bool cells_string cells_slice cells_pointer cells_func cells_map cells_nilFunc cells_agg cell1_bool cell1_string cell1_slice cell1_pointer cell1_func cell1_i cell1_map cell1_nilFunc setList_nil setList_cons storeC_aggS fillP_nil fillP_cons fillAt_1 fillAt_n aggO_some sliceO_some places_0 places_s zerosR_0 zerosR_s thenElse_true evP_nil evP_cons okP_nil okP_cons op_buildL op_buildSliceL isBu_t isBu_f mk_E get_alloc_old get_alloc_new get_upd_old Try.agg1 Try.sz1 Try.byt1 Try.zero1 Try.agg2 Try.sz2 Try.byt2 Try.zero2 Try.agg3 Try.sz3 Try.byt3 Try.zero3 Try.agg4 Try.sz4 Try.byt4 Try.zero4 Try.agg5 Try.sz5 Try.byt5 Try.zero5 Try.agg6 Try.sz6 Try.byt6 Try.zero6 Try.agg7 Try.sz7 Try.byt7 Try.zero7 Try.agg8 Try.sz8 Try.byt8 Try.zero8 Try.agg9 Try.sz9 Try.byt9 Try.zero9 Try.agg10 Try.sz10 Try.byt10 Try.zero10 Try.agg11 Try.sz11 Try.byt11 Try.zero11 Try.agg12 Try.sz12 Try.byt12 Try.zero12 Try.agg13 Try.sz13 Try.byt13 Try.zero13 Try.agg14 Try.sz14 Try.byt14 Try.zero14 Try.agg15 Try.sz15 Try.byt15 Try.zero15 Try.agg16 Try.sz16 Try.byt16 Try.zero16 Try.agg17 Try.sz17 Try.byt17 Try.zero17 Try.agg18 Try.sz18 Try.byt18 Try.zero18 Try.agg19 Try.sz19 Try.byt19 Try.zero19 Try.agg20 Try.sz20 Try.byt20 Try.zero20 Try.agg21 Try.sz21 Try.byt21 Try.zero21 Try.agg22 Try.sz22 Try.byt22 Try.zero22 Try.agg23 Try.sz23 Try.byt23 Try.el23 Try.zero23 Try.agg24 Try.sz24 Try.byt24 Try.zero24 Try.agg25 Try.sz25 Try.byt25 Try.zero25 Try.agg26 Try.sz26 Try.byt26 Try.zero26 Try.agg27 Try.sz27 Try.byt27 Try.zero27 Try.agg29 Try.sz29 Try.byt29 Try.zero29 Try.agg30 Try.sz30 Try.byt30 Try.zero30 Try.agg31 Try.sz31 Try.byt31 Try.el31 Try.zero31 Try.agg32 Try.sz32 Try.byt32 Try.zero32 Try.agg33 Try.sz33 Try.byt33 Try.zero33 Try.agg34 Try.sz34 Try.byt34 Try.zero34 Try.agg35 Try.sz35 Try.byt35 Try.el35 Try.zero35 Try.agg36 Try.sz36 Try.byt36 Try.zero36 Try.agg37 Try.sz37 Try.byt37 Try.zero37 Try.agg38 Try.sz38 Try.byt38 Try.zero38 Try.agg39 Try.sz39 Try.byt39 Try.zero39 Try.agg41 Try.sz41 Try.byt41 Try.zero41 Try.agg42 Try.sz42 Try.byt42 Try.zero42 Try.agg43 Try.sz43 Try.byt43 Try.zero43 Try.agg44 Try.sz44 Try.byt44 Try.zero44 Try.agg45 Try.sz45 Try.byt45 Try.zero45 Try.agg46 Try.sz46 Try.byt46 Try.zero46 Try.agg47 Try.sz47 Try.byt47 Try.zero47 Try.agg48 Try.sz48 Try.byt48 Try.zero48 Try.agg49 Try.sz49 Try.byt49 Try.zero49 Try.agg50 Try.sz50 Try.byt50 Try.zero50 Try.agg51 Try.sz51 Try.byt51 Try.zero51 Try.agg52 Try.sz52 Try.byt52 Try.zero52 Try.agg53 Try.sz53 Try.byt53 Try.zero53 Try.agg54 Try.sz54 Try.byt54 Try.el54 Try.zero54 Try.agg55 Try.sz55 Try.byt55 Try.zero55 Try.agg56 Try.sz56 Try.byt56 Try.zero56 Try.agg57 Try.sz57 Try.byt57 Try.zero57 Try.agg59 Try.sz59 Try.byt59 Try.zero59 Try.agg60 Try.sz60 Try.byt60 Try.zero60 Try.agg61 Try.sz61 Try.byt61 Try.zero61 Try.agg62 Try.sz62 Try.byt62 Try.zero62 Try.agg63 Try.sz63 Try.byt63 Try.zero63 Try.agg64 Try.sz64 Try.byt64 Try.zero64 Try.agg65 Try.sz65 Try.byt65 Try.zero65 Try.agg66 Try.sz66 Try.byt66 Try.zero66 Try.agg67 Try.sz67 Try.byt67 Try.zero67 Try.agg68 Try.sz68 Try.byt68 Try.zero68 Try.agg69 Try.sz69 Try.byt69 Try.zero69 Try.agg70 Try.sz70 Try.byt70 Try.zero70 Try.agg71 Try.sz71 Try.byt71 Try.zero71 Try.agg72 Try.sz72 Try.byt72 Try.zero72 Try.agg73 Try.sz73 Try.byt73 Try.zero73 Try.agg74 Try.sz74 Try.byt74 Try.zero74 Try.agg75 Try.sz75 Try.byt75 Try.zero75 Try.agg76 Try.sz76 Try.byt76 Try.zero76 Try.body0 Try.body1 Try.body2 Try.body3 Try.body4 Try.body5 Try.body6 Try.body7 Try.body8 Try.body9 Try.body10 Try.body11 Try.body12 Try.body13 Try.body14 Try.body15 Try.body16 Try.body17 Try.body18 Try.body19 Try.body20 Try.body21 Try.body22 Try.body23 Try.body24 Try.body25 Try.body26 Try.body27 Try.body28 Try.body29 Try.body30 Try.body31 Try.body32 Try.body33 Try.body34 Try.body35 Try.body36 Try.body37 Try.body38 Try.body39 Try.build7 Try.build8 Try.build13 Try.build14 Try.build18 Try.build19 Try.bsl23 Try.build25 Try.build26 Try.bsl31 Try.bsl35 Try.build44 Try.build50 Try.build51 Try.bsl54 Try.build55 Try.build56 Try.build61 Try.build62 Try.build64 Try.build65 Try.build74 Try.build75 Try.underlying1 Try.underlying2 Try.underlying3 Try.underlying4 Try.underlying5 Try.underlying6 Try.underlying7 Try.underlying8 Try.underlying9 Try.underlying10 Try.underlying11 Try.underlying12 Try.underlying13 Try.underlying14 Try.underlying15 Try.underlying16 Try.underlying17 Try.underlying18 Try.underlying19 Try.underlying20 Try.underlying21 Try.underlying22 Try.underlying23 Try.underlying24 Try.underlying25 Try.underlying26 Try.underlying27 Try.underlying29 Try.underlying30 Try.underlying31 Try.underlying32 Try.underlying33 Try.underlying34 Try.underlying35 Try.underlying36 Try.underlying37 Try.underlying38 Try.underlying39 Try.underlying41 Try.underlying42 Try.underlying43 Try.underlying44 Try.underlying45 Try.underlying46 Try.underlying47 Try.underlying48 Try.underlying49 Try.underlying50 Try.underlying51 Try.underlying52 Try.underlying53 Try.underlying54 Try.underlying55 Try.underlying56 Try.underlying57 Try.underlying59 Try.underlying60 Try.underlying61 Try.underlying62 Try.underlying63 Try.underlying64 Try.underlying65 Try.underlying66 Try.underlying67 Try.underlying68 Try.underlying69 Try.underlying70 Try.underlying71 Try.underlying72 Try.underlying73 Try.underlying74 Try.underlying75 Try.underlying76
def stepM (s : ByteArray) (p : Nat) (r : Nat × Nat) (k : Nat) : Nat × Nat := if run s (p - k) p > r.1 then (run s (p - k) p, k) else r
def bestK (s : ByteArray) (p : Nat) : Nat → Nat × Nat
  | 0 => (0, 0)
  | K + 1 => stepM s p (bestK s p K) (K + 1)
def progK (s : ByteArray) (p : Nat) : Nat → Nat × Nat
  | 0 => (0, 0)
  | K + 1 => if 3 ≤ run s (p - (K + 1)) p then stepM s p (progK s p K) (K + 1) else progK s p K
theorem progK_succ (s : ByteArray) (p K : Nat) : progK s p (K + 1) = if 3 ≤ run s (p - (K + 1)) p then stepM s p (progK s p K) (K + 1) else progK s p K := rfl
/-- What matches at place p. -/
def matM (s : ByteArray) (p : Nat) : Nat × Nat := if (bestK s p (min 512 p)).1 < 3 then (0, 0) else bestK s p (min 512 p)
theorem prog_best (s : ByteArray) (p : Nat) : ∀ K, progK s p K = if (bestK s p K).1 < 3 then (0, 0) else bestK s p K
  | 0 => rfl
  | K + 1 => by
    have ih := prog_best s p K
    unfold progK bestK stepM
    rw [ih]
    generalize bestK s p K = r
    generalize run s (p - (K + 1)) p = x
    by_cases h1 : r.1 < 3 <;> by_cases h2 : 3 ≤ x <;> by_cases h3 : x > r.1 <;> simp only [h1, h2, h3, if_true, if_false] <;> first | rfl | omega | skip
    · rw [if_pos (by show x > 0; omega), if_neg (by omega)]
    · rw [if_pos (by show x < 3; omega)]
    · rw [if_neg (by show ¬ x < 3; omega)]
theorem matM_prog (s : ByteArray) (p : Nat) : matM s p = progK s p (min 512 p) := (prog_best s p _).symm
theorem progK_le (s : ByteArray) (p : Nat) : ∀ K, (progK s p K).1 ≤ 34 ∧ (progK s p K).2 ≤ K
  | 0 => ⟨by simp [progK], by simp [progK]⟩
  | K + 1 => by
    have ih := progK_le s p K
    have := run_le s (p - (K + 1)) p
    unfold progK stepM
    split
    · split
      · exact ⟨this, by simp⟩
      · exact ⟨ih.1, by omega⟩
    · exact ⟨ih.1, by omega⟩
theorem prog_skip (s : ByteArray) (p K : Nat) : ∀ n, (∀ k, K < k → k ≤ K + n → run s (p - k) p < 3) → progK s p (K + n) = progK s p K
  | 0, _ => rfl
  | n + 1, h => by
    show progK s p (K + n + 1) = _
    rw [progK_succ, if_neg (by have := h (K + n + 1) (by omega) (by omega); omega)]
    exact prog_skip s p K n (fun k h1 h2 => h k h1 (by omega))
theorem prog_full (s : ByteArray) (p K : Nat) (hf : 34 ≤ (progK s p K).1) : ∀ n, progK s p (K + n) = progK s p K
  | 0 => rfl
  | n + 1 => by
    have ih := prog_full s p K hf n
    show progK s p (K + n + 1) = _
    rw [progK_succ, ih]
    unfold stepM
    have := run_le s (p - (K + n + 1)) p
    rw [if_neg (show ¬ (run s (p - (K + n + 1)) p > (progK s p K).1) by omega)]
    split <;> rfl
theorem prev_some {s : ByteArray} {t : ByteArray} {p : Nat} : ∀ {D : Nat}, prev s D t = some p → p < D ∧ p + 3 ≤ s.size ∧ three s p = t ∧ ∀ q, p < q → q < D → ¬ (q + 3 ≤ s.size ∧ three s q = t)
  | 0, h => by simp [prev] at h
  | D + 1, h => by
    unfold prev at h
    split at h
    · rename_i hc; cases h
      exact ⟨by omega, hc.1, hc.2, fun q h1 h2 => by omega⟩
    · rename_i hc
      obtain ⟨h1, h2, h3, h4⟩ := prev_some h
      refine ⟨by omega, h2, h3, fun q q1 q2 => ?_⟩
      by_cases hq : q = D
      · subst hq; exact hc
      · exact h4 q q1 (by omega)
theorem prev_none {s : ByteArray} {t : ByteArray} : ∀ {D : Nat}, prev s D t = none → ∀ q, q < D → ¬ (q + 3 ≤ s.size ∧ three s q = t)
  | 0, h, q, hq => by omega
  | D + 1, h, q, hq => by
    unfold prev at h
    split at h
    · cases h
    · rename_i hc
      by_cases hq' : q = D
      · subst hq'; exact hc
      · exact prev_none h q (by omega)
theorem three_nums (s : ByteArray) (i : Nat) : nums (three s i) = ((nums s).drop i).take 3 := by
  unfold three nums
  rw [ByteArray.data_extract, Array.toList_extract, ← List.map_drop, ← List.map_take, List.extract_eq_take_drop]
  congr 2
  omega
theorem take3 (s : ByteArray) (i : Nat) (h : i + 3 ≤ s.size) : nums (three s i) = [sbt s i, sbt s (i + 1), sbt s (i + 2)] := by
  rw [three_nums, sbt_drop s i (by omega), sbt_drop s (i + 1) (by omega), sbt_drop s (i + 1 + 1) (by omega)]; rfl
theorem three_run (s : ByteArray) {a c : Nat} (hac : a < c) (hc : c + 3 ≤ s.size) : three s a = three s c ↔ 3 ≤ run s a c := by
  constructor
  · intro h
    have := congrArg nums h
    rw [take3 s a (by omega), take3 s c hc] at this
    simp only [List.cons.injEq, and_true] at this
    obtain ⟨h1, h2, h3⟩ := this
    refine runN_ge s _ a c 3 (by omega) fun i hi => ?_
    match i, hi with
    | 0, _ => exact h1
    | 1, _ => exact h2
    | 2, _ => exact h3
  · intro h
    apply nums_inj
    rw [take3 s a (by omega), take3 s c hc]
    have key := runN_at s (min 34 (s.size - c)) a c
    have e0 := key 0 (by unfold run at h; omega)
    have e1 := key 1 (by unfold run at h; omega)
    have e2 := key 2 (by unfold run at h; omega)
    rw [show sbt s a = sbt s c from e0, e1, e2]
/-- Nothing matches between. -/
theorem prog_to {s : ByteArray} {p K j : Nat} (hp : p + 3 ≤ s.size) (hK : K ≤ p) (h : prev s (p - K) (three s p) = some j) {n : Nat} (hn : n < p - j) (hKn : K ≤ n) : progK s p n = progK s p K := by
  obtain ⟨h1, h2, h3, h4⟩ := prev_some h
  have := prog_skip s p K (n - K) fun k k1 k2 => by
    have := h4 (p - k) (by omega) (by omega)
    rcases Nat.lt_or_ge (run s (p - k) p) 3 with h | h
    · exact h
    · exact absurd ⟨by omega, (three_run s (by omega) hp).2 h⟩ this
  rwa [show K + (n - K) = n by omega] at this
theorem prog_nil {s : ByteArray} {p K : Nat} (hp : p + 3 ≤ s.size) (h : prev s (p - K) (three s p) = none) {n : Nat} (hn : n ≤ p) (hKn : K ≤ n) : progK s p n = progK s p K := by
  have := prog_skip s p K (n - K) fun k k1 k2 => by
    have := prev_none h (p - k) (by omega)
    rcases Nat.lt_or_ge (run s (p - k) p) 3 with h | h
    · exact h
    · exact absurd ⟨by omega, (three_run s (by omega) hp).2 h⟩ this
  rwa [show K + (n - K) = n by omega] at this
theorem prog_short {s : ByteArray} {p : Nat} (hp : ¬ p + 3 ≤ s.size) (n : Nat) : progK s p n = (0, 0) := by
  have := prog_skip s p 0 n fun k k1 k2 => by have := run_le2 s (p - k) p; omega
  rwa [Nat.zero_add] at this
def matV (s : ByteArray) (p : Nat) : Value := .tuple #[.int .i64 ((matM s p).1 : Nat), .int .i64 ((matM s p).2 : Nat)]
theorem Try.enters18 : Enters Try.prog 18 := enters_of Try.func18 rfl (by kernel_rfl)
set_option maxHeartbeats 8000000 in
theorem match_ok (w0 : World) (A : St) (s : ByteArray) (c m lo d p : Nat) (hlo : c < lo ∧ m < lo ∧ c ≠ m) (v0 : Value) (h : Chn A c m lo s d v0) (hdp : d ≤ p) (hp : p ≤ s.size) (hs : s.size ≤ 1073741824) :
    ACalls Try.prog w0 18 #[.pointer (some ⟨c, 0, none⟩), .int .i64 p] A fun e A' => e = .returned (matV s p) ∧ ∃ v', Chn A' c m lo s p v' ∧ Kp A A' c m v0 v' := by
  refine call_E Try.enters18 Try.func18 rfl (Nat.le_of_ble_eq_true rfl) fun hw hbd => ?_
  simp (maxSteps := 1000000) (disch := (first | omega | (simp only [nx_alloc, nx_upd, len_cons, len_nil, List.length_set, List.length_map, List.length_append] <;> omega) | fail)) only [Nat.reduceAdd, Nat.reduceSub, Nat.reduceMul, Nat.reduceLT, Nat.reduceLeDiff, Nat.reduceEqDiff, ↓reduceIte, reduceCtorEq, Int.reduceAdd, Int.reduceSub, Int.reduceMul, Int.reduceLT, Int.reduceLE, Int.reduceEq, Int.reduceNe, Int.reduceToNat, Int.reduceNeg, go_sem, Try.ntmps18, Try.results18]
  refine (learn_ok w0 A s c m lo d p hlo v0 h (by omega) (by omega) (by omega)).mono ?_
  rintro e A1 ⟨rfl, v, hch, hkp⟩
  rw [show max d p = p by omega] at hch
  have hch0 := hch
  obtain ⟨hl0, L, f1, f2, f3, f4⟩ := hch
  by_cases h3 : p + 3 ≤ s.size
  rotate_left
  · have h3' : ¬ ((p : Int) + 3 ≤ s.size) := by omega
    simp (maxSteps := 1000000) (disch := (first | omega | (simp only [nx_alloc, nx_upd, len_cons, len_nil, List.length_set, List.length_map, List.length_append] <;> omega) | fail)) only [Nat.reduceAdd, Nat.reduceSub, Nat.reduceMul, Nat.reduceLT, Nat.reduceLeDiff, Nat.reduceEqDiff, ↓reduceIte, reduceCtorEq, Int.reduceAdd, Int.reduceSub, Int.reduceMul, Int.reduceLT, Int.reduceLE, Int.reduceEq, Int.reduceNe, Int.reduceToNat, Int.reduceNeg, go_sem, f1, Try.results18]
    exact gc_here ⟨by unfold matV; rw [matM_prog, prog_short h3]; rfl, v, hch0, hkp⟩
  have h3' : ((p : Int) + 3 ≤ s.size) := by omega
  have t3 : ((p : Int) + 3).toNat = p + 3 := by omega
  simp (maxSteps := 1000000) (disch := (first | omega | (simp only [nx_alloc, nx_upd, len_cons, len_nil, List.length_set, List.length_map, List.length_append] <;> omega) | fail)) only [Nat.reduceAdd, Nat.reduceSub, Nat.reduceMul, Nat.reduceLT, Nat.reduceLeDiff, Nat.reduceEqDiff, ↓reduceIte, reduceCtorEq, Int.reduceAdd, Int.reduceSub, Int.reduceMul, Int.reduceLT, Int.reduceLE, Int.reduceEq, Int.reduceNe, Int.reduceToNat, Int.reduceNeg, go_sem, f1]
  refine aw_draw (by kernel_rfl) ?_
  have hg : smGet L (s.extract p (p + 3)) = (prev s p (three s p)).map fun p => Value.int .i64 (p : Nat) := f3 _
  have hview := f4.view
  obtain ⟨is, z, hz1, hz2, hm⟩ : ∃ (is : Bool) (z : Int), (is = true → z = pz (prev s p (three s p))) ∧ (is = false → prev s p (three s p) = none) ∧ mval (smGet L (s.extract p (p + 3))) (.int .i64 0) true = .tuple #[.int .i64 z, .bool is] := by
    rw [hg]
    rcases hq : prev s p (three s p) with _ | j
    · exact ⟨false, 0, by simp, fun _ => rfl, rfl⟩
    · exact ⟨true, j, fun _ => rfl, by simp, rfl⟩
  simp (maxSteps := 1000000) (disch := (first | omega | (simp only [nx_alloc, nx_upd, len_cons, len_nil, List.length_set, List.length_map, List.length_append] <;> omega) | fail)) only [Nat.reduceAdd, Nat.reduceSub, Nat.reduceMul, Nat.reduceLT, Nat.reduceLeDiff, Nat.reduceEqDiff, ↓reduceIte, reduceCtorEq, Int.reduceAdd, Int.reduceSub, Int.reduceMul, Int.reduceLT, Int.reduceLE, Int.reduceEq, Int.reduceNe, Int.reduceToNat, Int.reduceNeg, go_sem, f1, f2, t3, hm]
  refine aw_loop (fun k x A' => ∃ (ρ : Nat → Value) (K : Nat) (is : Bool) (z : Int), x = E 71 ρ [] ∧ A' = A1 ∧ k = p - K ∧ K ≤ p ∧ K ≤ 512 ∧ (is = true → z = pz (prev s (p - K) (three s p))) ∧ (is = false → prev s (p - K) (three s p) = none) ∧
      ρ 0 = .pointer (some ⟨c, 0, none⟩) ∧ ρ 1 = .int .i64 p ∧ ρ 4 = .int .i64 ((progK s p K).1 : Nat) ∧ ρ 5 = .int .i64 ((progK s p K).2 : Nat) ∧ ρ 6 = .int .i64 z ∧ ρ 7 = .bool is) p
    ⟨_, 0, is, z, rfl, rfl, rfl, Nat.zero_le _, Nat.zero_le _, hz1, hz2, rfl, rfl, rfl, rfl, rfl, rfl⟩ ?_
  clear hz1 hz2 hm
  rintro k x A' ⟨ρ, K, is, z, rfl, rfl, hk, hKp, hK5, hz1, hz2, g0, g1, g4, g5, g6, g7⟩
  refine aw_of ?_
  have hpl := progK_le s p K
  have stop : progK s p (min 512 p) = progK s p K → ∀ A2, A2 = A' → GcE A (fun e A' => e = .returned (matV s p) ∧ ∃ v', Chn A' c m lo s p v' ∧ Kp A A' c m v0 v') (.returned (.tuple #[.int .i64 ((progK s p K).1 : Nat), .int .i64 ((progK s p K).2 : Nat)])) A2 := by
    rintro he A2 rfl
    exact gc_here ⟨by unfold matV; rw [matM_prog, he], v, hch0, hkp⟩
  cases is with
  | false =>
    simp (maxSteps := 1000000) (disch := (first | omega | (simp only [nx_alloc, nx_upd, len_cons, len_nil, List.length_set, List.length_map, List.length_append] <;> omega) | fail)) only [Nat.reduceAdd, Nat.reduceSub, Nat.reduceMul, Nat.reduceLT, Nat.reduceLeDiff, Nat.reduceEqDiff, ↓reduceIte, reduceCtorEq, Int.reduceAdd, Int.reduceSub, Int.reduceMul, Int.reduceLT, Int.reduceLE, Int.reduceEq, Int.reduceNe, Int.reduceToNat, Int.reduceNeg, go_sem, g0, g1, g4, g5, g6, g7, Try.results18]
    exact stop (prog_nil h3 (hz2 rfl) (by omega) (by omega)) _ rfl
  | true =>
    obtain rfl := hz1 rfl
    rcases hq : prev s (p - K) (three s p) with _ | j
    · rw [hq] at g6
      simp only [pz] at g6
      simp (maxSteps := 1000000) (disch := (first | omega | (simp only [nx_alloc, nx_upd, len_cons, len_nil, List.length_set, List.length_map, List.length_append] <;> omega) | fail)) only [Nat.reduceAdd, Nat.reduceSub, Nat.reduceMul, Nat.reduceLT, Nat.reduceLeDiff, Nat.reduceEqDiff, ↓reduceIte, reduceCtorEq, Int.reduceAdd, Int.reduceSub, Int.reduceMul, Int.reduceLT, Int.reduceLE, Int.reduceEq, Int.reduceNe, Int.reduceToNat, Int.reduceNeg, go_sem, g0, g1, g4, g5, g6, g7, Try.results18]
      exact stop (prog_nil h3 hq (by omega) (by omega)) _ rfl
    · rw [hq] at g6
      simp only [pz] at g6
      obtain ⟨j1, j2, j3, j4⟩ := prev_some hq
      by_cases hfar : p - j ≤ 512
      rotate_left
      · have hf' : ¬ ((p : Int) - j ≤ 512) := by omega
        simp (maxSteps := 1000000) (disch := (first | omega | (simp only [nx_alloc, nx_upd, len_cons, len_nil, List.length_set, List.length_map, List.length_append] <;> omega) | fail)) only [Nat.reduceAdd, Nat.reduceSub, Nat.reduceMul, Nat.reduceLT, Nat.reduceLeDiff, Nat.reduceEqDiff, ↓reduceIte, reduceCtorEq, Int.reduceAdd, Int.reduceSub, Int.reduceMul, Int.reduceLT, Int.reduceLE, Int.reduceEq, Int.reduceNe, Int.reduceToNat, Int.reduceNeg, go_sem, g0, g1, g4, g5, g6, g7, Try.results18]
        exact stop (prog_to h3 hKp hq (by omega) (by omega)) _ rfl
      have hf' : ((p : Int) - j ≤ 512) := by omega
      by_cases hfull : (progK s p K).1 < 34
      rotate_left
      · have hf2 : ¬ (((progK s p K).1 : Int) < 34) := by omega
        simp (maxSteps := 1000000) (disch := (first | omega | (simp only [nx_alloc, nx_upd, len_cons, len_nil, List.length_set, List.length_map, List.length_append] <;> omega) | fail)) only [Nat.reduceAdd, Nat.reduceSub, Nat.reduceMul, Nat.reduceLT, Nat.reduceLeDiff, Nat.reduceEqDiff, ↓reduceIte, reduceCtorEq, Int.reduceAdd, Int.reduceSub, Int.reduceMul, Int.reduceLT, Int.reduceLE, Int.reduceEq, Int.reduceNe, Int.reduceToNat, Int.reduceNeg, go_sem, g0, g1, g4, g5, g6, g7, Try.results18]
        refine stop ?_ _ rfl
        have := prog_full s p K (by omega) (min 512 p - K)
        rwa [show K + (min 512 p - K) = min 512 p by omega] at this
      have hf2 : (((progK s p K).1 : Nat) : Int) < 34 := by omega
      have hrun : 3 ≤ run s j p := (three_run s (by omega) h3).1 j3
      have hstep : progK s p (p - j) = stepM s p (progK s p K) (p - j) := by
        obtain ⟨n, hn⟩ : ∃ n, p - j = n + 1 := ⟨p - j - 1, by omega⟩
        rw [hn, progK_succ, ← hn, show p - (p - j) = j by omega, if_pos hrun, prog_to h3 hKp hq (n := n) (by omega) (by omega)]
      unfold stepM at hstep
      rw [show p - (p - j) = j by omega] at hstep
      have hbk : backV s j = pz (prev s j (three s p)) := by unfold backV; rw [if_pos j2, j3]
      obtain ⟨b, off, hb1, hb2, hb3, cells, e', md, hb4, hb5⟩ := hview.at1 (P := Try.prog) (e := 3) (i := j) (x := .int .i64 (backV s j)) Try.sz3 (by rw [List.getElem?_map, List.getElem?_range (by omega)]; rfl)
      simp (maxSteps := 1000000) (disch := (first | omega | (simp only [nx_alloc, nx_upd, len_cons, len_nil, List.length_set, List.length_map, List.length_append] <;> omega) | fail)) only [Nat.reduceAdd, Nat.reduceSub, Nat.reduceMul, Nat.reduceLT, Nat.reduceLeDiff, Nat.reduceEqDiff, ↓reduceIte, reduceCtorEq, Int.reduceAdd, Int.reduceSub, Int.reduceMul, Int.reduceLT, Int.reduceLE, Int.reduceEq, Int.reduceNe, Int.reduceToNat, Int.reduceNeg, go_sem, g0, g1, g4, g5, g6, g7]
      refine call1 (same_ok w0 A' s c _ _ f1 j p (by omega) hp (by omega)) ?_
      simp (maxSteps := 1000000) (disch := (first | omega | (simp only [nx_alloc, nx_upd, len_cons, len_nil, List.length_set, List.length_map, List.length_append] <;> omega) | fail)) only [Nat.reduceAdd, Nat.reduceSub, Nat.reduceMul, Nat.reduceLT, Nat.reduceLeDiff, Nat.reduceEqDiff, ↓reduceIte, reduceCtorEq, Int.reduceAdd, Int.reduceSub, Int.reduceMul, Int.reduceLT, Int.reduceLE, Int.reduceEq, Int.reduceNe, Int.reduceToNat, Int.reduceNeg, go_sem, g4]
      have hsub : (p : Int) - j = ((p - j : Nat) : Int) := by omega
      refine ifB_dec (fun hl => ?_) (fun hl => ?_)
      · rw [if_pos (show run s j p > (progK s p K).1 by omega)] at hstep
        simp (maxSteps := 1000000) (disch := (first | omega | (simp only [nx_alloc, nx_upd, len_cons, len_nil, List.length_set, List.length_map, List.length_append] <;> omega) | fail)) only [Nat.reduceAdd, Nat.reduceSub, Nat.reduceMul, Nat.reduceLT, Nat.reduceLeDiff, Nat.reduceEqDiff, ↓reduceIte, reduceCtorEq, Int.reduceAdd, Int.reduceSub, Int.reduceMul, Int.reduceLT, Int.reduceLE, Int.reduceEq, Int.reduceNe, Int.reduceToNat, Int.reduceNeg, go_sem, g0, g1, g4, g5, g6, g7, f1, hb3, hb4, hb5, hsub]
        refine ⟨p - (p - j), by omega, _, p - j, true, pz (prev s j (three s p)), rfl, rfl, by omega, by omega, fun _ => ?_, by simp, ?_, ?_, ?_, ?_, ?_, ?_⟩
        · rw [show p - (p - j) = j by omega]
        · simp (maxSteps := 1000000) (disch := (first | omega | (simp only [nx_alloc, nx_upd, len_cons, len_nil, List.length_set, List.length_map, List.length_append] <;> omega) | fail)) only [Nat.reduceAdd, Nat.reduceSub, Nat.reduceMul, Nat.reduceLT, Nat.reduceLeDiff, Nat.reduceEqDiff, ↓reduceIte, reduceCtorEq, Int.reduceAdd, Int.reduceSub, Int.reduceMul, Int.reduceLT, Int.reduceLE, Int.reduceEq, Int.reduceNe, Int.reduceToNat, Int.reduceNeg, go_sem, g0]
        · simp (maxSteps := 1000000) (disch := (first | omega | (simp only [nx_alloc, nx_upd, len_cons, len_nil, List.length_set, List.length_map, List.length_append] <;> omega) | fail)) only [Nat.reduceAdd, Nat.reduceSub, Nat.reduceMul, Nat.reduceLT, Nat.reduceLeDiff, Nat.reduceEqDiff, ↓reduceIte, reduceCtorEq, Int.reduceAdd, Int.reduceSub, Int.reduceMul, Int.reduceLT, Int.reduceLE, Int.reduceEq, Int.reduceNe, Int.reduceToNat, Int.reduceNeg, go_sem, g1]
        · simp (maxSteps := 1000000) (disch := (first | omega | (simp only [nx_alloc, nx_upd, len_cons, len_nil, List.length_set, List.length_map, List.length_append] <;> omega) | fail)) only [Nat.reduceAdd, Nat.reduceSub, Nat.reduceMul, Nat.reduceLT, Nat.reduceLeDiff, Nat.reduceEqDiff, ↓reduceIte, reduceCtorEq, Int.reduceAdd, Int.reduceSub, Int.reduceMul, Int.reduceLT, Int.reduceLE, Int.reduceEq, Int.reduceNe, Int.reduceToNat, Int.reduceNeg, go_sem, hstep]
        · simp (maxSteps := 1000000) (disch := (first | omega | (simp only [nx_alloc, nx_upd, len_cons, len_nil, List.length_set, List.length_map, List.length_append] <;> omega) | fail)) only [Nat.reduceAdd, Nat.reduceSub, Nat.reduceMul, Nat.reduceLT, Nat.reduceLeDiff, Nat.reduceEqDiff, ↓reduceIte, reduceCtorEq, Int.reduceAdd, Int.reduceSub, Int.reduceMul, Int.reduceLT, Int.reduceLE, Int.reduceEq, Int.reduceNe, Int.reduceToNat, Int.reduceNeg, go_sem, hstep]
        · simp (maxSteps := 1000000) (disch := (first | omega | (simp only [nx_alloc, nx_upd, len_cons, len_nil, List.length_set, List.length_map, List.length_append] <;> omega) | fail)) only [Nat.reduceAdd, Nat.reduceSub, Nat.reduceMul, Nat.reduceLT, Nat.reduceLeDiff, Nat.reduceEqDiff, ↓reduceIte, reduceCtorEq, Int.reduceAdd, Int.reduceSub, Int.reduceMul, Int.reduceLT, Int.reduceLE, Int.reduceEq, Int.reduceNe, Int.reduceToNat, Int.reduceNeg, go_sem, hbk]
        · simp (maxSteps := 1000000) (disch := (first | omega | (simp only [nx_alloc, nx_upd, len_cons, len_nil, List.length_set, List.length_map, List.length_append] <;> omega) | fail)) only [Nat.reduceAdd, Nat.reduceSub, Nat.reduceMul, Nat.reduceLT, Nat.reduceLeDiff, Nat.reduceEqDiff, ↓reduceIte, reduceCtorEq, Int.reduceAdd, Int.reduceSub, Int.reduceMul, Int.reduceLT, Int.reduceLE, Int.reduceEq, Int.reduceNe, Int.reduceToNat, Int.reduceNeg, go_sem, g7]
      · rw [if_neg (show ¬ run s j p > (progK s p K).1 by omega)] at hstep
        simp (maxSteps := 1000000) (disch := (first | omega | (simp only [nx_alloc, nx_upd, len_cons, len_nil, List.length_set, List.length_map, List.length_append] <;> omega) | fail)) only [Nat.reduceAdd, Nat.reduceSub, Nat.reduceMul, Nat.reduceLT, Nat.reduceLeDiff, Nat.reduceEqDiff, ↓reduceIte, reduceCtorEq, Int.reduceAdd, Int.reduceSub, Int.reduceMul, Int.reduceLT, Int.reduceLE, Int.reduceEq, Int.reduceNe, Int.reduceToNat, Int.reduceNeg, go_sem, g0, g1, g4, g5, g6, g7, f1, hb3, hb4, hb5, hsub]
        refine ⟨p - (p - j), by omega, _, p - j, true, pz (prev s j (three s p)), rfl, rfl, by omega, by omega, fun _ => ?_, by simp, ?_, ?_, ?_, ?_, ?_, ?_⟩
        · rw [show p - (p - j) = j by omega]
        · simp (maxSteps := 1000000) (disch := (first | omega | (simp only [nx_alloc, nx_upd, len_cons, len_nil, List.length_set, List.length_map, List.length_append] <;> omega) | fail)) only [Nat.reduceAdd, Nat.reduceSub, Nat.reduceMul, Nat.reduceLT, Nat.reduceLeDiff, Nat.reduceEqDiff, ↓reduceIte, reduceCtorEq, Int.reduceAdd, Int.reduceSub, Int.reduceMul, Int.reduceLT, Int.reduceLE, Int.reduceEq, Int.reduceNe, Int.reduceToNat, Int.reduceNeg, go_sem, g0]
        · simp (maxSteps := 1000000) (disch := (first | omega | (simp only [nx_alloc, nx_upd, len_cons, len_nil, List.length_set, List.length_map, List.length_append] <;> omega) | fail)) only [Nat.reduceAdd, Nat.reduceSub, Nat.reduceMul, Nat.reduceLT, Nat.reduceLeDiff, Nat.reduceEqDiff, ↓reduceIte, reduceCtorEq, Int.reduceAdd, Int.reduceSub, Int.reduceMul, Int.reduceLT, Int.reduceLE, Int.reduceEq, Int.reduceNe, Int.reduceToNat, Int.reduceNeg, go_sem, g1]
        · simp (maxSteps := 1000000) (disch := (first | omega | (simp only [nx_alloc, nx_upd, len_cons, len_nil, List.length_set, List.length_map, List.length_append] <;> omega) | fail)) only [Nat.reduceAdd, Nat.reduceSub, Nat.reduceMul, Nat.reduceLT, Nat.reduceLeDiff, Nat.reduceEqDiff, ↓reduceIte, reduceCtorEq, Int.reduceAdd, Int.reduceSub, Int.reduceMul, Int.reduceLT, Int.reduceLE, Int.reduceEq, Int.reduceNe, Int.reduceToNat, Int.reduceNeg, go_sem, g4, hstep]
        · simp (maxSteps := 1000000) (disch := (first | omega | (simp only [nx_alloc, nx_upd, len_cons, len_nil, List.length_set, List.length_map, List.length_append] <;> omega) | fail)) only [Nat.reduceAdd, Nat.reduceSub, Nat.reduceMul, Nat.reduceLT, Nat.reduceLeDiff, Nat.reduceEqDiff, ↓reduceIte, reduceCtorEq, Int.reduceAdd, Int.reduceSub, Int.reduceMul, Int.reduceLT, Int.reduceLE, Int.reduceEq, Int.reduceNe, Int.reduceToNat, Int.reduceNeg, go_sem, g5, hstep]
        · simp (maxSteps := 1000000) (disch := (first | omega | (simp only [nx_alloc, nx_upd, len_cons, len_nil, List.length_set, List.length_map, List.length_append] <;> omega) | fail)) only [Nat.reduceAdd, Nat.reduceSub, Nat.reduceMul, Nat.reduceLT, Nat.reduceLeDiff, Nat.reduceEqDiff, ↓reduceIte, reduceCtorEq, Int.reduceAdd, Int.reduceSub, Int.reduceMul, Int.reduceLT, Int.reduceLE, Int.reduceEq, Int.reduceNe, Int.reduceToNat, Int.reduceNeg, go_sem, hbk]
        · simp (maxSteps := 1000000) (disch := (first | omega | (simp only [nx_alloc, nx_upd, len_cons, len_nil, List.length_set, List.length_map, List.length_append] <;> omega) | fail)) only [Nat.reduceAdd, Nat.reduceSub, Nat.reduceMul, Nat.reduceLT, Nat.reduceLeDiff, Nat.reduceEqDiff, ↓reduceIte, reduceCtorEq, Int.reduceAdd, Int.reduceSub, Int.reduceMul, Int.reduceLT, Int.reduceLE, Int.reduceEq, Int.reduceNe, Int.reduceToNat, Int.reduceNeg, go_sem, g7]
end Go.Fw
