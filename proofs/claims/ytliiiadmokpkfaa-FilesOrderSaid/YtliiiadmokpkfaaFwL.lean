import Derived.Test.YtliiiadmokpkfaaFwK
set_option linter.unusedSimpArgs false
set_option linter.unusedVariables false
namespace Go.Fw
open Go.Proofs Go.RowKit
attribute [local go_sem] List.length_cons List.length_nil Nat.zero_add Nat.add_zero Nat.zero_mul Nat.mul_one Int.toNat_zero Int.toNat_natCast List.map_cons List.map_nil List.map_toArray List.toList_toArray List.append_toArray List.append_eq List.nil_append List.cons_append List.append_nil List.all_toArray List.all_cons List.all_nil Bool.and_true Bool.true_and Bool.and_self List.getElem?_toArray List.getElem?_cons_zero List.getElem?_cons_succ List.set_cons_zero List.set_cons_succ List.drop_zero List.drop_succ_cons List.take_zero List.take_succ_cons Option.bind_some Option.map_some id true_and and_true and_self St.next_alloc St.next_upd beq_self_eq_true Bool.not_true Bool.not_false Bool.false_eq_true false_implies true_implies Option.isNone_none Option.isNone_some Option.isSome_none Option.isSome_some ge_iff_le gt_iff_lt Nat.sub_zero Nat.add_assoc IntWalk.i64_in IntWalk.u64_in IntWalk.u8_in IntWalk.u32_in IntWalk.i32_in IntWalk.u16_in dec_not Bool.not_eq_true decide_true decide_false ne_eq not_true_eq_false not_false_eq_true Bool.true_or Bool.or_true Bool.or_false Bool.false_or Bool.and_false Bool.false_and upd_apply rd_eq ar_zero ar_succ ar_nil tm_size tm_getD tm_set E_tmps E_defers put_E put_none eval_tmp eval_const eval_func setArgs_0 setArgs_1 setArgs_2 append_lit stepV_some stepA_some guardO_true ifB_true ifB_false wantV_true wantV_false wantV_dec_t wantV_dec_f ifB_dec_t ifB_dec_f condV_bool dec_and dec_or isB_bool someB_t someB_f okO_tmp okO_func okO_int okO_bool okO_string okO_ptr0 okO_slice0 okO_nilFunc okO_nilIface okO_map0 okO_agg wanted_none wanted_some lookT_some aopsL_nil aopsL_cons wpA_skip wpA_label wpA_exit wpA_goto wpA_ret wpA_seq wpA_block wpA_region wpA_cond wpA_loop wpA_rangeFunc wpA_draw thenQ_normal thenQ_exit thenQ_ret thenQ_panic blockQ_normal blockQ_ret blockQ_panic blockQ_exit funQ_ret funQ_normal funQ_panic op_move op_assign pickV_or pickV_and pickV_t pickV_f pickV_true pickV_false op_pick allocV_some op_alloc op_box op_load op_nilCheck op_bin op_lookup bptr btype op_un op_convert op_makeInterface op_makeSlice op_fieldAddr op_field op_indexAddr op_index op_extract op_typeAssert storeV_some op_store op_makeMap op_mapUpdate op_slice00 op_slice10 op_slice01 op_slice11 op_slice111 op_slice011 op_makeFunc callV_true op_call op_builtin panicV_iface op_panic ACallV_func ACallF_false ACallF_true ACallV_yield afterCall_returned afterCall_panicked bin_add bin_sub bin_mul bin_and bin_or bin_xor bin_andNot bin_eql bin_neq bin_lss bin_leq bin_gtr bin_geq mval_some mval_none lookup_map lookU_map lookK_smap mapSet_map msetU_map msetK_int conv_to conv_from unsT_cells unsF_cells bin_same bin_nil bdata_nil bdata_some builtin_data builtin_str bin_quo bin_rem bin_shl bin_shr bin_sadd bin_seql bin_sneq bin_slss uB_bool bin_beql bin_bneq uP_pointer bin_peql bin_pneq uS_slice bin_leql bin_lneq bin_ieql bin_ineq un_neg un_xor un_not nilCheck_ptr nilCheck_func nilCheck_yield load_ptr loadC_one loadC_agg store_ptr slice_eq sliceU_string sliceU_slice sliceU_array sliceS_eq boundsS_some sliceL_eq boundsL_nil boundsL_exact boundsL_least boundsL_own boundsL_ownN bounds_11 bounds_10 bounds_01 bounds_00 builtin_len len_string len_array len_slice builtin_append builtin_copy pairA_some builtin_min builtin_max min_two max_two index_eq index_string index_array indexAddr_eq indexAddr_array indexAddr_slice fieldAddr_eq posO_some fAddr_some fieldAddr_struct partC_some field_eq field_struct part_eq partU_one partU_agg extract_tuple conv_eq conv_int conv_string u8O_u8 conv_bytes conv_text_nil conv_text_zero conv_text mkIface_eq get_upd_same consO_some finR_0 finR_1 finR_2 aresL_nil aresL_cons ares1_tmp ares1_cell retV_some aleave_nil aleave_coll bnd_int bnd_bool bnd_string bnd_nilIface bnd_slice0 bnd_iface bnd_slice bnd_ptr bnd_ptr0 bndL_nil bndL_cons bndA_lit bnd_tuple bnd_agg calm_same skipC_eq aopsC_nil aopsC_cons stepC_call stepC_move stepC_assign stepC_pick stepC_alloc stepC_box stepC_build stepC_buildSlice stepC_load stepC_store stepC_nilCheck stepC_binOp stepC_unOp stepC_convert stepC_makeInterface stepC_makeFunc stepC_makeSlice stepC_slice stepC_fieldAddr stepC_field stepC_indexAddr stepC_index stepC_extract stepC_typeAssert stepC_lookup stepC_mapUpdate stepC_makeMap stepC_builtin to_same sameA_eq aopsX_nil aopsX_cons stepX_heavy stepX_light lightK_eq allC_nil allC_cons hs_zero hs_succ stepT_call pure_call stepT_move pure_move stepT_assign pure_assign stepT_pick pure_pick stepT_alloc pure_alloc stepT_box pure_box stepT_build pure_build stepT_buildSlice pure_buildSlice stepT_load pure_load stepT_store pure_store stepT_nilCheck pure_nilCheck stepT_binOp pure_binOp stepT_unOp pure_unOp stepT_convert pure_convert stepT_makeInterface pure_makeInterface stepT_makeFunc pure_makeFunc stepT_makeSlice pure_makeSlice stepT_slice pure_slice stepT_fieldAddr pure_fieldAddr stepT_field pure_field stepT_indexAddr pure_indexAddr stepT_index pure_index stepT_extract pure_extract stepT_typeAssert pure_typeAssert stepT_lookup pure_lookup stepT_mapUpdate pure_mapUpdate stepT_makeMap pure_makeMap stepT_builtin pure_b_len pure_b_append pure_b_copy pure_b_min pure_b_max pure_b_unsafeSliceData pure_b_unsafeString leaveK_eq aleave_fn op_defer deferV_func resK_some defQ_ret defQ_normal storeC_int storeC_bool storeC_string storeC_slice storeC_func storeC_pointer len_cons len_nil cells_int cells_bool cells_string cells_slice cells_pointer cells_func cells_map cells_nilFunc cells_agg cell1_bool cell1_string cell1_slice cell1_pointer cell1_func cell1_i cell1_map cell1_nilFunc setList_nil setList_cons storeC_aggS fillP_nil fillP_cons fillAt_1 fillAt_n aggO_some sliceO_some places_0 places_s zerosR_0 zerosR_s thenElse_true evP_nil evP_cons okP_nil okP_cons op_buildL op_buildSliceL isBu_t isBu_f mk_E get_alloc_old get_alloc_new get_upd_old Try.agg1 Try.sz1 Try.byt1 Try.zero1 Try.agg2 Try.sz2 Try.byt2 Try.zero2 Try.agg3 Try.sz3 Try.byt3 Try.zero3 Try.agg4 Try.sz4 Try.byt4 Try.zero4 Try.agg5 Try.sz5 Try.byt5 Try.zero5 Try.agg6 Try.sz6 Try.byt6 Try.zero6 Try.agg7 Try.sz7 Try.byt7 Try.zero7 Try.agg8 Try.sz8 Try.byt8 Try.zero8 Try.agg9 Try.sz9 Try.byt9 Try.zero9 Try.agg10 Try.sz10 Try.byt10 Try.zero10 Try.agg11 Try.sz11 Try.byt11 Try.zero11 Try.agg12 Try.sz12 Try.byt12 Try.zero12 Try.agg13 Try.sz13 Try.byt13 Try.zero13 Try.agg14 Try.sz14 Try.byt14 Try.zero14 Try.agg15 Try.sz15 Try.byt15 Try.zero15 Try.agg16 Try.sz16 Try.byt16 Try.zero16 Try.agg17 Try.sz17 Try.byt17 Try.zero17 Try.agg18 Try.sz18 Try.byt18 Try.zero18 Try.agg19 Try.sz19 Try.byt19 Try.zero19 Try.agg20 Try.sz20 Try.byt20 Try.zero20 Try.agg21 Try.sz21 Try.byt21 Try.zero21 Try.agg22 Try.sz22 Try.byt22 Try.el22 Try.zero22 Try.agg23 Try.sz23 Try.byt23 Try.zero23 Try.agg24 Try.sz24 Try.byt24 Try.zero24 Try.agg25 Try.sz25 Try.byt25 Try.zero25 Try.agg26 Try.sz26 Try.byt26 Try.zero26 Try.agg27 Try.sz27 Try.byt27 Try.zero27 Try.agg28 Try.sz28 Try.byt28 Try.zero28 Try.agg29 Try.sz29 Try.byt29 Try.zero29 Try.agg30 Try.sz30 Try.byt30 Try.el30 Try.zero30 Try.agg31 Try.sz31 Try.byt31 Try.zero31 Try.agg32 Try.sz32 Try.byt32 Try.zero32 Try.agg33 Try.sz33 Try.byt33 Try.el33 Try.zero33 Try.agg35 Try.sz35 Try.byt35 Try.zero35 Try.agg36 Try.sz36 Try.byt36 Try.zero36 Try.agg37 Try.sz37 Try.byt37 Try.zero37 Try.agg38 Try.sz38 Try.byt38 Try.zero38 Try.agg40 Try.sz40 Try.byt40 Try.zero40 Try.agg41 Try.sz41 Try.byt41 Try.zero41 Try.agg42 Try.sz42 Try.byt42 Try.zero42 Try.agg43 Try.sz43 Try.byt43 Try.zero43 Try.agg44 Try.sz44 Try.byt44 Try.zero44 Try.agg45 Try.sz45 Try.byt45 Try.zero45 Try.agg46 Try.sz46 Try.byt46 Try.zero46 Try.agg47 Try.sz47 Try.byt47 Try.zero47 Try.agg48 Try.sz48 Try.byt48 Try.zero48 Try.agg49 Try.sz49 Try.byt49 Try.zero49 Try.agg50 Try.sz50 Try.byt50 Try.el50 Try.zero50 Try.agg51 Try.sz51 Try.byt51 Try.zero51 Try.agg52 Try.sz52 Try.byt52 Try.zero52 Try.agg53 Try.sz53 Try.byt53 Try.zero53 Try.agg54 Try.sz54 Try.byt54 Try.zero54 Try.agg56 Try.sz56 Try.byt56 Try.zero56 Try.agg57 Try.sz57 Try.byt57 Try.zero57 Try.agg58 Try.sz58 Try.byt58 Try.zero58 Try.agg60 Try.sz60 Try.byt60 Try.zero60 Try.agg61 Try.sz61 Try.byt61 Try.zero61 Try.agg62 Try.sz62 Try.byt62 Try.zero62 Try.agg63 Try.sz63 Try.byt63 Try.zero63 Try.agg64 Try.sz64 Try.byt64 Try.zero64 Try.agg65 Try.sz65 Try.byt65 Try.zero65 Try.agg66 Try.sz66 Try.byt66 Try.zero66 Try.agg67 Try.sz67 Try.byt67 Try.zero67 Try.agg68 Try.sz68 Try.byt68 Try.zero68 Try.agg69 Try.sz69 Try.byt69 Try.zero69 Try.agg70 Try.sz70 Try.byt70 Try.zero70 Try.agg71 Try.sz71 Try.byt71 Try.zero71 Try.agg72 Try.sz72 Try.byt72 Try.zero72 Try.agg73 Try.sz73 Try.byt73 Try.zero73 Try.agg74 Try.sz74 Try.byt74 Try.zero74 Try.agg75 Try.sz75 Try.byt75 Try.zero75 Try.agg76 Try.sz76 Try.byt76 Try.zero76 Try.agg77 Try.sz77 Try.byt77 Try.zero77 Try.body0 Try.body1 Try.body2 Try.body3 Try.body4 Try.body5 Try.body6 Try.body7 Try.body8 Try.body9 Try.body10 Try.body11 Try.body12 Try.body13 Try.body14 Try.body15 Try.body16 Try.body17 Try.body18 Try.body19 Try.body20 Try.body21 Try.body22 Try.body23 Try.body24 Try.body25 Try.body26 Try.body27 Try.body28 Try.body29 Try.body30 Try.body31 Try.body32 Try.body33 Try.body34 Try.body35 Try.body36 Try.body37 Try.body38 Try.body39 Try.body40 Try.body41 Try.body42 Try.body43 Try.body44 Try.body45 Try.body46 Try.body47 Try.body48 Try.body49 Try.body50 Try.body51 Try.build7 Try.build8 Try.build13 Try.build14 Try.build18 Try.build19 Try.bsl22 Try.build27 Try.build28 Try.bsl30 Try.bsl33 Try.bsl50 Try.build51 Try.build52 Try.build64 Try.build65 Try.build67 Try.build68 Try.build76 Try.build77 Try.underlying1 Try.underlying2 Try.underlying3 Try.underlying4 Try.underlying5 Try.underlying6 Try.underlying7 Try.underlying8 Try.underlying9 Try.underlying10 Try.underlying11 Try.underlying12 Try.underlying13 Try.underlying14 Try.underlying15 Try.underlying16 Try.underlying17 Try.underlying18 Try.underlying19 Try.underlying20 Try.underlying21 Try.underlying22 Try.underlying23 Try.underlying24 Try.underlying25 Try.underlying26 Try.underlying27 Try.underlying28 Try.underlying29 Try.underlying30 Try.underlying31 Try.underlying32 Try.underlying33 Try.underlying35 Try.underlying36 Try.underlying37 Try.underlying38 Try.underlying40 Try.underlying41 Try.underlying42 Try.underlying43 Try.underlying44 Try.underlying45 Try.underlying46 Try.underlying47 Try.underlying48 Try.underlying49 Try.underlying50 Try.underlying51 Try.underlying52 Try.underlying53 Try.underlying54 Try.underlying56 Try.underlying57 Try.underlying58 Try.underlying60 Try.underlying61 Try.underlying62 Try.underlying63 Try.underlying64 Try.underlying65 Try.underlying66 Try.underlying67 Try.underlying68 Try.underlying69 Try.underlying70 Try.underlying71 Try.underlying72 Try.underlying73 Try.underlying74 Try.underlying75 Try.underlying76 Try.underlying77
theorem less_asymm : ∀ (a b : List UInt8), Op.bytesLess a b = true → Op.bytesLess b a = false
  | [], [], h => by cases h
  | [], _ :: _, _ => rfl
  | _ :: _, [], h => by cases h
  | x :: a, y :: b, h => by
    unfold Op.bytesLess at h ⊢
    by_cases h1 : x < y
    · have h2 : ¬ y < x := fun h2 => UInt8.lt_irrefl x (UInt8.lt_trans h1 h2)
      have h3 : ¬ y = x := fun e => by subst e; exact UInt8.lt_irrefl y h1
      simp [h2, h3]
    · simp [h1] at h
      obtain ⟨rfl, h⟩ := h
      simp [h1, less_asymm a b h]
theorem less_irrefl (a : List UInt8) : Op.bytesLess a a = false := by
  cases h : Op.bytesLess a a with
  | false => rfl
  | true => have := less_asymm a a h; rw [h] at this; exact this
theorem chk_zero {l : List FileT} (h : chkE l = 0) : l.length ≤ 12 ∧ l.any longB = false ∧ upL l = true := by
  unfold chkE at h
  split at h
  · cases h
  · rename_i h1
    split at h
    · rename_i h2
      refine ⟨by omega, ?_, h2⟩
      cases hb : l.any longB with
      | false => rfl
      | true => exact absurd (.inr hb) h1
    · cases h
theorem chk_of {l : List FileT} (h1 : l.length ≤ 12) (h2 : l.any longB = false) (h3 : upL l = true) : chkE l = 0 := by
  unfold chkE; rw [if_neg (by rw [h2]; simp; omega), if_pos h3]
theorem chk_110 {l : List FileT} (h1 : l.length ≤ 12) (h2 : l.any longB = false) {j : Nat} (h0 : 0 < j) (hj : j < l.length) (h3 : lessS (nmA l (j - 1)) (nmA l j) = false) : chkE l = 110 := by
  unfold chkE; rw [if_neg (by rw [h2]; simp; omega), if_neg]
  intro h
  have := (upL_iff l).1 h j h0 hj
  rw [h3] at this; cases this
theorem any_sub {l m : List FileT} (h : l.any longB = false) (hs : ∀ f ∈ m, f ∈ l) : m.any longB = false := by
  rw [List.any_eq_false] at h ⊢
  exact fun f hf => h f (hs f hf)
/-- Two neighbours turned. -/
def swapL (l : List FileT) (i : Nat) (x y : FileT) : List FileT := (l.set i y).set (i + 1) x
theorem swap_chk {l : List FileT} {i : Nat} {x y : FileT} (h : chkE l = 0) (hx : l[i]? = some x) (hy : l[i + 1]? = some y) : chkE (swapL l i x y) = 110 := by
  obtain ⟨h1, h2, h3⟩ := chk_zero h
  have hi : i + 1 < l.length := (List.getElem?_eq_some_iff.1 hy).1
  refine chk_110 (by simp [swapL]; exact h1) (any_sub h2 ?_) (Nat.succ_pos i) (by simp [swapL]; exact hi) ?_
  · intro f hf
    rcases List.mem_or_eq_of_mem_set hf with hf | rfl
    · rcases List.mem_or_eq_of_mem_set hf with hf | rfl
      · exact hf
      · exact List.mem_of_getElem? hy
    · exact List.mem_of_getElem? hx
  · have e1 : nmA (swapL l i x y) i = y.1 := nmA_at (by simp only [swapL]; rw [List.getElem?_set_ne (by omega), List.getElem?_set_self (by omega)])
    have e2 : nmA (swapL l i x y) (i + 1) = x.1 := nmA_at (by simp only [swapL]; rw [List.getElem?_set_self (by simp; omega)])
    have e3 := (upL_iff l).1 h3 (i + 1) (by omega) hi
    rw [show i + 1 - 1 = i by omega, nmA_at hx, nmA_at hy] at e3
    rw [show i + 1 - 1 = i by omega, e1, e2]
    exact less_asymm _ _ e3
theorem twice_chk {l : List FileT} {i : Nat} {x : FileT} (h : chkE l = 0) (hl : l.length ≤ 11) (hx : l[i]? = some x) : chkE (l.take (i + 1) ++ l.drop i) = 110 := by
  obtain ⟨h1, h2, h3⟩ := chk_zero h
  have hi : i < l.length := (List.getElem?_eq_some_iff.1 hx).1
  have hlt : (l.take (i + 1)).length = i + 1 := by rw [List.length_take]; omega
  refine chk_110 (by rw [List.length_append, hlt, List.length_drop]; omega) (any_sub h2 ?_) (Nat.succ_pos i) (by rw [List.length_append, hlt, List.length_drop]; omega) ?_
  · intro f hf
    rcases List.mem_append.1 hf with hf | hf
    · exact List.mem_of_mem_take hf
    · exact List.mem_of_mem_drop hf
  · have e1 : nmA (l.take (i + 1) ++ l.drop i) i = x.1 := nmA_at (by rw [List.getElem?_append_left (by omega), List.getElem?_take, if_pos (by omega)]; exact hx)
    have e2 : nmA (l.take (i + 1) ++ l.drop i) (i + 1) = x.1 := nmA_at (by rw [List.getElem?_append_right (by omega), hlt, Nat.sub_self, List.getElem?_drop]; exact hx)
    rw [show i + 1 - 1 = i by omega, e1, e2]
    exact less_irrefl _
theorem pre_chk {l : List FileT} {i : Nat} (h : chkE l = 0) (hi : i ≤ l.length) : chkE (l.take i) = 0 := by
  obtain ⟨h1, h2, h3⟩ := chk_zero h
  refine chk_of (by rw [List.length_take]; omega) (any_sub h2 fun f hf => List.mem_of_mem_take hf) ((upL_iff _).2 fun j h0 hj => ?_)
  rw [List.length_take] at hj
  have := (upL_iff l).1 h3 j h0 (by omega)
  have e : ∀ k, k < i → nmA (l.take i) k = nmA l k := fun k hk => by unfold nmA; rw [List.getD_eq_getElem?_getD, List.getD_eq_getElem?_getD, List.getElem?_take, if_pos hk]
  rw [e _ (by omega), e _ (by omega)]; exact this
theorem flat_take {α : Type} {encE : α → List Value} {sz : Nat} (hlen : ∀ y, (encE y).length = sz) (l : List α) (k : Nat) (hk : k ≤ l.length) : (l.flatMap encE).take (k * sz) = (l.take k).flatMap encE := by
  have h1 : ((l.take k).flatMap encE).length = k * sz := by rw [flatMap_len _ hlen, List.length_take, Nat.min_eq_left hk]
  have h2 : l.flatMap encE = (l.take k).flatMap encE ++ (l.drop k).flatMap encE := by rw [← List.flatMap_append, List.take_append_drop]
  rw [h2, ← h1, List.take_left]
theorem flat_drop {α : Type} {encE : α → List Value} {sz : Nat} (hlen : ∀ y, (encE y).length = sz) (l : List α) (k : Nat) (hk : k ≤ l.length) : (l.flatMap encE).drop (k * sz) = (l.drop k).flatMap encE := by
  have h1 : ((l.take k).flatMap encE).length = k * sz := by rw [flatMap_len _ hlen, List.length_take, Nat.min_eq_left hk]
  have h2 : l.flatMap encE = (l.take k).flatMap encE ++ (l.drop k).flatMap encE := by rw [← List.flatMap_append, List.take_append_drop]
  rw [h2, ← h1, List.drop_left]
set_option maxHeartbeats 8000000 in
theorem order_all (w0 : World) (A : St) (v : Value) (l : List FileT) (g : Int) (hv : View A 2 (l.flatMap flC) l.length v) (hok : ∀ f ∈ l, flOk f) (hsl : SlOk 2 v) (hg : 0 ≤ g ∧ g ≤ 255) : ACalls Try.prog w0 3 #[v, .int .u8 g] A (fin (.bool true) A) := by
  refine call_E Try.enters3 Try.func3 rfl (Nat.le_of_ble_eq_true rfl) fun hw hbd => ?_
  have hlen := View.lenU (e := 28) hv
  simp (maxSteps := 1000000) (disch := (first | omega | (simp only [nx_alloc, nx_upd, len_cons, len_nil, List.length_set, List.length_map, List.length_append] <;> omega) | fail)) only [Nat.reduceAdd, Nat.reduceSub, Nat.reduceMul, Nat.reduceLT, Nat.reduceLeDiff, Nat.reduceEqDiff, ↓reduceIte, reduceCtorEq, Int.reduceAdd, Int.reduceSub, Int.reduceMul, Int.reduceLT, Int.reduceLE, Int.reduceEq, Int.reduceNe, Int.reduceToNat, Int.reduceNeg, go_sem, Try.ntmps3, Try.results3]
  refine call1 (heavy_ok w0 A l v hv) ?_
  cases hh : heavyB l
  rotate_left
  · simp (maxSteps := 1000000) (disch := (first | omega | (simp only [nx_alloc, nx_upd, len_cons, len_nil, List.length_set, List.length_map, List.length_append] <;> omega) | fail)) only [Nat.reduceAdd, Nat.reduceSub, Nat.reduceMul, Nat.reduceLT, Nat.reduceLeDiff, Nat.reduceEqDiff, ↓reduceIte, reduceCtorEq, Int.reduceAdd, Int.reduceSub, Int.reduceMul, Int.reduceLT, Int.reduceLE, Int.reduceEq, Int.reduceNe, Int.reduceToNat, Int.reduceNeg, go_sem]
    refine call1 (shown_ok w0 A) ?_
    simp (maxSteps := 1000000) (disch := (first | omega | (simp only [nx_alloc, nx_upd, len_cons, len_nil, List.length_set, List.length_map, List.length_append] <;> omega) | fail)) only [Nat.reduceAdd, Nat.reduceSub, Nat.reduceMul, Nat.reduceLT, Nat.reduceLeDiff, Nat.reduceEqDiff, ↓reduceIte, reduceCtorEq, Int.reduceAdd, Int.reduceSub, Int.reduceMul, Int.reduceLT, Int.reduceLE, Int.reduceEq, Int.reduceNe, Int.reduceToNat, Int.reduceNeg, go_sem, Try.results3]
    exact gc_fin' hw (Over.refl _) rfl (.bool _)
  have hl30 := heavyB_len hh
  simp (maxSteps := 1000000) (disch := (first | omega | (simp only [nx_alloc, nx_upd, len_cons, len_nil, List.length_set, List.length_map, List.length_append] <;> omega) | fail)) only [Nat.reduceAdd, Nat.reduceSub, Nat.reduceMul, Nat.reduceLT, Nat.reduceLeDiff, Nat.reduceEqDiff, ↓reduceIte, reduceCtorEq, Int.reduceAdd, Int.reduceSub, Int.reduceMul, Int.reduceLT, Int.reduceLE, Int.reduceEq, Int.reduceNe, Int.reduceToNat, Int.reduceNeg, go_sem]
  refine call1 (shown_ok w0 A) ?_
  simp (maxSteps := 1000000) (disch := (first | omega | (simp only [nx_alloc, nx_upd, len_cons, len_nil, List.length_set, List.length_map, List.length_append] <;> omega) | fail)) only [Nat.reduceAdd, Nat.reduceSub, Nat.reduceMul, Nat.reduceLT, Nat.reduceLeDiff, Nat.reduceEqDiff, ↓reduceIte, reduceCtorEq, Int.reduceAdd, Int.reduceSub, Int.reduceMul, Int.reduceLT, Int.reduceLE, Int.reduceEq, Int.reduceNe, Int.reduceToNat, Int.reduceNeg, go_sem]
  refine call1 (Check_ok w0 A l v hv (by omega)) ?_
  by_cases hce : chkE l = 0
  rotate_left
  · simp (maxSteps := 1000000) (disch := (first | omega | (simp only [nx_alloc, nx_upd, len_cons, len_nil, List.length_set, List.length_map, List.length_append] <;> omega) | fail)) only [Nat.reduceAdd, Nat.reduceSub, Nat.reduceMul, Nat.reduceLT, Nat.reduceLeDiff, Nat.reduceEqDiff, ↓reduceIte, reduceCtorEq, Int.reduceAdd, Int.reduceSub, Int.reduceMul, Int.reduceLT, Int.reduceLE, Int.reduceEq, Int.reduceNe, Int.reduceToNat, Int.reduceNeg, go_sem, hce, Try.results3]
    exact gc_fin' hw (Over.refl _) rfl (.bool _)
  by_cases h2 : l.length < 2
  · have h2' : ((l.length : Int) < 2) := by omega
    simp (maxSteps := 1000000) (disch := (first | omega | (simp only [nx_alloc, nx_upd, len_cons, len_nil, List.length_set, List.length_map, List.length_append] <;> omega) | fail)) only [Nat.reduceAdd, Nat.reduceSub, Nat.reduceMul, Nat.reduceLT, Nat.reduceLeDiff, Nat.reduceEqDiff, ↓reduceIte, reduceCtorEq, Int.reduceAdd, Int.reduceSub, Int.reduceMul, Int.reduceLT, Int.reduceLE, Int.reduceEq, Int.reduceNe, Int.reduceToNat, Int.reduceNeg, go_sem, hce, hlen, Try.results3]
    exact gc_fin' hw (Over.refl _) rfl (.bool _)
  have h2' : ¬ ((l.length : Int) < 2) := by omega
  by_cases h11 : l.length > 11
  · have h11' : ((l.length : Int) > 11) := by omega
    simp (maxSteps := 1000000) (disch := (first | omega | (simp only [nx_alloc, nx_upd, len_cons, len_nil, List.length_set, List.length_map, List.length_append] <;> omega) | fail)) only [Nat.reduceAdd, Nat.reduceSub, Nat.reduceMul, Nat.reduceLT, Nat.reduceLeDiff, Nat.reduceEqDiff, ↓reduceIte, reduceCtorEq, Int.reduceAdd, Int.reduceSub, Int.reduceMul, Int.reduceLT, Int.reduceLE, Int.reduceEq, Int.reduceNe, Int.reduceToNat, Int.reduceNeg, go_sem, hce, hlen, Try.results3]
    exact gc_fin' hw (Over.refl _) rfl (.bool _)
  have h11' : ¬ ((l.length : Int) > 11) := by omega
  obtain ⟨g, rfl⟩ := Int.eq_ofNat_of_zero_le hg.1
  have hsub : (l.length : Int) - 1 = ((l.length - 1 : Nat) : Int) := by omega
  have hmod : ((g : Int).tmod ((l.length - 1 : Nat) : Int)) = ((g % (l.length - 1) : Nat) : Int) := rfl
  have hi : g % (l.length - 1) < l.length - 1 := Nat.mod_lt _ (by omega)
  have hnz : ¬ (((l.length - 1 : Nat) : Int) = 0) := by omega
  simp (maxSteps := 1000000) (disch := (first | omega | (simp only [nx_alloc, nx_upd, len_cons, len_nil, List.length_set, List.length_map, List.length_append] <;> omega) | fail)) only [Nat.reduceAdd, Nat.reduceSub, Nat.reduceMul, Nat.reduceLT, Nat.reduceLeDiff, Nat.reduceEqDiff, ↓reduceIte, reduceCtorEq, Int.reduceAdd, Int.reduceSub, Int.reduceMul, Int.reduceLT, Int.reduceLE, Int.reduceEq, Int.reduceNe, Int.reduceToNat, Int.reduceNeg, go_sem, hce, hlen, hsub, hmod]
  generalize g % (l.length - 1) = i at hi
  have hadd : (i : Int) + 1 = ((i + 1 : Nat) : Int) := rfl
  have ov0 : Over A (A.alloc (.cells [] 28 (some 0))) := (Over.refl A).alloc _
  have hr0 : Row (A.alloc (.cells [] 28 (some 0))) 28 2 A.next [] 0 (.slice (some ⟨A.next, 0, none⟩) 0 0) := ⟨rfl, .inr ⟨A.next, none, rfl, .inl rfl, Nat.le_refl _, by (try simp (disch := (first | omega | (simp only [nx_alloc, nx_upd, len_cons, len_nil, List.length_set, List.length_map, List.length_append] <;> omega) | fail)) only [St.get_upd, St.get_alloc, St.next_alloc, St.next_upd, ↓reduceIte, natF_lt, natF_gt, natF_ne, Nat.add_assoc, Nat.reduceAdd, Nat.reduceEqDiff, Nat.add_left_cancel_iff]); omega, by simp (disch := (first | omega | (simp only [nx_alloc, nx_upd, len_cons, len_nil, List.length_set, List.length_map, List.length_append] <;> omega) | fail)) only [St.get_upd, St.get_alloc, St.next_alloc, St.next_upd, ↓reduceIte, natF_lt, natF_gt, natF_ne, Nat.add_assoc, Nat.reduceAdd, Nat.reduceEqDiff, Nat.add_left_cancel_iff]⟩⟩
  have hcell : ∀ m : List FileT, (m.flatMap flC).all cell1 = true := fun m => by
    rw [List.all_eq_true]; intro x hx
    obtain ⟨f, _, hf⟩ := List.mem_flatMap.1 hx
    simp [flC] at hf; rcases hf with rfl | rfl <;> rfl
  obtain ⟨v1, A1, hap1, hr1, hn1, hf1⟩ := row_app (P := Try.prog) (A := A.alloc (.cells [] 28 (some 0))) (x := v) (m := l.length) (new := l.flatMap flC) Try.el22 Try.underlying22 (by intro k; exact TypeDesc.noConfusion) Try.sz28 Try.byt28 Try.zero28 rfl hr0 (by (try simp (disch := (first | omega | (simp only [nx_alloc, nx_upd, len_cons, len_nil, List.length_set, List.length_map, List.length_append] <;> omega) | fail)) only [St.get_upd, St.get_alloc, St.next_alloc, St.next_upd, ↓reduceIte, natF_lt, natF_gt, natF_ne, Nat.add_assoc, Nat.reduceAdd, Nat.reduceEqDiff, Nat.add_left_cancel_iff]); omega) (View.over hv ov0) (by omega) (by omega) (hcell l)
  rw [List.nil_append, Nat.zero_add] at hr1
  have ov1 : Over A A1 := ⟨by simp only [nx_alloc] at hn1; omega, fun b hb => by
    rw [hf1 b (by simp only [nx_alloc]; omega) (fun e => by simp only [rowB, Option.some.injEq] at e; omega), get_alloc_old hb]⟩
  obtain ⟨b, hb1, hb2, hb3, hb4, hb5, hb6, hb7, hb8⟩ := Row.own (P := Try.prog) hr1 flC_len Try.sz28 (by omega)
  obtain ⟨⟨x1, x2⟩, hx⟩ : ∃ x, l[i]? = some x := ⟨_, List.getElem?_eq_getElem (by omega)⟩
  obtain ⟨⟨y1, y2⟩, hy⟩ : ∃ x, l[i + 1]? = some x := ⟨_, List.getElem?_eq_getElem (by omega)⟩
  have hix := hb5 .i64 i (by omega)
  have hiy := hb5 .i64 (i + 1) (by omega)
  have hlx := hb6 i _ hx
  have hly := hb6 (i + 1) _ hy
  have hst1 := hb7 i (y1, y2) (by omega) rfl
  -- the second store, on the row that the first has turned
  obtain ⟨A2, hA2⟩ : ∃ A2, A2 = A1.upd b (some (.cells ((l.set i (y1, y2)).flatMap flC) 28 (some 0))) := ⟨_, rfl⟩
  have hn2 : A2.next = A1.next := by rw [hA2]; rfl
  have hg2 : A2.get b = some (.cells ((l.set i (y1, y2)).flatMap flC) 28 (some 0)) := by rw [hA2]; exact get_upd_same ..
  have hr2 := hb8 A2 (l.set i (y1, y2)) (by simp) hg2 (by omega)
  obtain ⟨c, hc1, hc2, hc3, hc4, hc5, hc6, hc7, hc8⟩ := Row.own (P := Try.prog) hr2 flC_len Try.sz28 (by rw [List.length_set]; omega)
  obtain rfl : b = c := Option.some.inj (hb1.symm.trans hc1)
  have hst2 := hc7 (i + 1) (x1, x2) (by simp; omega) rfl
  obtain ⟨A3, hA3⟩ : ∃ A3, A3 = A2.upd b (some (.cells ((swapL l i (x1, x2) (y1, y2)).flatMap flC) 28 (some 0))) := ⟨_, rfl⟩
  have hn3 : A3.next = A1.next := by rw [hA3]; exact hn2
  have hg3 : A3.get b = some (.cells ((swapL l i (x1, x2) (y1, y2)).flatMap flC) 28 (some 0)) := by rw [hA3]; exact get_upd_same ..
  have hr3 := hc8 A3 (swapL l i (x1, x2) (y1, y2)) (by simp [swapL]) hg3 (by omega)
  have ov3 : Over A A3 := ⟨by have := ov1.next; omega, fun q hq => by rw [hA3, St.get_upd, if_neg (by omega), hA2, St.get_upd, if_neg (by omega)]; exact ov1.get q hq⟩
  rw [← hA2] at hst1
  simp only [swapL] at hA3
  rw [← hA3] at hst2
  simp only [flC] at hlx hly hst1 hst2
  rw [hap1]
  simp (maxSteps := 1000000) (disch := (first | omega | (simp only [nx_alloc, nx_upd, len_cons, len_nil, List.length_set, List.length_map, List.length_append] <;> omega) | fail)) only [Nat.reduceAdd, Nat.reduceSub, Nat.reduceMul, Nat.reduceLT, Nat.reduceLeDiff, Nat.reduceEqDiff, ↓reduceIte, reduceCtorEq, Int.reduceAdd, Int.reduceSub, Int.reduceMul, Int.reduceLT, Int.reduceLE, Int.reduceEq, Int.reduceNe, Int.reduceToNat, Int.reduceNeg, go_sem]
  refine aw_draw2 [⟨false, [], [0]⟩, ⟨false, [], [0]⟩, ⟨false, [], [0, 1]⟩, ⟨false, [], [0, 1]⟩, ⟨false, [3], [0, 1]⟩, ⟨false, [], [0]⟩, ⟨false, [], [0]⟩, ⟨false, [6], [0]⟩, ⟨false, [5, 6, 7], [0]⟩, ⟨false, [5, 6, 7, 8], [0]⟩, ⟨false, [], [0]⟩, ⟨false, [], [0]⟩, ⟨false, [10, 11], [0]⟩, ⟨false, [10, 11, 12], [0]⟩, ⟨false, [0, 1, 5, 6, 7, 8, 9, 10, 11, 12, 13], [0]⟩, ⟨true, [0, 1, 5, 6, 7, 8, 9, 10, 11, 12, 13, 14], [0]⟩, ⟨false, [0, 1, 2, 3, 4, 5, 6, 7, 8, 9, 10, 11, 12, 13, 14, 15], [1]⟩, ⟨true, [0, 1, 2, 3, 4, 5, 6, 7, 8, 9, 10, 11, 12, 13, 14, 15, 16], [1]⟩] [A1, A2, A3] 2 (by kernel_rfl) (by kernel_rfl) rfl ?_
  simp (maxSteps := 1000000) (disch := (first | omega | (simp only [nx_alloc, nx_upd, len_cons, len_nil, List.length_set, List.length_map, List.length_append] <;> omega) | fail)) only [Nat.reduceAdd, Nat.reduceSub, Nat.reduceMul, Nat.reduceLT, Nat.reduceLeDiff, Nat.reduceEqDiff, ↓reduceIte, reduceCtorEq, Int.reduceAdd, Int.reduceSub, Int.reduceMul, Int.reduceLT, Int.reduceLE, Int.reduceEq, Int.reduceNe, Int.reduceToNat, Int.reduceNeg, go_sem, hadd, hix, hiy, hb4, hlx, hly, hst1, hg2, hst2]
  have hi1 : (l.take (i + 1)).length = i + 1 := by rw [List.length_take]; omega
  have hdl : (l.drop i).length = l.length - i := List.length_drop
  obtain ⟨vp, hsp, hvp, _, _⟩ := View.pre (P := Try.prog) (e := 28) (ik := .i64) (k := i + 1) hv hsl Try.sz28 (by decide) (by omega)
  obtain ⟨vs, hss, hvs, _, _⟩ := View.suf (P := Try.prog) (e := 28) (ik := .i64) (k := i) hv hsl Try.sz28 (by decide) (by omega)
  obtain ⟨vq, hsq, hvq, _, _⟩ := View.pre (P := Try.prog) (e := 28) (ik := .i64) (k := i) hv hsl Try.sz28 (by decide) (by omega)
  rw [flat_take flC_len l (i + 1) (by omega)] at hvp
  rw [flat_drop flC_len l i (by omega)] at hvs
  rw [flat_take flC_len l i (by omega)] at hvq
  have ov4 : Over A3 (A3.alloc (.cells [] 28 (some 0))) := (Over.refl A3).alloc _
  have hr4 : Row (A3.alloc (.cells [] 28 (some 0))) 28 2 A3.next [] 0 (.slice (some ⟨A3.next, 0, none⟩) 0 0) := ⟨rfl, .inr ⟨A3.next, none, rfl, .inl rfl, Nat.le_refl _, by (try simp (disch := (first | omega | (simp only [nx_alloc, nx_upd, len_cons, len_nil, List.length_set, List.length_map, List.length_append] <;> omega) | fail)) only [St.get_upd, St.get_alloc, St.next_alloc, St.next_upd, ↓reduceIte, natF_lt, natF_gt, natF_ne, Nat.add_assoc, Nat.reduceAdd, Nat.reduceEqDiff, Nat.add_left_cancel_iff]); omega, by simp (disch := (first | omega | (simp only [nx_alloc, nx_upd, len_cons, len_nil, List.length_set, List.length_map, List.length_append] <;> omega) | fail)) only [St.get_upd, St.get_alloc, St.next_alloc, St.next_upd, ↓reduceIte, natF_lt, natF_gt, natF_ne, Nat.add_assoc, Nat.reduceAdd, Nat.reduceEqDiff, Nat.add_left_cancel_iff]⟩⟩
  obtain ⟨v4, A4, hap4, hr4', hn4, hf4⟩ := row_app (P := Try.prog) (A := A3.alloc (.cells [] 28 (some 0))) (x := vp) (m := i + 1) (new := (l.take (i + 1)).flatMap flC) Try.el22 Try.underlying22 (by intro k; exact TypeDesc.noConfusion) Try.sz28 Try.byt28 Try.zero28 rfl hr4 (by (try simp (disch := (first | omega | (simp only [nx_alloc, nx_upd, len_cons, len_nil, List.length_set, List.length_map, List.length_append] <;> omega) | fail)) only [St.get_upd, St.get_alloc, St.next_alloc, St.next_upd, ↓reduceIte, natF_lt, natF_gt, natF_ne, Nat.add_assoc, Nat.reduceAdd, Nat.reduceEqDiff, Nat.add_left_cancel_iff]); omega) (View.over (View.over hvp ov3) ov4) (by omega) (by omega) (hcell _)
  rw [List.nil_append, Nat.zero_add] at hr4'
  simp only [nx_alloc] at hn4 hf4
  have ov34 : Over A3 A4 := ⟨by omega, fun q hq => by
    rw [hf4 q (by omega) (fun e => by simp only [rowB, Option.some.injEq] at e; omega), get_alloc_old hq]⟩
  obtain ⟨v5, A5, hap5, hr5, hn5, hf5⟩ := row_app (P := Try.prog) (A := A4) (x := vs) (m := l.length - i) (new := (l.drop i).flatMap flC) Try.el22 Try.underlying22 (by intro k; exact TypeDesc.noConfusion) Try.sz28 Try.byt28 Try.zero28 rfl hr4' (by omega) (View.over (View.over hvs ov3) ov34) (by omega) (by omega) (hcell _)
  have ov45 : Over A3 A5 := ⟨by omega, fun q hq => by
    rw [hf5 q (by omega) (fun e => by have := (Row.rb hr4' _ e).1; omega)]; exact ov34.get q hq⟩
  refine aw_draw2 [⟨true, [], [0]⟩, ⟨false, [], [0, 1]⟩, ⟨false, [], [0, 1]⟩, ⟨false, [2], [0, 1]⟩, ⟨false, [1, 2, 3], [0, 1]⟩, ⟨true, [0, 1, 2, 3, 4], [1]⟩, ⟨false, [], [0, 1, 2]⟩, ⟨false, [], [0, 1, 2]⟩, ⟨false, [6, 7], [0, 1, 2]⟩, ⟨true, [0, 1, 2, 3, 4, 5, 6, 7, 8], [2]⟩, ⟨false, [0, 1, 2, 3, 4, 5, 6, 7, 8, 9], [3]⟩] [A3, A3.alloc (.cells [] 28 (some 0)), A4, A5] 3 (by kernel_rfl) (by kernel_rfl) rfl ?_
  simp (maxSteps := 1000000) (disch := (first | omega | (simp only [nx_alloc, nx_upd, len_cons, len_nil, List.length_set, List.length_map, List.length_append] <;> omega) | fail)) only [Nat.reduceAdd, Nat.reduceSub, Nat.reduceMul, Nat.reduceLT, Nat.reduceLeDiff, Nat.reduceEqDiff, ↓reduceIte, reduceCtorEq, Int.reduceAdd, Int.reduceSub, Int.reduceMul, Int.reduceLT, Int.reduceLE, Int.reduceEq, Int.reduceNe, Int.reduceToNat, Int.reduceNeg, go_sem, hadd, hsp, hss, hap4, hap5]
  have hvx : FlView A5 (swapL l i (x1, x2) (y1, y2)) v1 := View.over (Row.view hr3) ov45
  have hsw : (swapL l i (x1, x2) (y1, y2)).length = l.length := by simp [swapL]
  refine call1 (Check_ok w0 A5 _ v1 hvx (by omega)) ?_
  rw [swap_chk hce hx hy]
  simp (maxSteps := 1000000) (disch := (first | omega | (simp only [nx_alloc, nx_upd, len_cons, len_nil, List.length_set, List.length_map, List.length_append] <;> omega) | fail)) only [Nat.reduceAdd, Nat.reduceSub, Nat.reduceMul, Nat.reduceLT, Nat.reduceLeDiff, Nat.reduceEqDiff, ↓reduceIte, reduceCtorEq, Int.reduceAdd, Int.reduceSub, Int.reduceMul, Int.reduceLT, Int.reduceLE, Int.reduceEq, Int.reduceNe, Int.reduceToNat, Int.reduceNeg, go_sem]
  have hvy : FlView A5 (l.take (i + 1) ++ l.drop i) v5 := by
    have := Row.view hr5
    unfold FlView
    rw [List.flatMap_append, List.length_append, hi1, hdl]; exact this
  refine call1 (Check_ok w0 A5 _ v5 hvy (by rw [List.length_append]; omega)) ?_
  rw [twice_chk hce (by omega) hx]
  simp (maxSteps := 1000000) (disch := (first | omega | (simp only [nx_alloc, nx_upd, len_cons, len_nil, List.length_set, List.length_map, List.length_append] <;> omega) | fail)) only [Nat.reduceAdd, Nat.reduceSub, Nat.reduceMul, Nat.reduceLT, Nat.reduceLeDiff, Nat.reduceEqDiff, ↓reduceIte, reduceCtorEq, Int.reduceAdd, Int.reduceSub, Int.reduceMul, Int.reduceLT, Int.reduceLE, Int.reduceEq, Int.reduceNe, Int.reduceToNat, Int.reduceNeg, go_sem, hsq]
  have hvz : FlView A5 (l.take i) vq := by
    have := View.over (View.over hvq ov3) ov45
    unfold FlView
    rw [show (l.take i).length = i by rw [List.length_take]; omega]; exact this
  refine call1 (Check_ok w0 A5 _ vq hvz (by rw [List.length_take]; omega)) ?_
  rw [pre_chk hce (by omega)]
  simp (maxSteps := 1000000) (disch := (first | omega | (simp only [nx_alloc, nx_upd, len_cons, len_nil, List.length_set, List.length_map, List.length_append] <;> omega) | fail)) only [Nat.reduceAdd, Nat.reduceSub, Nat.reduceMul, Nat.reduceLT, Nat.reduceLeDiff, Nat.reduceEqDiff, ↓reduceIte, reduceCtorEq, Int.reduceAdd, Int.reduceSub, Int.reduceMul, Int.reduceLT, Int.reduceLE, Int.reduceEq, Int.reduceNe, Int.reduceToNat, Int.reduceNeg, go_sem, Try.results3]
  exact gc_fin' hw (ov3.trans ov45) rfl (.bool _)
end Go.Fw
