import Derived.Test.YtbiebjcnkjbakaaFwM
set_option linter.unusedSimpArgs false
set_option linter.unusedVariables false
namespace Go.Fw
open Go.Proofs Go.RowKit
attribute [local go_sem] List.length_cons List.length_nil Nat.zero_add Nat.add_zero Nat.zero_mul Nat.mul_one Int.toNat_zero Int.toNat_natCast List.map_cons List.map_nil List.map_toArray List.toList_toArray List.append_toArray List.append_eq List.nil_append List.cons_append List.append_nil List.all_toArray List.all_cons List.all_nil Bool.and_true Bool.true_and Bool.and_self List.getElem?_toArray List.getElem?_cons_zero List.getElem?_cons_succ List.set_cons_zero List.set_cons_succ List.drop_zero List.drop_succ_cons List.take_zero List.take_succ_cons Option.bind_some Option.map_some id true_and and_true and_self St.next_alloc St.next_upd beq_self_eq_true Bool.not_true Bool.not_false Bool.false_eq_true false_implies true_implies Option.isNone_none Option.isNone_some Option.isSome_none Option.isSome_some ge_iff_le gt_iff_lt Nat.sub_zero Nat.add_assoc IntWalk.i64_in IntWalk.u64_in IntWalk.u8_in IntWalk.u32_in IntWalk.i32_in IntWalk.u16_in dec_not Bool.not_eq_true decide_true decide_false ne_eq not_true_eq_false not_false_eq_true Bool.true_or Bool.or_true Bool.or_false Bool.false_or Bool.and_false Bool.false_and upd_apply rd_eq ar_zero ar_succ ar_nil tm_size tm_getD tm_set E_tmps E_defers put_E put_none eval_tmp eval_const eval_func setArgs_0 setArgs_1 setArgs_2 append_lit stepV_some stepA_some guardO_true ifB_true ifB_false wantV_true wantV_false wantV_dec_t wantV_dec_f ifB_dec_t ifB_dec_f condV_bool dec_and dec_or isB_bool someB_t someB_f okO_tmp okO_func okO_int okO_bool okO_string okO_ptr0 okO_slice0 okO_nilFunc okO_nilIface okO_map0 okO_agg wanted_none wanted_some lookT_some aopsL_nil aopsL_cons wpA_skip wpA_label wpA_exit wpA_goto wpA_ret wpA_seq wpA_block wpA_region wpA_cond wpA_loop wpA_rangeFunc wpA_draw thenQ_normal thenQ_exit thenQ_ret thenQ_panic blockQ_normal blockQ_ret blockQ_panic blockQ_exit funQ_ret funQ_normal funQ_panic op_move op_assign pickV_or pickV_and pickV_t pickV_f pickV_true pickV_false op_pick allocV_some op_alloc op_box op_load op_nilCheck op_bin op_un op_convert op_makeInterface op_makeSlice op_fieldAddr op_field op_indexAddr op_index op_extract op_typeAssert storeV_some op_store op_slice00 op_slice10 op_slice01 op_slice11 op_slice111 op_slice011 op_makeFunc callV_true op_call op_builtin panicV_iface op_panic ACallV_func ACallV_yield afterCall_returned afterCall_panicked bin_add bin_sub bin_mul bin_and bin_or bin_xor bin_andNot bin_eql bin_neq bin_lss bin_leq bin_gtr bin_geq bin_quo bin_rem bin_shl bin_shr bin_sadd bin_seql bin_sneq bin_slss uB_bool bin_beql bin_bneq uP_pointer bin_peql bin_pneq uS_slice bin_leql bin_lneq bin_ieql bin_ineq un_neg un_xor un_not nilCheck_ptr nilCheck_func nilCheck_yield load_ptr loadC_one loadC_agg store_ptr slice_eq sliceU_string sliceU_slice sliceU_array sliceS_eq boundsS_some sliceL_eq boundsL_nil boundsL_exact boundsL_least boundsL_own boundsL_ownN bounds_11 bounds_10 bounds_01 bounds_00 builtin_len len_string len_array len_slice builtin_append builtin_copy pairA_some builtin_min builtin_max min_two max_two index_eq index_string index_array indexAddr_eq indexAddr_array indexAddr_slice fieldAddr_eq posO_some fAddr_some fieldAddr_struct partC_some field_eq field_struct part_eq partU_one partU_agg extract_tuple conv_eq conv_int conv_string u8O_u8 conv_bytes conv_text_nil conv_text_zero conv_text mkIface_eq get_upd_same consO_some finR_0 finR_1 finR_2 aresL_nil aresL_cons ares1_tmp ares1_cell retV_some aleave_nil aleave_coll bnd_int bnd_bool bnd_string bnd_nilIface bnd_slice0 bnd_iface bnd_slice bnd_ptr bnd_ptr0 bndL_nil bndL_cons bndA_lit bnd_tuple bnd_agg calm_same skipC_eq aopsC_nil aopsC_cons stepC_call stepC_move stepC_assign stepC_pick stepC_alloc stepC_box stepC_build stepC_buildSlice stepC_load stepC_store stepC_nilCheck stepC_binOp stepC_unOp stepC_convert stepC_makeInterface stepC_makeFunc stepC_makeSlice stepC_slice stepC_fieldAddr stepC_field stepC_indexAddr stepC_index stepC_extract stepC_typeAssert stepC_builtin to_same sameA_eq aopsX_nil aopsX_cons stepX_heavy stepX_light lightK_eq allC_nil allC_cons hs_zero hs_succ stepT_call pure_call stepT_move pure_move stepT_assign pure_assign stepT_pick pure_pick stepT_alloc pure_alloc stepT_box pure_box stepT_build pure_build stepT_buildSlice pure_buildSlice stepT_load pure_load stepT_store pure_store stepT_nilCheck pure_nilCheck stepT_binOp pure_binOp stepT_unOp pure_unOp stepT_convert pure_convert stepT_makeInterface pure_makeInterface stepT_makeFunc pure_makeFunc stepT_makeSlice pure_makeSlice stepT_slice pure_slice stepT_fieldAddr pure_fieldAddr stepT_field pure_field stepT_indexAddr pure_indexAddr stepT_index pure_index stepT_extract pure_extract stepT_typeAssert pure_typeAssert stepT_builtin pure_b_len pure_b_append pure_b_copy pure_b_min pure_b_max leaveK_eq aleave_fn op_defer deferV_func resK_some defQ_ret defQ_normal storeC_int storeC_bool storeC_string storeC_slice storeC_func storeC_pointer len_cons len_nil cells_int cells_bool cells_string cells_slice cells_pointer cells_func cells_map cells_nilFunc cells_agg cell1_bool cell1_string cell1_slice cell1_pointer cell1_func cell1_i cell1_map cell1_nilFunc setList_nil setList_cons storeC_aggS fillP_nil fillP_cons fillAt_1 fillAt_n aggO_some sliceO_some places_0 places_s zerosR_0 zerosR_s thenElse_true evP_nil evP_cons okP_nil okP_cons op_buildL op_buildSliceL mk_E get_alloc_old get_alloc_new get_upd_old Try.agg1 Try.sz1 Try.byt1 Try.zero1 Try.agg2 Try.sz2 Try.byt2 Try.zero2 Try.agg3 Try.sz3 Try.byt3 Try.zero3 Try.agg4 Try.sz4 Try.byt4 Try.zero4 Try.agg5 Try.sz5 Try.byt5 Try.zero5 Try.agg6 Try.sz6 Try.byt6 Try.zero6 Try.agg7 Try.sz7 Try.byt7 Try.zero7 Try.agg8 Try.sz8 Try.byt8 Try.zero8 Try.agg9 Try.sz9 Try.byt9 Try.zero9 Try.agg10 Try.sz10 Try.byt10 Try.zero10 Try.agg11 Try.sz11 Try.byt11 Try.zero11 Try.agg12 Try.sz12 Try.byt12 Try.zero12 Try.agg13 Try.sz13 Try.byt13 Try.zero13 Try.agg14 Try.sz14 Try.byt14 Try.zero14 Try.agg15 Try.sz15 Try.byt15 Try.zero15 Try.agg16 Try.sz16 Try.byt16 Try.zero16 Try.agg17 Try.sz17 Try.byt17 Try.zero17 Try.agg18 Try.sz18 Try.byt18 Try.zero18 Try.agg19 Try.sz19 Try.byt19 Try.zero19 Try.agg20 Try.sz20 Try.byt20 Try.zero20 Try.agg21 Try.sz21 Try.byt21 Try.zero21 Try.agg22 Try.sz22 Try.byt22 Try.el22 Try.zero22 Try.agg23 Try.sz23 Try.byt23 Try.zero23 Try.agg24 Try.sz24 Try.byt24 Try.zero24 Try.agg26 Try.sz26 Try.byt26 Try.zero26 Try.agg27 Try.sz27 Try.byt27 Try.zero27 Try.agg28 Try.sz28 Try.byt28 Try.el28 Try.zero28 Try.agg29 Try.sz29 Try.byt29 Try.zero29 Try.agg30 Try.sz30 Try.byt30 Try.zero30 Try.agg31 Try.sz31 Try.byt31 Try.zero31 Try.agg32 Try.sz32 Try.byt32 Try.zero32 Try.agg33 Try.sz33 Try.byt33 Try.zero33 Try.agg34 Try.sz34 Try.byt34 Try.zero34 Try.agg35 Try.sz35 Try.byt35 Try.zero35 Try.agg36 Try.sz36 Try.byt36 Try.zero36 Try.agg38 Try.sz38 Try.byt38 Try.zero38 Try.agg39 Try.sz39 Try.byt39 Try.zero39 Try.agg40 Try.sz40 Try.byt40 Try.zero40 Try.agg41 Try.sz41 Try.byt41 Try.el41 Try.zero41 Try.agg42 Try.sz42 Try.byt42 Try.zero42 Try.agg43 Try.sz43 Try.byt43 Try.zero43 Try.agg44 Try.sz44 Try.byt44 Try.zero44 Try.agg45 Try.sz45 Try.byt45 Try.zero45 Try.agg46 Try.sz46 Try.byt46 Try.zero46 Try.agg47 Try.sz47 Try.byt47 Try.zero47 Try.agg48 Try.sz48 Try.byt48 Try.el48 Try.zero48 Try.agg49 Try.sz49 Try.byt49 Try.zero49 Try.agg50 Try.sz50 Try.byt50 Try.zero50 Try.agg51 Try.sz51 Try.byt51 Try.zero51 Try.agg52 Try.sz52 Try.byt52 Try.zero52 Try.agg53 Try.sz53 Try.byt53 Try.zero53 Try.agg54 Try.sz54 Try.byt54 Try.zero54 Try.agg55 Try.sz55 Try.byt55 Try.zero55 Try.agg56 Try.sz56 Try.byt56 Try.zero56 Try.agg57 Try.sz57 Try.byt57 Try.zero57 Try.agg58 Try.sz58 Try.byt58 Try.zero58 Try.agg59 Try.sz59 Try.byt59 Try.zero59 Try.agg60 Try.sz60 Try.byt60 Try.zero60 Try.agg61 Try.sz61 Try.byt61 Try.zero61 Try.agg62 Try.sz62 Try.byt62 Try.zero62 Try.agg63 Try.sz63 Try.byt63 Try.zero63 Try.agg64 Try.sz64 Try.byt64 Try.zero64 Try.agg65 Try.sz65 Try.byt65 Try.zero65 Try.agg66 Try.sz66 Try.byt66 Try.zero66 Try.agg67 Try.sz67 Try.byt67 Try.zero67 Try.agg68 Try.sz68 Try.byt68 Try.zero68 Try.agg69 Try.sz69 Try.byt69 Try.zero69 Try.agg70 Try.sz70 Try.byt70 Try.zero70 Try.agg71 Try.sz71 Try.byt71 Try.zero71 Try.agg72 Try.sz72 Try.byt72 Try.zero72 Try.agg73 Try.sz73 Try.byt73 Try.zero73 Try.agg74 Try.sz74 Try.byt74 Try.zero74 Try.agg75 Try.sz75 Try.byt75 Try.zero75 Try.agg76 Try.sz76 Try.byt76 Try.zero76 Try.agg77 Try.sz77 Try.byt77 Try.zero77 Try.agg78 Try.sz78 Try.byt78 Try.zero78 Try.build7 Try.build8 Try.build13 Try.build14 Try.build18 Try.build19 Try.bsl22 Try.bsl28 Try.bsl41 Try.build42 Try.build43 Try.build46 Try.build47 Try.bsl48 Try.build56 Try.build59 Try.build60 Try.build65 Try.build66 Try.build68 Try.build69 Try.build76 Try.build77 Try.underlying1 Try.underlying2 Try.underlying3 Try.underlying4 Try.underlying5 Try.underlying6 Try.underlying7 Try.underlying8 Try.underlying9 Try.underlying10 Try.underlying11 Try.underlying12 Try.underlying13 Try.underlying14 Try.underlying15 Try.underlying16 Try.underlying17 Try.underlying18 Try.underlying19 Try.underlying20 Try.underlying21 Try.underlying22 Try.underlying23 Try.underlying24 Try.underlying26 Try.underlying27 Try.underlying28 Try.underlying29 Try.underlying30 Try.underlying31 Try.underlying32 Try.underlying33 Try.underlying34 Try.underlying35 Try.underlying36 Try.underlying38 Try.underlying39 Try.underlying40 Try.underlying41 Try.underlying42 Try.underlying43 Try.underlying44 Try.underlying45 Try.underlying46 Try.underlying47 Try.underlying48 Try.underlying49 Try.underlying50 Try.underlying51 Try.underlying52 Try.underlying53 Try.underlying54 Try.underlying55 Try.underlying56 Try.underlying57 Try.underlying58 Try.underlying59 Try.underlying60 Try.underlying61 Try.underlying62 Try.underlying63 Try.underlying64 Try.underlying65 Try.underlying66 Try.underlying67 Try.underlying68 Try.underlying69 Try.underlying70 Try.underlying71 Try.underlying72 Try.underlying73 Try.underlying74 Try.underlying75 Try.underlying76 Try.underlying77 Try.underlying78
/-- Bytes as a number, the lowest first. -/
def leV : List Int → Nat
  | [] => 0
  | b :: r => b.toNat + 256 * leV r
theorem leV_lt : ∀ l : List Int, (∀ x ∈ l, Byte x) → leV l < 256 ^ l.length
  | [], _ => by simp [leV]
  | b :: r, h => by
    have h1 := h b (List.mem_cons_self ..)
    have h2 := leV_lt r fun x hx => h x (List.mem_cons_of_mem _ hx)
    unfold Byte at h1
    simp only [leV, List.length_cons, Nat.pow_succ]
    omega
theorem leV_at : ∀ (l : List Int) (i : Nat) (b : Int), (∀ x ∈ l, Byte x) → l[i]? = some b → leV l / 256 ^ i % 256 = b.toNat
  | [], i, b, _, h => by simp at h
  | c :: r, 0, b, hb, h => by
    simp at h; subst h
    have h1 := hb c (List.mem_cons_self ..)
    unfold Byte at h1
    simp only [leV, Nat.pow_zero, Nat.div_one]
    omega
  | c :: r, i + 1, b, hb, h => by
    have h1 := hb c (List.mem_cons_self ..)
    unfold Byte at h1
    rw [Nat.pow_succ, Nat.mul_comm, ← Nat.div_div_eq_div_mul]
    have : leV (c :: r) / 256 = leV r := by simp only [leV]; omega
    rw [this]
    exact leV_at r i b (fun x hx => hb x (List.mem_cons_of_mem _ hx)) (by simpa using h)
/-- A text as a number. -/
def strV (s : ByteArray) : Nat := leV (nums s)
theorem strV_lt (s : ByteArray) : strV s < 2 ^ (8 * s.size) := by
  have := leV_lt (nums s) (nums_byte s)
  rwa [nums_length, pow256] at this
theorem strV_at (s : ByteArray) (i : Nat) (h : i < s.size) : strV s / 256 ^ i % 256 = (sbt s i).toNat := leV_at _ i _ (nums_byte s) (sbt_nums s i h)
theorem u64_shl8 (b j : Nat) (hj : j < 4) (hb : b < 256) : ishl .u64 (b : Int) ((8 * j : Nat) : Int) = ((b * 256 ^ j : Nat) : Int) := by
  have hp : 256 ^ j ≤ 256 ^ 3 := Nat.pow_le_pow_right (by decide) (by omega)
  have h : b * 256 ^ j ≤ 256 * 256 ^ 3 := Nat.mul_le_mul (by omega) hp
  have e : ((b * 256 ^ j : Nat) : Int) = (b : Int) * 2 ^ (8 * j) := by rw [pow256, Int.natCast_mul, Int.natCast_pow]; rfl
  rw [ishl_eq .u64 rfl (b : Int) (8 * j) (by simp only [IntKind.bits]; omega) (by omega) (by rw [← e]; simp only [IntKind.bits]; omega), e]
theorem u64_or8 (h b j : Nat) (hj : j < 4) (hb : b < 256) (hh : h < 256 ^ j) : ibits .or .u64 (h : Int) ((b * 256 ^ j : Nat) : Int) = ((h + b * 256 ^ j : Nat) : Int) := by
  have hp : 256 ^ j ≤ 256 ^ 3 := Nat.pow_le_pow_right (by decide) (by omega)
  have h1 : b * 256 ^ j ≤ 256 * 256 ^ 3 := Nat.mul_le_mul (by omega) hp
  have e : ((b * 256 ^ j : Nat) : Int) = (b : Int) * 2 ^ (8 * j) := by rw [pow256, Int.natCast_mul, Int.natCast_pow]; rfl
  have hh' : (h : Int) < 2 ^ (8 * j) := by rw [show ((2 : Int) ^ (8 * j)) = ((256 ^ j : Nat) : Int) by rw [pow256, Int.natCast_pow]; rfl]; exact Int.ofNat_lt.2 hh
  rw [e, or_add .u64 rfl (h : Int) (b : Int) (8 * j) (by omega) hh' (by omega) (by rw [← e]; simp only [IntKind.bits]; omega), Int.natCast_add, e]
theorem u64_one (k : Nat) (hk : k ≤ 24) : ishl .u64 1 (k : Int) = ((2 ^ k : Nat) : Int) := by
  have hp : 2 ^ k ≤ 2 ^ 24 := Nat.pow_le_pow_right (by decide) hk
  rw [ishl_eq .u64 rfl 1 k (by simp only [IntKind.bits]; omega) (by omega) (by rw [Int.one_mul, show ((2 : Int) ^ k) = ((2 ^ k : Nat) : Int) by rw [Int.natCast_pow]; rfl]; simp only [IntKind.bits]; omega), Int.one_mul, Int.natCast_pow]; rfl
theorem u64_shr (n j : Nat) (hj : j ≤ 64) : ishr .u64 (n : Int) (j : Int) = ((n / 2 ^ j : Nat) : Int) := by
  rw [ishr_eq .u64 _ j (by simp only [IntKind.bits]; omega), Int.natCast_ediv, Int.natCast_pow]; rfl
theorem u64_mask (n j : Nat) (hn : n < 18446744073709551616) (hj : j ≤ 64) : ibits .and .u64 (n : Int) (((2 ^ j : Nat) : Int) - 1) = ((n % 2 ^ j : Nat) : Int) := by
  have := and_mask .u64 rfl (n : Int) j ⟨by omega, by simp only [IntKind.bits]; omega⟩ (by simp only [IntKind.bits]; omega)
  rw [Int.natCast_pow, Int.natCast_emod, Int.natCast_pow]
  exact this
def takeS (s : ByteArray) (k : Nat) (w : Int) : Int × Int × Nat :=
  if w < 0 ∨ 24 < w then (0, 1, k) else if ((8 * s.size - k : Nat) : Int) < w then (0, 40, k) else (((strV s / 2 ^ k % 2 ^ w.toNat : Nat) : Int), 0, k + w.toNat)
/-- What Take holds: so many bytes, from a place on. -/
def holdN (s : ByteArray) (f m : Nat) : Nat := strV s / 256 ^ f % 256 ^ m
theorem holdN_succ (s : ByteArray) (f m : Nat) (h : f + m < s.size) : holdN s f (m + 1) = holdN s f m + (sbt s (f + m)).toNat * 256 ^ m := by
  unfold holdN
  rw [Nat.pow_succ, Nat.mod_mul, Nat.div_div_eq_div_mul, ← Nat.pow_add, strV_at s _ h, Nat.mul_comm (256 ^ m)]
theorem holdN_lt (s : ByteArray) (f m : Nat) : holdN s f m < 256 ^ m := Nat.mod_lt _ (Nat.pow_pos (by decide))
theorem holdN_end (s : ByteArray) (f m : Nat) (hm : m ≤ 4) (h : m = 4 ∨ s.size ≤ f + m) : holdN s f m = strV s / 256 ^ f % 2 ^ 32 := by
  unfold holdN
  rcases h with rfl | h
  · rfl
  · have hlt : strV s / 256 ^ f < 256 ^ m := by
      apply Nat.div_lt_of_lt_mul
      rw [← Nat.pow_add, pow256]
      exact Nat.lt_of_lt_of_le (strV_lt s) (Nat.pow_le_pow_right (by decide) (by omega))
    rw [Nat.mod_eq_of_lt hlt, Nat.mod_eq_of_lt (Nat.lt_of_lt_of_le hlt (by rw [pow256]; exact Nat.pow_le_pow_right (by decide) (by omega)))]
theorem take_val (V k w : Nat) (hw : w ≤ 24) : V / 256 ^ (k / 8) % 2 ^ 32 / 2 ^ (k % 8) % 2 ^ w = V / 2 ^ k % 2 ^ w := by
  rw [show (2 : Nat) ^ 32 = 2 ^ (k % 8) * 2 ^ (32 - k % 8) by rw [← Nat.pow_add]; congr 1; omega, Nat.mod_mul_right_div_self, Nat.mod_mod_of_dvd _ (Nat.pow_dvd_pow 2 (by omega)), Nat.div_div_eq_div_mul, pow256, ← Nat.pow_add]
  congr 3; omega
theorem bnd_takeS (n : Nat) (s : ByteArray) (k : Nat) (w : Int) : Bnd n (.tuple #[.int .u32 (takeS s k w).1, .int .i64 (takeS s k w).2.1]) := by simp only [bnd_tuple, bndL_cons, bndL_nil, bnd_int, and_self]
set_option maxHeartbeats 4000000 in
theorem take_ok (w0 : World) (A : St) (r : Nat) (s : ByteArray) (k : Nat) (w : Int) (hr : A.get r = some (rdB 60 s k)) (hs : s.size ≤ 140737488355328) (hk : k ≤ 8 * s.size) :
    ACalls Try.prog w0 15 #[.pointer (some ⟨r, 0, none⟩), .int .i64 w] A (fin (.tuple #[.int .u32 (takeS s k w).1, .int .i64 (takeS s k w).2.1]) (A.upd r (some (rdB 60 s (takeS s k w).2.2)))) := by
  refine call_E Try.enters15 Try.func15 rfl (Nat.le_of_ble_eq_true rfl) fun hw hbd => ?_
  have hrn : r < A.next := (hw r _ hr).1
  have hbnd : ∀ v ∈ ([.string s, .int .i64 (takeS s k w).2.2] : List Value), Bnd A.next v := by
    intro v hv
    simp only [List.mem_cons, List.not_mem_nil, or_false] at hv
    rcases hv with rfl | rfl
    · exact .string _
    · exact .int _ _
  simp (maxSteps := 1000000) (disch := (first | omega | (simp only [nx_alloc, nx_upd, len_cons, len_nil, List.length_set, List.length_map, List.length_append] <;> omega) | fail)) only [Nat.reduceAdd, Nat.reduceSub, Nat.reduceMul, Nat.reduceLT, Nat.reduceLeDiff, Nat.reduceEqDiff, ↓reduceIte, reduceCtorEq, Int.reduceAdd, Int.reduceSub, Int.reduceMul, Int.reduceLT, Int.reduceLE, Int.reduceEq, Int.reduceNe, Int.reduceToNat, Int.reduceNeg, go_sem, Try.ntmps15, Try.results15]
  by_cases h1 : w < 0
  · simp (maxSteps := 1000000) (disch := (first | omega | (simp only [nx_alloc, nx_upd, len_cons, len_nil, List.length_set, List.length_map, List.length_append] <;> omega) | fail)) only [Nat.reduceAdd, Nat.reduceSub, Nat.reduceMul, Nat.reduceLT, Nat.reduceLeDiff, Nat.reduceEqDiff, ↓reduceIte, reduceCtorEq, Int.reduceAdd, Int.reduceSub, Int.reduceMul, Int.reduceLT, Int.reduceLE, Int.reduceEq, Int.reduceNe, Int.reduceToNat, Int.reduceNeg, go_sem, Try.results15]
    exact gc_upd hw hrn hbnd (over_upd (by simp; omega) (by rw [show (takeS s k w).2.2 = k by unfold takeS; rw [if_pos (.inl h1)]]; simp (disch := (first | omega | (simp only [nx_alloc, nx_upd, len_cons, len_nil, List.length_set, List.length_map, List.length_append] <;> omega) | fail)) only [St.get_upd, St.get_alloc, St.next_alloc, St.next_upd, ↓reduceIte, natF_lt, natF_gt, natF_ne, Nat.add_assoc, Nat.reduceAdd, Nat.reduceEqDiff, Nat.add_left_cancel_iff]; exact hr) (fun b q1 q2 => by simp (disch := (first | omega | (simp only [nx_alloc, nx_upd, len_cons, len_nil, List.length_set, List.length_map, List.length_append] <;> omega) | fail)) only [St.get_upd, St.get_alloc, St.next_alloc, St.next_upd, ↓reduceIte, natF_lt, natF_gt, natF_ne, Nat.add_assoc, Nat.reduceAdd, Nat.reduceEqDiff, Nat.add_left_cancel_iff])) (by unfold takeS; rw [if_pos (.inl h1)]) (bnd_takeS _ _ _ _)
  by_cases h2 : 24 < w
  · simp (maxSteps := 1000000) (disch := (first | omega | (simp only [nx_alloc, nx_upd, len_cons, len_nil, List.length_set, List.length_map, List.length_append] <;> omega) | fail)) only [Nat.reduceAdd, Nat.reduceSub, Nat.reduceMul, Nat.reduceLT, Nat.reduceLeDiff, Nat.reduceEqDiff, ↓reduceIte, reduceCtorEq, Int.reduceAdd, Int.reduceSub, Int.reduceMul, Int.reduceLT, Int.reduceLE, Int.reduceEq, Int.reduceNe, Int.reduceToNat, Int.reduceNeg, go_sem, Try.results15]
    exact gc_upd hw hrn hbnd (over_upd (by simp; omega) (by rw [show (takeS s k w).2.2 = k by unfold takeS; rw [if_pos (.inr h2)]]; simp (disch := (first | omega | (simp only [nx_alloc, nx_upd, len_cons, len_nil, List.length_set, List.length_map, List.length_append] <;> omega) | fail)) only [St.get_upd, St.get_alloc, St.next_alloc, St.next_upd, ↓reduceIte, natF_lt, natF_gt, natF_ne, Nat.add_assoc, Nat.reduceAdd, Nat.reduceEqDiff, Nat.add_left_cancel_iff]; exact hr) (fun b q1 q2 => by simp (disch := (first | omega | (simp only [nx_alloc, nx_upd, len_cons, len_nil, List.length_set, List.length_map, List.length_append] <;> omega) | fail)) only [St.get_upd, St.get_alloc, St.next_alloc, St.next_upd, ↓reduceIte, natF_lt, natF_gt, natF_ne, Nat.add_assoc, Nat.reduceAdd, Nat.reduceEqDiff, Nat.add_left_cancel_iff])) (by unfold takeS; rw [if_pos (.inr h2)]) (bnd_takeS _ _ _ _)
  obtain ⟨wd, rfl⟩ := Int.eq_ofNat_of_zero_le (a := w) (by omega)
  simp (maxSteps := 1000000) (disch := (first | omega | (simp only [nx_alloc, nx_upd, len_cons, len_nil, List.length_set, List.length_map, List.length_append] <;> omega) | fail)) only [Nat.reduceAdd, Nat.reduceSub, Nat.reduceMul, Nat.reduceLT, Nat.reduceLeDiff, Nat.reduceEqDiff, ↓reduceIte, reduceCtorEq, Int.reduceAdd, Int.reduceSub, Int.reduceMul, Int.reduceLT, Int.reduceLE, Int.reduceEq, Int.reduceNe, Int.reduceToNat, Int.reduceNeg, go_sem]
  obtain ⟨A2, hA2⟩ : ∃ A2, A2 = (A.alloc (.cells [.pointer (some ⟨r, 0, none⟩)] 34 (some 0))).alloc (.cells [.int .i64 (wd : Int)] 3 (some 0)) := ⟨_, rfl⟩
  rw [← hA2]
  have g2 : A2.get A.next = some (.cells [.pointer (some ⟨r, 0, none⟩)] 34 (some 0)) := by
    rw [hA2]
    simp (disch := (first | omega | (simp only [nx_alloc, nx_upd, len_cons, len_nil, List.length_set, List.length_map, List.length_append] <;> omega) | fail)) only [St.get_upd, St.get_alloc, St.next_alloc, St.next_upd, ↓reduceIte, natF_lt, natF_gt, natF_ne, Nat.add_assoc, Nat.reduceAdd, Nat.reduceEqDiff, Nat.add_left_cancel_iff]
  have g3 : A2.get (A.next + 1) = some (.cells [.int .i64 (wd : Int)] 3 (some 0)) := by
    rw [hA2]
    simp (disch := (first | omega | (simp only [nx_alloc, nx_upd, len_cons, len_nil, List.length_set, List.length_map, List.length_append] <;> omega) | fail)) only [St.get_upd, St.get_alloc, St.next_alloc, St.next_upd, ↓reduceIte, natF_lt, natF_gt, natF_ne, Nat.add_assoc, Nat.reduceAdd, Nat.reduceEqDiff, Nat.add_left_cancel_iff]
  have gr : A2.get r = some (rdB 60 s k) := by
    rw [hA2]
    simp (disch := (first | omega | (simp only [nx_alloc, nx_upd, len_cons, len_nil, List.length_set, List.length_map, List.length_append] <;> omega) | fail)) only [St.get_upd, St.get_alloc, St.next_alloc, St.next_upd, ↓reduceIte, natF_lt, natF_gt, natF_ne, Nat.add_assoc, Nat.reduceAdd, Nat.reduceEqDiff, Nat.add_left_cancel_iff]
    exact hr
  have n2 : A2.next = A.next + 2 := by rw [hA2]; rfl
  have o2 : Over A A2 := by rw [hA2]; exact ((Over.refl A).alloc _).alloc _
  refine aw_draw (by kernel_rfl) ?_
  simp (maxSteps := 1000000) (disch := (first | omega | (simp only [nx_alloc, nx_upd, len_cons, len_nil, List.length_set, List.length_map, List.length_append] <;> omega) | fail)) only [Nat.reduceAdd, Nat.reduceSub, Nat.reduceMul, Nat.reduceLT, Nat.reduceLeDiff, Nat.reduceEqDiff, ↓reduceIte, reduceCtorEq, Int.reduceAdd, Int.reduceSub, Int.reduceMul, Int.reduceLT, Int.reduceLE, Int.reduceEq, Int.reduceNe, Int.reduceToNat, Int.reduceNeg, go_sem, g2]
  refine ⟨_, left_ok w0 A2 r s k gr hs hk, ?_⟩
  simp (maxSteps := 1000000) (disch := (first | omega | (simp only [nx_alloc, nx_upd, len_cons, len_nil, List.length_set, List.length_map, List.length_append] <;> omega) | fail)) only [Nat.reduceAdd, Nat.reduceSub, Nat.reduceMul, Nat.reduceLT, Nat.reduceLeDiff, Nat.reduceEqDiff, ↓reduceIte, reduceCtorEq, Int.reduceAdd, Int.reduceSub, Int.reduceMul, Int.reduceLT, Int.reduceLE, Int.reduceEq, Int.reduceNe, Int.reduceToNat, Int.reduceNeg, go_sem, g3]
  refine ifB_dec (fun h3 => ?_) (fun h3 => ?_)
  · simp (maxSteps := 1000000) (disch := (first | omega | (simp only [nx_alloc, nx_upd, len_cons, len_nil, List.length_set, List.length_map, List.length_append] <;> omega) | fail)) only [Nat.reduceAdd, Nat.reduceSub, Nat.reduceMul, Nat.reduceLT, Nat.reduceLeDiff, Nat.reduceEqDiff, ↓reduceIte, reduceCtorEq, Int.reduceAdd, Int.reduceSub, Int.reduceMul, Int.reduceLT, Int.reduceLE, Int.reduceEq, Int.reduceNe, Int.reduceToNat, Int.reduceNeg, go_sem, Try.results15]
    have ht : takeS s k (wd : Int) = (0, 40, k) := by unfold takeS; rw [if_neg (by omega), if_pos (by omega)]
    exact gc_upd hw hrn hbnd (over_upd (by omega) (by rw [ht]; exact gr) (fun b q1 q2 => o2.get b q1)) (by rw [ht]) (bnd_takeS _ _ _ _)
  have ht : takeS s k (wd : Int) = (((strV s / 2 ^ k % 2 ^ wd : Nat) : Int), 0, k + wd) := by unfold takeS; rw [if_neg (by omega), if_neg (by omega)]; rfl
  have gr' := gr
  unfold rdB at gr'
  have q1 : Int.tdiv (k : Int) 8 = ((k / 8 : Nat) : Int) := by rw [Int.tdiv_eq_ediv_of_nonneg (by omega)]; omega
  simp (maxSteps := 1000000) (disch := (first | omega | (simp only [nx_alloc, nx_upd, len_cons, len_nil, List.length_set, List.length_map, List.length_append] <;> omega) | fail)) only [Nat.reduceAdd, Nat.reduceSub, Nat.reduceMul, Nat.reduceLT, Nat.reduceLeDiff, Nat.reduceEqDiff, ↓reduceIte, reduceCtorEq, Int.reduceAdd, Int.reduceSub, Int.reduceMul, Int.reduceLT, Int.reduceLE, Int.reduceEq, Int.reduceNe, Int.reduceToNat, Int.reduceNeg, go_sem, g2, gr', q1]
  obtain ⟨f, hf⟩ : ∃ f, f = k / 8 := ⟨_, rfl⟩
  rw [← hf]
  have hfs : f ≤ s.size := by omega
  refine aw_hide fun Q hQ => ?_
  refine aw_loop (fun m a A' => ∃ (ρ : Nat → Value) (j : Nat), a = E 69 ρ [⟨.fn (.func 26) #[.pointer (some ⟨A.next, 0, none⟩), .pointer (some ⟨A.next + 1, 0, none⟩)], #[]⟩] ∧ m = 4 - j ∧ j ≤ 4 ∧ f + j ≤ s.size ∧ A' = A2 ∧ ρ 2 = .pointer (some ⟨A.next, 0, none⟩) ∧ ρ 3 = .pointer (some ⟨A.next + 1, 0, none⟩) ∧ ρ 6 = .int .i64 f ∧ ρ 7 = .int .u64 (holdN s f j : Nat) ∧ ρ 8 = .int .i64 ((f + j : Nat) : Int)) 4
    ⟨_, 0, rfl, rfl, by omega, by omega, rfl, rfl, rfl, rfl, ?_, rfl⟩ ?_
  · simp (maxSteps := 1000000) (disch := (first | omega | (simp only [nx_alloc, nx_upd, len_cons, len_nil, List.length_set, List.length_map, List.length_append] <;> omega) | fail)) only [Nat.reduceAdd, Nat.reduceSub, Nat.reduceMul, Nat.reduceLT, Nat.reduceLeDiff, Nat.reduceEqDiff, ↓reduceIte, reduceCtorEq, Int.reduceAdd, Int.reduceSub, Int.reduceMul, Int.reduceLT, Int.reduceLE, Int.reduceEq, Int.reduceNe, Int.reduceToNat, Int.reduceNeg, go_sem]
    simp [holdN, Nat.mod_one]
  rintro m a A' ⟨ρ, j, rfl, rfl, hj, hjs, rfl, p2, p3, p6, p7, p8⟩
  have tail : (j = 4 ∨ f + j = s.size) → ∀ ρ' : Nat → Value, ρ' 2 = .pointer (some ⟨A.next, 0, none⟩) → ρ' 3 = .pointer (some ⟨A.next + 1, 0, none⟩) → ρ' 7 = .int .u64 (holdN s f j : Nat) → Q (.exit 1) (E 69 ρ' [⟨.fn (.func 26) #[.pointer (some ⟨A.next, 0, none⟩), .pointer (some ⟨A.next + 1, 0, none⟩)], #[]⟩]) A' := by
    intro hend ρ' x2 x3 x7
    rw [hQ]
    have hh := holdN_end s f j hj (by omega)
    have hlt : holdN s f j < 4294967296 := by rw [hh]; exact Nat.mod_lt _ (by decide)
    obtain ⟨H, hH⟩ : ∃ H, H = holdN s f j := ⟨_, rfl⟩
    rw [← hH] at x7 hh hlt
    have q2 : Int.tmod (k : Int) 8 = ((k % 8 : Nat) : Int) := by rw [Int.tmod_eq_emod_of_nonneg (by omega)]; omega
    have hp1 : 0 < 2 ^ wd := Nat.two_pow_pos _
    have hp2 : 2 ^ wd ≤ 2 ^ 24 := Nat.pow_le_pow_right (by decide) (by omega)
    have hval : H / 2 ^ (k % 8) % 2 ^ wd = strV s / 2 ^ k % 2 ^ wd := by rw [hh, hf]; exact take_val _ _ _ (by omega)
    have hvl : strV s / 2 ^ k % 2 ^ wd < 2 ^ wd := Nat.mod_lt _ hp1
    have hq : H / 2 ^ (k % 8) < 18446744073709551616 := Nat.lt_of_le_of_lt (Nat.div_le_self _ _) (by omega)
    simp (maxSteps := 1000000) (disch := (first | omega | (simp only [nx_alloc, nx_upd, len_cons, len_nil, List.length_set, List.length_map, List.length_append] <;> omega) | fail)) only [Nat.reduceAdd, Nat.reduceSub, Nat.reduceMul, Nat.reduceLT, Nat.reduceLeDiff, Nat.reduceEqDiff, ↓reduceIte, reduceCtorEq, Int.reduceAdd, Int.reduceSub, Int.reduceMul, Int.reduceLT, Int.reduceLE, Int.reduceEq, Int.reduceNe, Int.reduceToNat, Int.reduceNeg, go_sem]
    refine aw_draw (by kernel_rfl) ?_
    simp (maxSteps := 1000000) (disch := (first | omega | (simp only [nx_alloc, nx_upd, len_cons, len_nil, List.length_set, List.length_map, List.length_append] <;> omega) | fail)) only [Nat.reduceAdd, Nat.reduceSub, Nat.reduceMul, Nat.reduceLT, Nat.reduceLeDiff, Nat.reduceEqDiff, ↓reduceIte, reduceCtorEq, Int.reduceAdd, Int.reduceSub, Int.reduceMul, Int.reduceLT, Int.reduceLE, Int.reduceEq, Int.reduceNe, Int.reduceToNat, Int.reduceNeg, go_sem, x2, x3, x7, g2, g3, gr', q2, u64_one wd (by omega), u64_shr H (k % 8) (by omega), u64_mask _ wd hq (by omega), hval, Try.results15]
    refine take1_def w0 A' A.next (A.next + 1) r s k wd _ _ g2 g3 gr (by omega) _ ?_
    simp (maxSteps := 1000000) (disch := (first | omega | (simp only [nx_alloc, nx_upd, len_cons, len_nil, List.length_set, List.length_map, List.length_append] <;> omega) | fail)) only [Nat.reduceAdd, Nat.reduceSub, Nat.reduceMul, Nat.reduceLT, Nat.reduceLeDiff, Nat.reduceEqDiff, ↓reduceIte, reduceCtorEq, Int.reduceAdd, Int.reduceSub, Int.reduceMul, Int.reduceLT, Int.reduceLE, Int.reduceEq, Int.reduceNe, Int.reduceToNat, Int.reduceNeg, go_sem, Try.results15]
    rw [ht]
    refine gc_upd hw hrn (by rw [ht] at hbnd; exact hbnd) (over_upd (by simp; omega) (by simp (disch := (first | omega | (simp only [nx_alloc, nx_upd, len_cons, len_nil, List.length_set, List.length_map, List.length_append] <;> omega) | fail)) only [St.get_upd, St.get_alloc, St.next_alloc, St.next_upd, ↓reduceIte, natF_lt, natF_gt, natF_ne, Nat.add_assoc, Nat.reduceAdd, Nat.reduceEqDiff, Nat.add_left_cancel_iff]; rfl) (fun b q1 q2 => by simp (disch := (first | omega | (simp only [nx_alloc, nx_upd, len_cons, len_nil, List.length_set, List.length_map, List.length_append] <;> omega) | fail)) only [St.get_upd, St.get_alloc, St.next_alloc, St.next_upd, ↓reduceIte, natF_lt, natF_gt, natF_ne, Nat.add_assoc, Nat.reduceAdd, Nat.reduceEqDiff, Nat.add_left_cancel_iff]; exact o2.get b q1)) rfl ?_
    have := bnd_takeS A.next s k wd
    rwa [ht] at this
  refine aw_of ?_
  by_cases hgo : f + j < s.size ∧ j < 4
  · obtain ⟨hg1, hg2⟩ := hgo
    have hb := sbt_byte s (f + j)
    obtain ⟨bb, hbb⟩ := Int.eq_ofNat_of_zero_le hb.1
    have hb256 : bb < 256 := by have := hb.2; omega
    have e1 : ((f + j : Nat) : Int) - (f : Int) = (j : Int) := by omega
    have e2 : (8 : Int) * (j : Int) = ((8 * j : Nat) : Int) := by omega
    simp (maxSteps := 1000000) (disch := (first | omega | (simp only [nx_alloc, nx_upd, len_cons, len_nil, List.length_set, List.length_map, List.length_append] <;> omega) | fail)) only [Nat.reduceAdd, Nat.reduceSub, Nat.reduceMul, Nat.reduceLT, Nat.reduceLeDiff, Nat.reduceEqDiff, ↓reduceIte, reduceCtorEq, Int.reduceAdd, Int.reduceSub, Int.reduceMul, Int.reduceLT, Int.reduceLE, Int.reduceEq, Int.reduceNe, Int.reduceToNat, Int.reduceNeg, go_sem, p2, p3, p6, p7, p8, g2, gr', hbb, e1, e2, u64_shl8 bb j hg2 hb256, u64_or8 _ bb j hg2 hb256 (holdN_lt s f j)]
    refine ⟨4 - (j + 1), by omega, _, j + 1, rfl, rfl, by omega, by omega, ?_, ?_, ?_, ?_, ?_⟩
    · simp (maxSteps := 1000000) (disch := (first | omega | (simp only [nx_alloc, nx_upd, len_cons, len_nil, List.length_set, List.length_map, List.length_append] <;> omega) | fail)) only [Nat.reduceAdd, Nat.reduceSub, Nat.reduceMul, Nat.reduceLT, Nat.reduceLeDiff, Nat.reduceEqDiff, ↓reduceIte, reduceCtorEq, Int.reduceAdd, Int.reduceSub, Int.reduceMul, Int.reduceLT, Int.reduceLE, Int.reduceEq, Int.reduceNe, Int.reduceToNat, Int.reduceNeg, go_sem, p2]
    · simp (maxSteps := 1000000) (disch := (first | omega | (simp only [nx_alloc, nx_upd, len_cons, len_nil, List.length_set, List.length_map, List.length_append] <;> omega) | fail)) only [Nat.reduceAdd, Nat.reduceSub, Nat.reduceMul, Nat.reduceLT, Nat.reduceLeDiff, Nat.reduceEqDiff, ↓reduceIte, reduceCtorEq, Int.reduceAdd, Int.reduceSub, Int.reduceMul, Int.reduceLT, Int.reduceLE, Int.reduceEq, Int.reduceNe, Int.reduceToNat, Int.reduceNeg, go_sem, p3]
    · simp (maxSteps := 1000000) (disch := (first | omega | (simp only [nx_alloc, nx_upd, len_cons, len_nil, List.length_set, List.length_map, List.length_append] <;> omega) | fail)) only [Nat.reduceAdd, Nat.reduceSub, Nat.reduceMul, Nat.reduceLT, Nat.reduceLeDiff, Nat.reduceEqDiff, ↓reduceIte, reduceCtorEq, Int.reduceAdd, Int.reduceSub, Int.reduceMul, Int.reduceLT, Int.reduceLE, Int.reduceEq, Int.reduceNe, Int.reduceToNat, Int.reduceNeg, go_sem, p6]
    · simp (maxSteps := 1000000) (disch := (first | omega | (simp only [nx_alloc, nx_upd, len_cons, len_nil, List.length_set, List.length_map, List.length_append] <;> omega) | fail)) only [Nat.reduceAdd, Nat.reduceSub, Nat.reduceMul, Nat.reduceLT, Nat.reduceLeDiff, Nat.reduceEqDiff, ↓reduceIte, reduceCtorEq, Int.reduceAdd, Int.reduceSub, Int.reduceMul, Int.reduceLT, Int.reduceLE, Int.reduceEq, Int.reduceNe, Int.reduceToNat, Int.reduceNeg, go_sem]
      rw [holdN_succ s f j hg1, hbb]; rfl
    · simp (maxSteps := 1000000) (disch := (first | omega | (simp only [nx_alloc, nx_upd, len_cons, len_nil, List.length_set, List.length_map, List.length_append] <;> omega) | fail)) only [Nat.reduceAdd, Nat.reduceSub, Nat.reduceMul, Nat.reduceLT, Nat.reduceLeDiff, Nat.reduceEqDiff, ↓reduceIte, reduceCtorEq, Int.reduceAdd, Int.reduceSub, Int.reduceMul, Int.reduceLT, Int.reduceLE, Int.reduceEq, Int.reduceNe, Int.reduceToNat, Int.reduceNeg, go_sem]
      rfl
  · by_cases hsz : f + j = s.size
    · simp (maxSteps := 1000000) (disch := (first | omega | (simp only [nx_alloc, nx_upd, len_cons, len_nil, List.length_set, List.length_map, List.length_append] <;> omega) | fail)) only [Nat.reduceAdd, Nat.reduceSub, Nat.reduceMul, Nat.reduceLT, Nat.reduceLeDiff, Nat.reduceEqDiff, ↓reduceIte, reduceCtorEq, Int.reduceAdd, Int.reduceSub, Int.reduceMul, Int.reduceLT, Int.reduceLE, Int.reduceEq, Int.reduceNe, Int.reduceToNat, Int.reduceNeg, go_sem, p2, p8, g2, gr']
      refine tail (.inr hsz) _ ?_ ?_ ?_
      · simp (maxSteps := 1000000) (disch := (first | omega | (simp only [nx_alloc, nx_upd, len_cons, len_nil, List.length_set, List.length_map, List.length_append] <;> omega) | fail)) only [Nat.reduceAdd, Nat.reduceSub, Nat.reduceMul, Nat.reduceLT, Nat.reduceLeDiff, Nat.reduceEqDiff, ↓reduceIte, reduceCtorEq, Int.reduceAdd, Int.reduceSub, Int.reduceMul, Int.reduceLT, Int.reduceLE, Int.reduceEq, Int.reduceNe, Int.reduceToNat, Int.reduceNeg, go_sem, p2]
      · simp (maxSteps := 1000000) (disch := (first | omega | (simp only [nx_alloc, nx_upd, len_cons, len_nil, List.length_set, List.length_map, List.length_append] <;> omega) | fail)) only [Nat.reduceAdd, Nat.reduceSub, Nat.reduceMul, Nat.reduceLT, Nat.reduceLeDiff, Nat.reduceEqDiff, ↓reduceIte, reduceCtorEq, Int.reduceAdd, Int.reduceSub, Int.reduceMul, Int.reduceLT, Int.reduceLE, Int.reduceEq, Int.reduceNe, Int.reduceToNat, Int.reduceNeg, go_sem, p3]
      · simp (maxSteps := 1000000) (disch := (first | omega | (simp only [nx_alloc, nx_upd, len_cons, len_nil, List.length_set, List.length_map, List.length_append] <;> omega) | fail)) only [Nat.reduceAdd, Nat.reduceSub, Nat.reduceMul, Nat.reduceLT, Nat.reduceLeDiff, Nat.reduceEqDiff, ↓reduceIte, reduceCtorEq, Int.reduceAdd, Int.reduceSub, Int.reduceMul, Int.reduceLT, Int.reduceLE, Int.reduceEq, Int.reduceNe, Int.reduceToNat, Int.reduceNeg, go_sem, p7]
    · have hj4 : j = 4 := by omega
      simp (maxSteps := 1000000) (disch := (first | omega | (simp only [nx_alloc, nx_upd, len_cons, len_nil, List.length_set, List.length_map, List.length_append] <;> omega) | fail)) only [Nat.reduceAdd, Nat.reduceSub, Nat.reduceMul, Nat.reduceLT, Nat.reduceLeDiff, Nat.reduceEqDiff, ↓reduceIte, reduceCtorEq, Int.reduceAdd, Int.reduceSub, Int.reduceMul, Int.reduceLT, Int.reduceLE, Int.reduceEq, Int.reduceNe, Int.reduceToNat, Int.reduceNeg, go_sem, p2, p6, p8, g2, gr']
      refine tail (.inl hj4) _ ?_ ?_ ?_
      · simp (maxSteps := 1000000) (disch := (first | omega | (simp only [nx_alloc, nx_upd, len_cons, len_nil, List.length_set, List.length_map, List.length_append] <;> omega) | fail)) only [Nat.reduceAdd, Nat.reduceSub, Nat.reduceMul, Nat.reduceLT, Nat.reduceLeDiff, Nat.reduceEqDiff, ↓reduceIte, reduceCtorEq, Int.reduceAdd, Int.reduceSub, Int.reduceMul, Int.reduceLT, Int.reduceLE, Int.reduceEq, Int.reduceNe, Int.reduceToNat, Int.reduceNeg, go_sem, p2]
      · simp (maxSteps := 1000000) (disch := (first | omega | (simp only [nx_alloc, nx_upd, len_cons, len_nil, List.length_set, List.length_map, List.length_append] <;> omega) | fail)) only [Nat.reduceAdd, Nat.reduceSub, Nat.reduceMul, Nat.reduceLT, Nat.reduceLeDiff, Nat.reduceEqDiff, ↓reduceIte, reduceCtorEq, Int.reduceAdd, Int.reduceSub, Int.reduceMul, Int.reduceLT, Int.reduceLE, Int.reduceEq, Int.reduceNe, Int.reduceToNat, Int.reduceNeg, go_sem, p3]
      · simp (maxSteps := 1000000) (disch := (first | omega | (simp only [nx_alloc, nx_upd, len_cons, len_nil, List.length_set, List.length_map, List.length_append] <;> omega) | fail)) only [Nat.reduceAdd, Nat.reduceSub, Nat.reduceMul, Nat.reduceLT, Nat.reduceLeDiff, Nat.reduceEqDiff, ↓reduceIte, reduceCtorEq, Int.reduceAdd, Int.reduceSub, Int.reduceMul, Int.reduceLT, Int.reduceLE, Int.reduceEq, Int.reduceNe, Int.reduceToNat, Int.reduceNeg, go_sem, p7]
end Go.Fw
