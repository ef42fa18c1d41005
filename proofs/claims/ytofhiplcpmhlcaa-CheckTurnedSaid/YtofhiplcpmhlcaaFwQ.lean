import Derived.Test.YtofhiplcpmhlcaaFwP
set_option linter.unusedSimpArgs false
set_option linter.unusedVariables false
namespace Go.Fw
open Go.Proofs Go.RowKit
attribute [local go_sem] List.length_cons List.length_nil Nat.zero_add Nat.add_zero Nat.zero_mul Nat.mul_one Int.toNat_zero Int.toNat_natCast List.map_cons List.map_nil List.map_toArray List.toList_toArray List.append_toArray List.append_eq List.nil_append List.cons_append List.append_nil List.all_toArray List.all_cons List.all_nil Bool.and_true Bool.true_and Bool.and_self List.getElem?_toArray List.getElem?_cons_zero List.getElem?_cons_succ List.set_cons_zero List.set_cons_succ List.drop_zero List.drop_succ_cons List.take_zero List.take_succ_cons Option.bind_some Option.map_some id true_and and_true and_self St.next_alloc St.next_upd beq_self_eq_true Bool.not_true Bool.not_false Bool.false_eq_true false_implies true_implies Option.isNone_none Option.isNone_some Option.isSome_none Option.isSome_some ge_iff_le gt_iff_lt Nat.sub_zero Nat.add_assoc IntWalk.i64_in IntWalk.u64_in IntWalk.u8_in IntWalk.u32_in IntWalk.i32_in IntWalk.u16_in dec_not Bool.not_eq_true decide_true decide_false ne_eq not_true_eq_false not_false_eq_true Bool.true_or Bool.or_true Bool.or_false Bool.false_or Bool.and_false Bool.false_and upd_apply rd_eq ar_zero ar_succ ar_nil tm_size tm_getD tm_set E_tmps E_defers put_E put_none eval_tmp eval_const eval_func setArgs_0 setArgs_1 setArgs_2 append_lit stepV_some stepA_some guardO_true ifB_true ifB_false wantV_true wantV_false wantV_dec_t wantV_dec_f ifB_dec_t ifB_dec_f condV_bool dec_and dec_or isB_bool someB_t someB_f okO_tmp okO_func okO_int okO_bool okO_string okO_ptr0 okO_slice0 okO_nilFunc okO_nilIface okO_map0 okO_agg wanted_none wanted_some lookT_some aopsL_nil aopsL_cons wpA_skip wpA_label wpA_exit wpA_goto wpA_ret wpA_seq wpA_block wpA_region wpA_cond wpA_loop wpA_rangeFunc wpA_draw thenQ_normal thenQ_exit thenQ_ret thenQ_panic blockQ_normal blockQ_ret blockQ_panic blockQ_exit funQ_ret funQ_normal funQ_panic op_move op_assign pickV_or pickV_and pickV_t pickV_f pickV_true pickV_false op_pick allocV_some op_alloc op_box op_load op_nilCheck op_bin op_un op_convert op_makeInterface op_makeSlice op_fieldAddr op_field op_indexAddr op_index op_extract op_typeAssert storeV_some op_store op_slice00 op_slice10 op_slice01 op_slice11 op_slice111 op_slice011 op_makeFunc callV_true op_call op_builtin panicV_iface op_panic ACallV_func ACallV_yield afterCall_returned afterCall_panicked bin_add bin_sub bin_mul bin_and bin_or bin_xor bin_andNot bin_eql bin_neq bin_lss bin_leq bin_gtr bin_geq bin_quo bin_rem bin_shl bin_shr bin_sadd bin_seql bin_sneq bin_slss uB_bool bin_beql bin_bneq uP_pointer bin_peql bin_pneq uS_slice bin_leql bin_lneq bin_ieql bin_ineq un_neg un_xor un_not nilCheck_ptr nilCheck_func nilCheck_yield load_ptr loadC_one loadC_agg store_ptr slice_eq sliceU_string sliceU_slice sliceU_array sliceS_eq boundsS_some sliceL_eq boundsL_nil boundsL_exact boundsL_least boundsL_own boundsL_ownN bounds_11 bounds_10 bounds_01 bounds_00 builtin_len len_string len_array len_slice builtin_append builtin_copy pairA_some builtin_min builtin_max min_two max_two index_eq index_string index_array indexAddr_eq indexAddr_array indexAddr_slice fieldAddr_eq posO_some fAddr_some fieldAddr_struct partC_some field_eq field_struct part_eq partU_one partU_agg extract_tuple conv_eq conv_int conv_string u8O_u8 conv_bytes conv_text_nil conv_text_zero conv_text mkIface_eq get_upd_same consO_some finR_0 finR_1 finR_2 aresL_nil aresL_cons ares1_tmp ares1_cell retV_some aleave_nil aleave_coll bnd_int bnd_bool bnd_string bnd_nilIface bnd_slice0 bnd_iface bnd_slice bnd_ptr bnd_ptr0 bndL_nil bndL_cons bndA_lit bnd_tuple bnd_agg calm_same skipC_eq aopsC_nil aopsC_cons stepC_call stepC_move stepC_assign stepC_pick stepC_alloc stepC_box stepC_build stepC_buildSlice stepC_load stepC_store stepC_nilCheck stepC_binOp stepC_unOp stepC_convert stepC_makeInterface stepC_makeFunc stepC_makeSlice stepC_slice stepC_fieldAddr stepC_field stepC_indexAddr stepC_index stepC_extract stepC_typeAssert stepC_builtin to_same sameA_eq aopsX_nil aopsX_cons stepX_heavy stepX_light lightK_eq allC_nil allC_cons hs_zero hs_succ stepT_call pure_call stepT_move pure_move stepT_assign pure_assign stepT_pick pure_pick stepT_alloc pure_alloc stepT_box pure_box stepT_build pure_build stepT_buildSlice pure_buildSlice stepT_load pure_load stepT_store pure_store stepT_nilCheck pure_nilCheck stepT_binOp pure_binOp stepT_unOp pure_unOp stepT_convert pure_convert stepT_makeInterface pure_makeInterface stepT_makeFunc pure_makeFunc stepT_makeSlice pure_makeSlice stepT_slice pure_slice stepT_fieldAddr pure_fieldAddr stepT_field pure_field stepT_indexAddr pure_indexAddr stepT_index pure_index stepT_extract pure_extract stepT_typeAssert pure_typeAssert stepT_builtin pure_b_len pure_b_append pure_b_copy pure_b_min pure_b_max leaveK_eq aleave_fn op_defer deferV_func resK_some defQ_ret defQ_normal storeC_int storeC_bool storeC_string storeC_slice storeC_func storeC_pointer len_cons len_nil cells_int cells_bool cells_string cells_slice cells_pointer cells_func cells_map cells_nilFunc cells_agg cell1_bool cell1_string cell1_slice cell1_pointer cell1_func cell1_i cell1_map cell1_nilFunc setList_nil setList_cons storeC_aggS fillP_nil fillP_cons fillAt_1 fillAt_n aggO_some sliceO_some places_0 places_s zerosR_0 zerosR_s thenElse_true evP_nil evP_cons okP_nil okP_cons op_buildL op_buildSliceL isBu_t isBu_f mk_E get_alloc_old get_alloc_new get_upd_old Try.agg1 Try.sz1 Try.byt1 Try.zero1 Try.agg2 Try.sz2 Try.byt2 Try.zero2 Try.agg3 Try.sz3 Try.byt3 Try.zero3 Try.agg4 Try.sz4 Try.byt4 Try.zero4 Try.agg5 Try.sz5 Try.byt5 Try.zero5 Try.agg6 Try.sz6 Try.byt6 Try.zero6 Try.agg7 Try.sz7 Try.byt7 Try.zero7 Try.agg8 Try.sz8 Try.byt8 Try.zero8 Try.agg9 Try.sz9 Try.byt9 Try.zero9 Try.agg10 Try.sz10 Try.byt10 Try.zero10 Try.agg11 Try.sz11 Try.byt11 Try.zero11 Try.agg12 Try.sz12 Try.byt12 Try.zero12 Try.agg13 Try.sz13 Try.byt13 Try.zero13 Try.agg14 Try.sz14 Try.byt14 Try.zero14 Try.agg15 Try.sz15 Try.byt15 Try.zero15 Try.agg16 Try.sz16 Try.byt16 Try.zero16 Try.agg17 Try.sz17 Try.byt17 Try.zero17 Try.agg18 Try.sz18 Try.byt18 Try.zero18 Try.agg19 Try.sz19 Try.byt19 Try.zero19 Try.agg20 Try.sz20 Try.byt20 Try.zero20 Try.agg21 Try.sz21 Try.byt21 Try.zero21 Try.agg22 Try.sz22 Try.byt22 Try.zero22 Try.agg23 Try.sz23 Try.byt23 Try.zero23 Try.agg24 Try.sz24 Try.byt24 Try.zero24 Try.agg25 Try.sz25 Try.byt25 Try.zero25 Try.agg27 Try.sz27 Try.byt27 Try.zero27 Try.agg28 Try.sz28 Try.byt28 Try.el28 Try.zero28 Try.agg30 Try.sz30 Try.byt30 Try.zero30 Try.agg31 Try.sz31 Try.byt31 Try.zero31 Try.agg32 Try.sz32 Try.byt32 Try.zero32 Try.agg33 Try.sz33 Try.byt33 Try.zero33 Try.agg34 Try.sz34 Try.byt34 Try.zero34 Try.agg35 Try.sz35 Try.byt35 Try.zero35 Try.agg36 Try.sz36 Try.byt36 Try.el36 Try.zero36 Try.agg38 Try.sz38 Try.byt38 Try.zero38 Try.agg39 Try.sz39 Try.byt39 Try.zero39 Try.agg40 Try.sz40 Try.byt40 Try.zero40 Try.agg41 Try.sz41 Try.byt41 Try.el41 Try.zero41 Try.agg42 Try.sz42 Try.byt42 Try.zero42 Try.agg43 Try.sz43 Try.byt43 Try.zero43 Try.agg44 Try.sz44 Try.byt44 Try.zero44 Try.agg46 Try.sz46 Try.byt46 Try.zero46 Try.agg47 Try.sz47 Try.byt47 Try.zero47 Try.agg48 Try.sz48 Try.byt48 Try.zero48 Try.agg49 Try.sz49 Try.byt49 Try.zero49 Try.agg50 Try.sz50 Try.byt50 Try.zero50 Try.agg51 Try.sz51 Try.byt51 Try.zero51 Try.agg52 Try.sz52 Try.byt52 Try.zero52 Try.agg53 Try.sz53 Try.byt53 Try.zero53 Try.agg54 Try.sz54 Try.byt54 Try.zero54 Try.agg55 Try.sz55 Try.byt55 Try.zero55 Try.agg56 Try.sz56 Try.byt56 Try.zero56 Try.agg57 Try.sz57 Try.byt57 Try.zero57 Try.agg58 Try.sz58 Try.byt58 Try.zero58 Try.agg59 Try.sz59 Try.byt59 Try.zero59 Try.agg60 Try.sz60 Try.byt60 Try.zero60 Try.agg61 Try.sz61 Try.byt61 Try.zero61 Try.agg62 Try.sz62 Try.byt62 Try.zero62 Try.agg63 Try.sz63 Try.byt63 Try.zero63 Try.agg64 Try.sz64 Try.byt64 Try.zero64 Try.agg65 Try.sz65 Try.byt65 Try.zero65 Try.agg66 Try.sz66 Try.byt66 Try.zero66 Try.agg67 Try.sz67 Try.byt67 Try.zero67 Try.agg68 Try.sz68 Try.byt68 Try.zero68 Try.build7 Try.build8 Try.build13 Try.build14 Try.build18 Try.build19 Try.bsl28 Try.bsl36 Try.bsl41 Try.build54 Try.build55 Try.build57 Try.build58 Try.build66 Try.build67 Try.underlying1 Try.underlying2 Try.underlying3 Try.underlying4 Try.underlying5 Try.underlying6 Try.underlying7 Try.underlying8 Try.underlying9 Try.underlying10 Try.underlying11 Try.underlying12 Try.underlying13 Try.underlying14 Try.underlying15 Try.underlying16 Try.underlying17 Try.underlying18 Try.underlying19 Try.underlying20 Try.underlying21 Try.underlying22 Try.underlying23 Try.underlying24 Try.underlying25 Try.underlying27 Try.underlying28 Try.underlying30 Try.underlying31 Try.underlying32 Try.underlying33 Try.underlying34 Try.underlying35 Try.underlying36 Try.underlying38 Try.underlying39 Try.underlying40 Try.underlying41 Try.underlying42 Try.underlying43 Try.underlying44 Try.underlying46 Try.underlying47 Try.underlying48 Try.underlying49 Try.underlying50 Try.underlying51 Try.underlying52 Try.underlying53 Try.underlying54 Try.underlying55 Try.underlying56 Try.underlying57 Try.underlying58 Try.underlying59 Try.underlying60 Try.underlying61 Try.underlying62 Try.underlying63 Try.underlying64 Try.underlying65 Try.underlying66 Try.underlying67 Try.underlying68
/-- Bytes as a number, the lowest first. -/
def leV : List Int → Nat
  | [] => 0
  | b :: r => b.toNat + 256 * leV r
theorem leV_inj : ∀ (l m : List Int), l.length = m.length → (∀ x ∈ l, Byte x) → (∀ x ∈ m, Byte x) → leV l = leV m → l = m
  | [], [], _, _, _, _ => rfl
  | a :: l, b :: m, h, ha, hb, e => by
    have h1 := ha a (List.mem_cons_self ..)
    have h2 := hb b (List.mem_cons_self ..)
    unfold Byte at h1 h2
    simp only [leV] at e
    have e1 : a = b := by omega
    have e2 : leV l = leV m := by omega
    rw [e1, leV_inj l m (by simpa using h) (fun x hx => ha x (List.mem_cons_of_mem _ hx)) (fun x hx => hb x (List.mem_cons_of_mem _ hx)) e2]
theorem mul_xor (a b s : Nat) : (a ^^^ b) * 2 ^ s = a * 2 ^ s ^^^ b * 2 ^ s := by
  rw [← Nat.shiftLeft_eq, ← Nat.shiftLeft_eq, ← Nat.shiftLeft_eq, Nat.shiftLeft_xor_distrib]
theorem leV_set : ∀ (l : List Int) (j : Nat) (c d : Nat), (∀ x ∈ l, Byte x) → l[j]? = some (c : Int) → d < 256 → leV (l.set j ((c ^^^ d : Nat) : Int)) = leV l ^^^ (d * 256 ^ j)
  | [], j, c, d, _, h, _ => by simp at h
  | x :: l, 0, c, d, hb, h, hd => by
    simp at h
    subst h
    have hc := hb _ (List.mem_cons_self ..)
    unfold Byte at hc
    have hc' : c < 2 ^ 8 := by omega
    have hx : c ^^^ d < 2 ^ 8 := Nat.xor_lt_two_pow hc' hd
    simp only [List.set_cons_zero, leV, Int.toNat_natCast, Nat.pow_zero, Nat.mul_one]
    have e1 := xor_split (leV l) (c ^^^ d) 8 hx
    have e2 := xor_split (leV l) c 8 hc'
    rw [show (2 : Nat) ^ 8 = 256 from rfl] at e1 e2
    rw [Nat.add_comm, e1, Nat.add_comm c, e2, Nat.xor_assoc]
  | x :: l, j + 1, c, d, hb, h, hd => by
    have hx := hb x (List.mem_cons_self ..)
    unfold Byte at hx
    obtain ⟨y, rfl⟩ := Int.eq_ofNat_of_zero_le hx.1
    have hy : y < 2 ^ 8 := by omega
    simp only [List.set_cons_succ, leV, Int.toNat_natCast]
    rw [leV_set l j c d (fun z hz => hb z (List.mem_cons_of_mem _ hz)) (by simpa using h) hd]
    have e1 := xor_split (leV l ^^^ d * 256 ^ j) y 8 hy
    have e2 := xor_split (leV l) y 8 hy
    rw [show (2 : Nat) ^ 8 = 256 from rfl] at e1 e2
    rw [Nat.add_comm, e1, Nat.add_comm y, e2]
    have e3 : 256 * (leV l ^^^ d * 256 ^ j) = 256 * leV l ^^^ d * 256 ^ (j + 1) := by
      have e4 : ∀ a b : Nat, 256 * (a ^^^ b) = 256 * a ^^^ 256 * b := by
        intro a b
        have := mul_xor a b 8
        rw [show (2 : Nat) ^ 8 = 256 from rfl] at this
        rw [Nat.mul_comm 256, this, Nat.mul_comm a, Nat.mul_comm b]
      rw [e4, Nat.pow_succ, ← Nat.mul_assoc d, Nat.mul_comm 256 (d * 256 ^ j)]
    rw [e3]
    ac_rfl
/-- The sum's machine on a number. -/
theorem crcL_num : ∀ (l : List Int) (s : Nat), (∀ x ∈ l, Byte x) → crcL s (l.map Int.toNat) = crcI (8 * l.length) (s ^^^ leV l)
  | [], s, _ => by simp [crcL, leV, crcI]
  | x :: l, s, hb => by
    have hx := hb x (List.mem_cons_self ..)
    unfold Byte at hx
    obtain ⟨y, rfl⟩ := Int.eq_ofNat_of_zero_le hx.1
    have hy : y < 2 ^ 8 := by omega
    show crcL (crcB s y) (l.map Int.toNat) = _
    rw [crcL_num l _ fun z hz => hb z (List.mem_cons_of_mem _ hz), List.length_cons, show 8 * (l.length + 1) = 8 + 8 * l.length by omega, crcI_add]
    congr 1
    simp only [leV, Int.toNat_natCast]
    have e2 := xor_split (leV l) y 8 hy
    rw [show (2 : Nat) ^ 8 = 256 from rfl] at e2
    rw [Nat.add_comm y, e2]
    unfold crcB
    rw [show s ^^^ (256 * leV l ^^^ y) = (s ^^^ y) ^^^ 2 ^ 8 * leV l by rw [show (2 : Nat) ^ 8 = 256 from rfl]; ac_rfl, crcI_xor 8 (s ^^^ y), crcI_shift]
/-- A burst in what is summed turns the sum. -/
theorem sumZ_burst {h R R' : List Int} (hh : ∀ x ∈ h, Byte x) (hR : ∀ x ∈ R, Byte x) (hR' : ∀ x ∈ R', Byte x) (hl : R'.length = R.length) {M k : Nat} (hM : M < 4294967296) (h0 : M ≠ 0) (hk : k ≤ 8 * R.length) (e : leV R' = leV R ^^^ (M * 2 ^ k)) : sumZ (h ++ R') ≠ sumZ (h ++ R) := by
  intro hs
  have h1 := sumN_inj hs
  rw [List.map_append, List.map_append, crcL_append, crcL_append, crcL_num R' _ hR', crcL_num R _ hR, hl, e] at h1
  generalize crcL 4294967295 (h.map Int.toNat) = c at h1
  rw [← Nat.xor_assoc, crcI_xor, Nat.mul_comm M] at h1
  have h2 : crcI (8 * R.length) (2 ^ k * M) = 0 := by
    have : crcI (8 * R.length) (c ^^^ leV R) ^^^ (crcI (8 * R.length) (c ^^^ leV R) ^^^ crcI (8 * R.length) (2 ^ k * M)) = crcI (8 * R.length) (c ^^^ leV R) ^^^ crcI (8 * R.length) (c ^^^ leV R) := by rw [h1]
    rwa [← Nat.xor_assoc, Nat.xor_self, Nat.zero_xor] at this
  rw [show 8 * R.length = k + (8 * R.length - k) by omega, crcI_add, crcI_shift] at h2
  exact crcI_ne _ hM h0 h2
theorem beN_inj : ∀ (n : Nat) (l m : List Int), l.length = n → m.length = n → (∀ x ∈ l, Byte x) → (∀ x ∈ m, Byte x) → beN l = beN m → l = m := by
  intro n
  induction n with
  | zero => intro l m h1 h2 _ _ _; rw [List.eq_nil_of_length_eq_zero h1, List.eq_nil_of_length_eq_zero h2]
  | succ n ih =>
    intro l m h1 h2 hl hm e
    have hne : l ≠ [] := by intro h0; rw [h0] at h1; simp at h1
    have hne2 : m ≠ [] := by intro h0; rw [h0] at h2; simp at h2
    obtain ⟨l', c, rfl⟩ : ∃ l' c, l = l' ++ [c] := ⟨l.dropLast, l.getLast hne, (List.dropLast_concat_getLast hne).symm⟩
    obtain ⟨m', d, rfl⟩ : ∃ l' c, m = l' ++ [c] := ⟨m.dropLast, m.getLast hne2, (List.dropLast_concat_getLast hne2).symm⟩
    rw [beN_snoc, beN_snoc] at e
    have hc := hl c (by simp)
    have hd := hm d (by simp)
    unfold Byte at hc hd
    have e1 : c = d := by omega
    have e2 : beN l' = beN m' := by omega
    rw [e1, ih l' m' (by simpa using h1) (by simpa using h2) (fun x hx => hl x (List.mem_append_left _ hx)) (fun x hx => hm x (List.mem_append_left _ hx)) e2]
/-- Frames in parts. -/
theorem first_gen {q x r : List Int} (hx : x.length ≤ 1024) (hq : q.length = 4) : firstL (bigL x.length 2 ++ (q ++ (x ++ r))) = if (sumZ (bigL x.length 2 ++ x) : Int) ≠ beN q then ([], [], 100) else (x, r, 0) := by
  have h2 : (bigL x.length 2 ++ (q ++ (x ++ r))).take 2 = bigL x.length 2 := List.take_left' (bigL_length _ _)
  have hd2 : (bigL x.length 2 ++ (q ++ (x ++ r))).drop 2 = q ++ (x ++ r) := List.drop_left' (bigL_length _ _)
  have h4 : ((bigL x.length 2 ++ (q ++ (x ++ r))).drop 2).take 4 = q := by rw [hd2]; exact List.take_left' hq
  have hd6 : (bigL x.length 2 ++ (q ++ (x ++ r))).drop 6 = x ++ r := by rw [show 6 = 2 + 4 from rfl, ← List.drop_drop, hd2]; exact List.drop_left' hq
  have hn : beN (bigL x.length 2) = (x.length : Int) := by rw [beN_big, Nat.mod_eq_of_lt (by omega)]
  have hlen : (bigL x.length 2 ++ (q ++ (x ++ r))).length = 6 + x.length + r.length := by rw [List.length_append, List.length_append, List.length_append, bigL_length, hq]; omega
  unfold firstL
  rw [if_neg (by intro h; rw [h] at hlen; simp at hlen; omega), if_neg (by omega), h2, hn, hd6, h4, Int.toNat_natCast, List.take_left, List.drop_left, if_neg (by omega), if_neg (by rw [List.length_append]; omega)]
/-- The bits that are turned, so far. -/
def mI (b q i : Nat) : Nat := b % 2 ^ (min i q)
theorem mI_zero (b q : Nat) : mI b q 0 = 0 := by unfold mI; rw [Nat.zero_min, Nat.pow_zero, Nat.mod_one]
theorem mI_out {b q i : Nat} (h : q ≤ i) : mI b q (i + 1) = mI b q i := by unfold mI; rw [Nat.min_eq_right (by omega), Nat.min_eq_right h]
theorem mI_no {b q i : Nat} (h : i < q) (hb : b / 2 ^ i % 2 = 0) : mI b q (i + 1) = mI b q i := by
  unfold mI; rw [Nat.min_eq_left (by omega), Nat.min_eq_left (by omega), Nat.pow_succ, Nat.mod_mul, hb, Nat.mul_zero, Nat.add_zero]
theorem mI_yes {b q i : Nat} (h : i < q) (hb : b / 2 ^ i % 2 = 1) : mI b q (i + 1) = mI b q i ^^^ 2 ^ i ∧ mI b q (i + 1) ≠ 0 := by
  unfold mI
  rw [Nat.min_eq_left (by omega), Nat.min_eq_left (by omega), Nat.pow_succ, Nat.mod_mul, hb, Nat.mul_one]
  have hlt : b % 2 ^ i < 2 ^ i := Nat.mod_lt _ (Nat.two_pow_pos i)
  have hp := Nat.two_pow_pos i
  have := xor_split 1 (b % 2 ^ i) i hlt
  rw [Nat.mul_one] at this
  refine ⟨?_, by omega⟩
  rw [Nat.add_comm, this, Nat.xor_comm]
theorem mI_lt (b q i : Nat) (hb : b < 4294967296) : mI b q i < 4294967296 := Nat.lt_of_le_of_lt (Nat.mod_le _ _) hb
theorem set_mid {pre R suf : List Int} {j : Nat} {x : Int} (hj : j < R.length) : (pre ++ R ++ suf).set (pre.length + j) x = pre ++ R.set j x ++ suf := by
  rw [List.append_assoc, List.set_append_right _ _ (by omega), Nat.add_sub_cancel_left, List.set_append_left _ _ hj, List.append_assoc]
theorem get_mid {pre R suf : List Int} {j : Nat} (hj : j < R.length) : (pre ++ R ++ suf)[pre.length + j]? = R[j]? := by
  rw [List.append_assoc, List.getElem?_append_right (by omega), Nat.add_sub_cancel_left, List.getElem?_append_left hj]
end Go.Fw
