import Derived.Test.YtjdblefbbpfedaaFwB
set_option linter.unusedSimpArgs false
set_option linter.unusedVariables false
namespace Go.Fw
open Go.Proofs Go.RowKit
attribute [local go_sem] List.length_cons List.length_nil Nat.zero_add Nat.add_zero Nat.zero_mul Nat.mul_one Int.toNat_zero Int.toNat_natCast List.map_cons List.map_nil List.map_toArray List.toList_toArray List.append_toArray List.nil_append List.cons_append List.append_nil List.all_toArray List.all_cons List.all_nil Bool.and_true Bool.true_and Bool.and_self List.getElem?_toArray List.getElem?_cons_zero List.getElem?_cons_succ Option.bind_some Option.map_some id true_and and_true and_self St.next_alloc St.next_upd beq_self_eq_true Bool.not_true Bool.not_false Bool.false_eq_true false_implies true_implies Option.isNone_none Option.isNone_some Option.isSome_none Option.isSome_some ge_iff_le gt_iff_lt Nat.sub_zero Nat.add_assoc IntWalk.i64_in IntWalk.u64_in IntWalk.u8_in IntWalk.u32_in IntWalk.i32_in IntWalk.u16_in dec_not Bool.not_eq_true decide_true decide_false ne_eq not_true_eq_false not_false_eq_true Bool.true_or Bool.or_true Bool.or_false Bool.false_or Bool.and_false Bool.false_and upd_apply rd_eq ar_zero ar_succ ar_nil tm_size tm_getD tm_set E_tmps E_defers put_E put_none eval_tmp eval_const eval_func setArgs_0 setArgs_1 setArgs_2 append_lit stepV_some stepA_some guardO_true ifB_true ifB_false wantV_true wantV_false wantV_dec_t wantV_dec_f ifB_dec_t ifB_dec_f condV_bool dec_and dec_or isB_bool someB_t someB_f okO_tmp okO_func okO_int okO_bool okO_string okO_ptr0 okO_slice0 okO_nilFunc okO_nilIface okO_map0 okO_agg wanted_none wanted_some lookT_some aopsL_nil aopsL_cons wpA_skip wpA_label wpA_exit wpA_goto wpA_ret wpA_seq wpA_block wpA_region wpA_cond wpA_loop wpA_rangeFunc wpA_draw thenQ_normal thenQ_exit thenQ_ret thenQ_panic blockQ_normal blockQ_ret blockQ_panic blockQ_exit funQ_ret funQ_normal funQ_panic op_move op_assign pickV_or pickV_and pickV_t pickV_f pickV_true pickV_false op_pick allocV_some op_alloc op_box op_load op_nilCheck op_bin op_un op_convert op_makeInterface op_makeSlice op_fieldAddr op_field op_indexAddr op_index op_extract op_typeAssert storeV_some op_store op_slice00 op_slice10 op_slice01 op_slice11 op_slice111 op_slice011 op_build op_buildSlice op_makeFunc callV_true op_call op_builtin panicV_iface op_panic ACallV_func ACallV_yield afterCall_returned afterCall_panicked bin_add bin_sub bin_mul bin_and bin_or bin_xor bin_andNot bin_eql bin_neq bin_lss bin_leq bin_gtr bin_geq bin_quo bin_rem bin_shl bin_shr bin_sadd bin_seql bin_sneq bin_slss uB_bool bin_beql bin_bneq uP_pointer bin_peql bin_pneq uS_slice bin_leql bin_lneq bin_ieql bin_ineq un_neg un_xor un_not nilCheck_ptr nilCheck_func nilCheck_yield load_ptr loadC_one loadC_agg store_ptr slice_eq sliceU_string sliceU_slice sliceU_array sliceS_eq boundsS_some sliceL_eq boundsL_nil boundsL_exact boundsL_least boundsL_own boundsL_ownN bounds_11 bounds_10 bounds_01 bounds_00 builtin_len len_string len_array len_slice builtin_append builtin_copy pairA_some builtin_min builtin_max min_two max_two index_eq index_string index_array indexAddr_eq indexAddr_array indexAddr_slice fieldAddr_eq posO_some fAddr_some fieldAddr_struct partC_some field_eq field_struct part_eq partU_one partU_agg extract_tuple conv_eq conv_int conv_string u8O_u8 conv_bytes conv_text_nil conv_text_zero conv_text mkIface_eq get_upd_same consO_some finR_0 finR_1 finR_2 aresL_nil aresL_cons ares1_tmp ares1_cell retV_some aleave_nil aleave_coll bnd_int bnd_bool bnd_string bnd_nilIface bnd_slice0 bnd_iface bnd_slice bnd_ptr bnd_ptr0 bndL_nil bndL_cons bndA_lit bnd_tuple bnd_agg calm_same skipC_eq aopsC_nil aopsC_cons stepC_call stepC_move stepC_assign stepC_pick stepC_alloc stepC_box stepC_build stepC_buildSlice stepC_load stepC_store stepC_nilCheck stepC_binOp stepC_unOp stepC_convert stepC_makeInterface stepC_makeFunc stepC_makeSlice stepC_slice stepC_fieldAddr stepC_field stepC_indexAddr stepC_index stepC_extract stepC_typeAssert stepC_builtin to_same sameA_eq aopsX_nil aopsX_cons stepX_heavy stepX_light lightK_eq allC_nil allC_cons hs_zero hs_succ stepT_call pure_call stepT_move pure_move stepT_assign pure_assign stepT_pick pure_pick stepT_alloc pure_alloc stepT_box pure_box stepT_build pure_build stepT_buildSlice pure_buildSlice stepT_load pure_load stepT_store pure_store stepT_nilCheck pure_nilCheck stepT_binOp pure_binOp stepT_unOp pure_unOp stepT_convert pure_convert stepT_makeInterface pure_makeInterface stepT_makeFunc pure_makeFunc stepT_makeSlice pure_makeSlice stepT_slice pure_slice stepT_fieldAddr pure_fieldAddr stepT_field pure_field stepT_indexAddr pure_indexAddr stepT_index pure_index stepT_extract pure_extract stepT_typeAssert pure_typeAssert stepT_builtin pure_b_len pure_b_append pure_b_copy pure_b_min pure_b_max mk_E get_alloc_old get_alloc_new get_upd_old Try.agg1 Try.sz1 Try.byt1 Try.zero1 Try.agg2 Try.sz2 Try.byt2 Try.zero2 Try.agg3 Try.sz3 Try.byt3 Try.zero3 Try.agg4 Try.sz4 Try.byt4 Try.zero4 Try.agg5 Try.sz5 Try.byt5 Try.zero5 Try.agg6 Try.sz6 Try.byt6 Try.zero6 Try.agg7 Try.sz7 Try.byt7 Try.zero7 Try.agg8 Try.sz8 Try.byt8 Try.zero8 Try.agg9 Try.sz9 Try.byt9 Try.zero9 Try.agg10 Try.sz10 Try.byt10 Try.zero10 Try.agg11 Try.sz11 Try.byt11 Try.zero11 Try.agg12 Try.sz12 Try.byt12 Try.zero12 Try.agg13 Try.sz13 Try.byt13 Try.zero13 Try.agg14 Try.sz14 Try.byt14 Try.zero14 Try.agg15 Try.sz15 Try.byt15 Try.zero15 Try.agg16 Try.sz16 Try.byt16 Try.zero16 Try.agg17 Try.sz17 Try.byt17 Try.zero17 Try.agg18 Try.sz18 Try.byt18 Try.zero18 Try.agg19 Try.sz19 Try.byt19 Try.zero19 Try.agg20 Try.sz20 Try.byt20 Try.zero20 Try.agg21 Try.sz21 Try.byt21 Try.zero21 Try.agg22 Try.sz22 Try.byt22 Try.zero22 Try.agg23 Try.sz23 Try.byt23 Try.zero23 Try.agg24 Try.sz24 Try.byt24 Try.zero24 Try.agg26 Try.sz26 Try.byt26 Try.zero26 Try.agg27 Try.sz27 Try.byt27 Try.zero27 Try.agg28 Try.sz28 Try.byt28 Try.zero28 Try.agg29 Try.sz29 Try.byt29 Try.zero29 Try.agg30 Try.sz30 Try.byt30 Try.el30 Try.zero30 Try.agg31 Try.sz31 Try.byt31 Try.zero31 Try.agg33 Try.sz33 Try.byt33 Try.zero33 Try.agg34 Try.sz34 Try.byt34 Try.zero34 Try.agg35 Try.sz35 Try.byt35 Try.zero35 Try.agg36 Try.sz36 Try.byt36 Try.zero36 Try.agg37 Try.sz37 Try.byt37 Try.zero37 Try.agg38 Try.sz38 Try.byt38 Try.zero38 Try.agg39 Try.sz39 Try.byt39 Try.zero39 Try.agg41 Try.sz41 Try.byt41 Try.zero41 Try.agg42 Try.sz42 Try.byt42 Try.zero42 Try.agg43 Try.sz43 Try.byt43 Try.zero43 Try.agg44 Try.sz44 Try.byt44 Try.zero44 Try.agg45 Try.sz45 Try.byt45 Try.zero45 Try.agg46 Try.sz46 Try.byt46 Try.zero46 Try.agg47 Try.sz47 Try.byt47 Try.zero47 Try.agg48 Try.sz48 Try.byt48 Try.zero48 Try.agg49 Try.sz49 Try.byt49 Try.zero49 Try.agg50 Try.sz50 Try.byt50 Try.zero50 Try.agg51 Try.sz51 Try.byt51 Try.zero51 Try.agg52 Try.sz52 Try.byt52 Try.zero52 Try.agg53 Try.sz53 Try.byt53 Try.zero53 Try.agg54 Try.sz54 Try.byt54 Try.zero54 Try.agg55 Try.sz55 Try.byt55 Try.zero55 Try.agg56 Try.sz56 Try.byt56 Try.zero56 Try.agg57 Try.sz57 Try.byt57 Try.zero57 Try.agg58 Try.sz58 Try.byt58 Try.zero58 Try.agg59 Try.sz59 Try.byt59 Try.zero59 Try.agg60 Try.sz60 Try.byt60 Try.zero60 Try.agg61 Try.sz61 Try.byt61 Try.zero61 Try.agg62 Try.sz62 Try.byt62 Try.zero62 Try.underlying1 Try.underlying2 Try.underlying3 Try.underlying4 Try.underlying5 Try.underlying6 Try.underlying7 Try.underlying8 Try.underlying9 Try.underlying10 Try.underlying11 Try.underlying12 Try.underlying13 Try.underlying14 Try.underlying15 Try.underlying16 Try.underlying17 Try.underlying18 Try.underlying19 Try.underlying20 Try.underlying21 Try.underlying22 Try.underlying23 Try.underlying24 Try.underlying26 Try.underlying27 Try.underlying28 Try.underlying29 Try.underlying30 Try.underlying31 Try.underlying33 Try.underlying34 Try.underlying35 Try.underlying36 Try.underlying37 Try.underlying38 Try.underlying39 Try.underlying41 Try.underlying42 Try.underlying43 Try.underlying44 Try.underlying45 Try.underlying46 Try.underlying47 Try.underlying48 Try.underlying49 Try.underlying50 Try.underlying51 Try.underlying52 Try.underlying53 Try.underlying54 Try.underlying55 Try.underlying56 Try.underlying57 Try.underlying58 Try.underlying59 Try.underlying60 Try.underlying61 Try.underlying62

theorem enc_ne (m : Nat) : enc m ≠ [] := by
  by_cases h : m < 128
  · rw [enc_lt h]; simp
  · rw [enc_ge h]; simp
theorem enc_byte : ∀ (m : Nat), ∀ x ∈ enc m, Byte x := by
  intro m
  induction m using Nat.strongRecOn with
  | _ m ih =>
    intro x hx
    by_cases h : m < 128
    · rw [enc_lt h] at hx
      simp only [List.mem_cons, List.not_mem_nil, or_false] at hx
      subst hx; exact ⟨by omega, by omega⟩
    · rw [enc_ge h, List.mem_cons] at hx
      rcases hx with rfl | hx
      · exact ⟨by omega, by omega⟩
      · exact ih (m / 128) (by omega) x hx
theorem pow_lt64 {i : Nat} (hi : i ≤ 8) : 2 ^ (64 - 7 * i) = 128 * 2 ^ (64 - 7 * (i + 1)) := by
  rw [show 64 - 7 * i = 7 + (64 - 7 * (i + 1)) by omega, Nat.pow_add]
theorem pow_up (i : Nat) : (2 : Int) ^ (7 * (i + 1)) = 128 * 2 ^ (7 * i) := by rw [show 7 * (i + 1) = 7 + 7 * i by omega, Int.pow_add]; rfl
theorem getL_enc : ∀ (m k i : Nat) (n : Int) (r : List Int), k + i = 10 → i ≤ 9 → (0 < i → 0 < m) → m < 2 ^ (64 - 7 * i) → getL k i n (enc m ++ r) = (n + m * 2 ^ (7 * i), r, 0) := by
  intro m
  induction m using Nat.strongRecOn with
  | _ m ih =>
    intro k i n r hk hi hm hb
    obtain ⟨k, rfl⟩ : ∃ k', k = k' + 1 := ⟨9 - i, by omega⟩
    by_cases h : m < 128
    · rw [enc_lt h, List.singleton_append, getL_of, if_neg, if_pos (by omega)]
      · rw [show ((m : Int) % 128) = m by omega]
      · rintro (⟨rfl, h2⟩ | ⟨h1, h2⟩)
        · have : m < 2 := hb
          omega
        · have := hm h1; omega
    · have hi8 : i ≤ 8 := by
        rcases Nat.lt_or_ge i 9 with h9 | h9
        · omega
        · have : i = 9 := by omega
          subst this
          have : m < 2 := hb
          omega
      rw [enc_ge h, List.cons_append, getL_of, if_neg, if_neg (by omega)]
      · rw [pow_lt64 hi8] at hb
        rw [ih (m / 128) (by omega) k (i + 1) _ r (by omega) (by omega) (by omega) (by omega)]
        rw [pow_up, show ((m % 128 + 128 : Nat) : Int) % 128 = ((m % 128 : Nat) : Int) by omega]
        have e : (m : Int) = ((m % 128 : Nat) : Int) + 128 * ((m / 128 : Nat) : Int) := by omega
        have : n + ((m % 128 : Nat) : Int) * 2 ^ (7 * i) + ((m / 128 : Nat) : Int) * (128 * 2 ^ (7 * i)) = n + (m : Int) * 2 ^ (7 * i) := by
          conv => rhs; rw [e]
          rw [Int.add_mul, Int.add_assoc, ← Int.mul_assoc ((m / 128 : Nat) : Int), Int.mul_comm ((m / 128 : Nat) : Int) 128]
        rw [this]
      · rintro (⟨rfl, h2⟩ | ⟨h1, h2⟩) <;> omega
theorem getL_short : ∀ (m k i : Nat) (n : Int), k + i = 10 → i ≤ 9 → (0 < i → 0 < m) → m < 2 ^ (64 - 7 * i) → getL k i n (enc m).dropLast = (0, [], 40) := by
  intro m
  induction m using Nat.strongRecOn with
  | _ m ih =>
    intro k i n hk hi hm hb
    obtain ⟨k, rfl⟩ : ∃ k', k = k' + 1 := ⟨9 - i, by omega⟩
    by_cases h : m < 128
    · rw [enc_lt h]; rfl
    · have hi8 : i ≤ 8 := by
        rcases Nat.lt_or_ge i 9 with h9 | h9
        · omega
        · have : i = 9 := by omega
          subst this
          have : m < 2 := hb
          omega
      rw [enc_ge h, List.dropLast_cons_of_ne_nil (enc_ne _), getL_of, if_neg, if_neg (by omega)]
      · rw [pow_lt64 hi8] at hb
        exact ih (m / 128) (by omega) k (i + 1) _ (by omega) (by omega) (by omega) (by omega)
      · rintro (⟨rfl, h2⟩ | ⟨h1, h2⟩) <;> omega
theorem getL_inv : ∀ (k i : Nat) (n : Int) (l : List Int) (N : Int) (r : List Int), k + i = 10 → (∀ x ∈ l, Byte x) → getL k i n l = (N, r, 0) → ∃ m : Nat, l = enc m ++ r ∧ N = n + m * 2 ^ (7 * i) ∧ (0 < i → 0 < m) ∧ m < 2 ^ (64 - 7 * i)
  | 0, i, n, l, N, r, hk, hl, h => by simp [getL] at h
  | k + 1, i, n, [], N, r, hk, hl, h => by simp [getL] at h
  | k + 1, i, n, c :: l, N, r, hk, hl, h => by
    have hc := hl c (List.mem_cons_self ..)
    have hc0 := hc.1
    have hc1 := hc.2
    rw [getL_of] at h
    split at h
    · simp at h
    · rename_i hbad
      have hb1 : ¬ (i = 9 ∧ c > 1) := fun x => hbad (.inl x)
      have hb2 : ¬ (i > 0 ∧ c = 0) := fun x => hbad (.inr x)
      split at h
      · rename_i h128
        obtain ⟨m, rfl⟩ := Int.eq_ofNat_of_zero_le hc0
        simp only [Prod.mk.injEq] at h
        refine ⟨m, ?_, ?_, by omega, ?_⟩
        · rw [enc_lt (by omega), h.2.1]; rfl
        · rw [← h.1, show ((m : Int) % 128) = m by omega]
        · rcases Nat.lt_or_ge i 9 with h9 | h9
          · have : 2 ^ 8 ≤ 2 ^ (64 - 7 * i) := Nat.pow_le_pow_right (by omega) (by omega)
            omega
          · have : i = 9 := by omega
            subst this
            show m < 2
            omega
      · rename_i h128
        obtain ⟨m', rfl, h2, h3, h4⟩ := getL_inv k (i + 1) _ l N r (by omega) (fun x hx => hl x (List.mem_cons_of_mem _ hx)) h
        have h3 := h3 (by omega)
        have hi8 : i ≤ 8 := by
          rcases Nat.lt_or_ge i 9 with h9 | h9
          · omega
          · omega
        obtain ⟨d, rfl⟩ := Int.eq_ofNat_of_zero_le hc0
        refine ⟨d - 128 + 128 * m', ?_, ?_, by omega, ?_⟩
        · rw [enc_ge (n := d - 128 + 128 * m') (by omega), show (d - 128 + 128 * m') % 128 + 128 = d by omega, show (d - 128 + 128 * m') / 128 = m' by omega]; rfl
        · rw [h2, pow_up, show ((d : Int) % 128) = ((d - 128 : Nat) : Int) by omega]
          rw [show ((d - 128 + 128 * m' : Nat) : Int) = ((d - 128 : Nat) : Int) + 128 * (m' : Int) by omega, Int.add_mul, Int.add_assoc, ← Int.mul_assoc (m' : Int), Int.mul_comm (m' : Int) 128]
        · rw [pow_lt64 hi8]; omega
theorem getL_err : ∀ (k i : Nat) (n : Int) (l : List Int), (getL k i n l).2.2 ≠ 0 → (getL k i n l).1 = 0 ∧ (getL k i n l).2.1 = [] ∧ ((getL k i n l).2.2 = 40 ∧ l.length < k ∨ (getL k i n l).2.2 = 41)
  | 0, i, n, l, h => ⟨rfl, rfl, .inr rfl⟩
  | k + 1, i, n, [], h => ⟨rfl, rfl, .inl ⟨rfl, by simp⟩⟩
  | k + 1, i, n, c :: l, h => by
    rw [getL_of] at h ⊢
    split
    · exact ⟨rfl, rfl, .inr rfl⟩
    · rename_i hb
      rw [if_neg hb] at h
      split
      · rename_i h1
        rw [if_pos h1] at h
        exact absurd rfl h
      · rename_i h1
        rw [if_neg h1] at h
        obtain ⟨h2, h3, h4⟩ := getL_err k (i + 1) _ l h
        refine ⟨h2, h3, ?_⟩
        rcases h4 with ⟨h5, h6⟩ | h5
        · exact .inl ⟨h5, by simp; omega⟩
        · exact .inr h5
end Go.Fw
