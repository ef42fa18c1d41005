import Derived.Test.YtbiebjcnkjbakaaFwD
set_option linter.unusedSimpArgs false
set_option linter.unusedVariables false
namespace Go.Fw
open Go.Proofs Go.RowKit
attribute [local go_sem] List.length_cons List.length_nil Nat.zero_add Nat.add_zero Nat.zero_mul Nat.mul_one Int.toNat_zero Int.toNat_natCast List.map_cons List.map_nil List.map_toArray List.toList_toArray List.append_toArray List.append_eq List.nil_append List.cons_append List.append_nil List.all_toArray List.all_cons List.all_nil Bool.and_true Bool.true_and Bool.and_self List.getElem?_toArray List.getElem?_cons_zero List.getElem?_cons_succ List.set_cons_zero List.set_cons_succ List.drop_zero List.drop_succ_cons List.take_zero List.take_succ_cons Option.bind_some Option.map_some id true_and and_true and_self St.next_alloc St.next_upd beq_self_eq_true Bool.not_true Bool.not_false Bool.false_eq_true false_implies true_implies Option.isNone_none Option.isNone_some Option.isSome_none Option.isSome_some ge_iff_le gt_iff_lt Nat.sub_zero Nat.add_assoc IntWalk.i64_in IntWalk.u64_in IntWalk.u8_in IntWalk.u32_in IntWalk.i32_in IntWalk.u16_in dec_not Bool.not_eq_true decide_true decide_false ne_eq not_true_eq_false not_false_eq_true Bool.true_or Bool.or_true Bool.or_false Bool.false_or Bool.and_false Bool.false_and upd_apply rd_eq ar_zero ar_succ ar_nil tm_size tm_getD tm_set E_tmps E_defers put_E put_none eval_tmp eval_const eval_func setArgs_0 setArgs_1 setArgs_2 append_lit stepV_some stepA_some guardO_true ifB_true ifB_false wantV_true wantV_false wantV_dec_t wantV_dec_f ifB_dec_t ifB_dec_f condV_bool dec_and dec_or isB_bool someB_t someB_f okO_tmp okO_func okO_int okO_bool okO_string okO_ptr0 okO_slice0 okO_nilFunc okO_nilIface okO_map0 okO_agg wanted_none wanted_some lookT_some aopsL_nil aopsL_cons wpA_skip wpA_label wpA_exit wpA_goto wpA_ret wpA_seq wpA_block wpA_region wpA_cond wpA_loop wpA_rangeFunc wpA_draw thenQ_normal thenQ_exit thenQ_ret thenQ_panic blockQ_normal blockQ_ret blockQ_panic blockQ_exit funQ_ret funQ_normal funQ_panic op_move op_assign pickV_or pickV_and pickV_t pickV_f pickV_true pickV_false op_pick allocV_some op_alloc op_box op_load op_nilCheck op_bin op_un op_convert op_makeInterface op_makeSlice op_fieldAddr op_field op_indexAddr op_index op_extract op_typeAssert storeV_some op_store op_slice00 op_slice10 op_slice01 op_slice11 op_slice111 op_slice011 op_makeFunc callV_true op_call op_builtin panicV_iface op_panic ACallV_func ACallV_yield afterCall_returned afterCall_panicked bin_add bin_sub bin_mul bin_and bin_or bin_xor bin_andNot bin_eql bin_neq bin_lss bin_leq bin_gtr bin_geq bin_quo bin_rem bin_shl bin_shr bin_sadd bin_seql bin_sneq bin_slss uB_bool bin_beql bin_bneq uP_pointer bin_peql bin_pneq uS_slice bin_leql bin_lneq bin_ieql bin_ineq un_neg un_xor un_not nilCheck_ptr nilCheck_func nilCheck_yield load_ptr loadC_one loadC_agg store_ptr slice_eq sliceU_string sliceU_slice sliceU_array sliceS_eq boundsS_some sliceL_eq boundsL_nil boundsL_exact boundsL_least boundsL_own boundsL_ownN bounds_11 bounds_10 bounds_01 bounds_00 builtin_len len_string len_array len_slice builtin_append builtin_copy pairA_some builtin_min builtin_max min_two max_two index_eq index_string index_array indexAddr_eq indexAddr_array indexAddr_slice fieldAddr_eq posO_some fAddr_some fieldAddr_struct partC_some field_eq field_struct part_eq partU_one partU_agg extract_tuple conv_eq conv_int conv_string u8O_u8 conv_bytes conv_text_nil conv_text_zero conv_text mkIface_eq get_upd_same consO_some finR_0 finR_1 finR_2 aresL_nil aresL_cons ares1_tmp ares1_cell retV_some aleave_nil aleave_coll bnd_int bnd_bool bnd_string bnd_nilIface bnd_slice0 bnd_iface bnd_slice bnd_ptr bnd_ptr0 bndL_nil bndL_cons bndA_lit bnd_tuple bnd_agg calm_same skipC_eq aopsC_nil aopsC_cons stepC_call stepC_move stepC_assign stepC_pick stepC_alloc stepC_box stepC_build stepC_buildSlice stepC_load stepC_store stepC_nilCheck stepC_binOp stepC_unOp stepC_convert stepC_makeInterface stepC_makeFunc stepC_makeSlice stepC_slice stepC_fieldAddr stepC_field stepC_indexAddr stepC_index stepC_extract stepC_typeAssert stepC_builtin to_same sameA_eq aopsX_nil aopsX_cons stepX_heavy stepX_light lightK_eq allC_nil allC_cons hs_zero hs_succ stepT_call pure_call stepT_move pure_move stepT_assign pure_assign stepT_pick pure_pick stepT_alloc pure_alloc stepT_box pure_box stepT_build pure_build stepT_buildSlice pure_buildSlice stepT_load pure_load stepT_store pure_store stepT_nilCheck pure_nilCheck stepT_binOp pure_binOp stepT_unOp pure_unOp stepT_convert pure_convert stepT_makeInterface pure_makeInterface stepT_makeFunc pure_makeFunc stepT_makeSlice pure_makeSlice stepT_slice pure_slice stepT_fieldAddr pure_fieldAddr stepT_field pure_field stepT_indexAddr pure_indexAddr stepT_index pure_index stepT_extract pure_extract stepT_typeAssert pure_typeAssert stepT_builtin pure_b_len pure_b_append pure_b_copy pure_b_min pure_b_max leaveK_eq aleave_fn op_defer deferV_func resK_some defQ_ret defQ_normal storeC_int storeC_bool storeC_string storeC_slice storeC_func storeC_pointer len_cons len_nil cells_int cells_bool cells_string cells_slice cells_pointer cells_func cells_map cells_nilFunc cells_agg cell1_bool cell1_string cell1_slice cell1_pointer cell1_func cell1_i cell1_map cell1_nilFunc setList_nil setList_cons storeC_aggS fillP_nil fillP_cons fillAt_1 fillAt_n aggO_some sliceO_some places_0 places_s zerosR_0 zerosR_s thenElse_true evP_nil evP_cons okP_nil okP_cons op_buildL op_buildSliceL mk_E get_alloc_old get_alloc_new get_upd_old Try.agg1 Try.sz1 Try.byt1 Try.zero1 Try.agg2 Try.sz2 Try.byt2 Try.zero2 Try.agg3 Try.sz3 Try.byt3 Try.zero3 Try.agg4 Try.sz4 Try.byt4 Try.zero4 Try.agg5 Try.sz5 Try.byt5 Try.zero5 Try.agg6 Try.sz6 Try.byt6 Try.zero6 Try.agg7 Try.sz7 Try.byt7 Try.zero7 Try.agg8 Try.sz8 Try.byt8 Try.zero8 Try.agg9 Try.sz9 Try.byt9 Try.zero9 Try.agg10 Try.sz10 Try.byt10 Try.zero10 Try.agg11 Try.sz11 Try.byt11 Try.zero11 Try.agg12 Try.sz12 Try.byt12 Try.zero12 Try.agg13 Try.sz13 Try.byt13 Try.zero13 Try.agg14 Try.sz14 Try.byt14 Try.zero14 Try.agg15 Try.sz15 Try.byt15 Try.zero15 Try.agg16 Try.sz16 Try.byt16 Try.zero16 Try.agg17 Try.sz17 Try.byt17 Try.zero17 Try.agg18 Try.sz18 Try.byt18 Try.zero18 Try.agg19 Try.sz19 Try.byt19 Try.zero19 Try.agg20 Try.sz20 Try.byt20 Try.zero20 Try.agg21 Try.sz21 Try.byt21 Try.zero21 Try.agg22 Try.sz22 Try.byt22 Try.el22 Try.zero22 Try.agg23 Try.sz23 Try.byt23 Try.zero23 Try.agg24 Try.sz24 Try.byt24 Try.zero24 Try.agg26 Try.sz26 Try.byt26 Try.zero26 Try.agg27 Try.sz27 Try.byt27 Try.zero27 Try.agg28 Try.sz28 Try.byt28 Try.el28 Try.zero28 Try.agg29 Try.sz29 Try.byt29 Try.zero29 Try.agg30 Try.sz30 Try.byt30 Try.zero30 Try.agg31 Try.sz31 Try.byt31 Try.zero31 Try.agg32 Try.sz32 Try.byt32 Try.zero32 Try.agg33 Try.sz33 Try.byt33 Try.zero33 Try.agg34 Try.sz34 Try.byt34 Try.zero34 Try.agg35 Try.sz35 Try.byt35 Try.zero35 Try.agg36 Try.sz36 Try.byt36 Try.zero36 Try.agg38 Try.sz38 Try.byt38 Try.zero38 Try.agg39 Try.sz39 Try.byt39 Try.zero39 Try.agg40 Try.sz40 Try.byt40 Try.zero40 Try.agg41 Try.sz41 Try.byt41 Try.el41 Try.zero41 Try.agg42 Try.sz42 Try.byt42 Try.zero42 Try.agg43 Try.sz43 Try.byt43 Try.zero43 Try.agg44 Try.sz44 Try.byt44 Try.zero44 Try.agg45 Try.sz45 Try.byt45 Try.zero45 Try.agg46 Try.sz46 Try.byt46 Try.zero46 Try.agg47 Try.sz47 Try.byt47 Try.zero47 Try.agg48 Try.sz48 Try.byt48 Try.el48 Try.zero48 Try.agg49 Try.sz49 Try.byt49 Try.zero49 Try.agg50 Try.sz50 Try.byt50 Try.zero50 Try.agg51 Try.sz51 Try.byt51 Try.zero51 Try.agg52 Try.sz52 Try.byt52 Try.zero52 Try.agg53 Try.sz53 Try.byt53 Try.zero53 Try.agg54 Try.sz54 Try.byt54 Try.zero54 Try.agg55 Try.sz55 Try.byt55 Try.zero55 Try.agg56 Try.sz56 Try.byt56 Try.zero56 Try.agg57 Try.sz57 Try.byt57 Try.zero57 Try.agg58 Try.sz58 Try.byt58 Try.zero58 Try.agg59 Try.sz59 Try.byt59 Try.zero59 Try.agg60 Try.sz60 Try.byt60 Try.zero60 Try.agg61 Try.sz61 Try.byt61 Try.zero61 Try.agg62 Try.sz62 Try.byt62 Try.zero62 Try.agg63 Try.sz63 Try.byt63 Try.zero63 Try.agg64 Try.sz64 Try.byt64 Try.zero64 Try.agg65 Try.sz65 Try.byt65 Try.zero65 Try.agg66 Try.sz66 Try.byt66 Try.zero66 Try.agg67 Try.sz67 Try.byt67 Try.zero67 Try.agg68 Try.sz68 Try.byt68 Try.zero68 Try.agg69 Try.sz69 Try.byt69 Try.zero69 Try.agg70 Try.sz70 Try.byt70 Try.zero70 Try.agg71 Try.sz71 Try.byt71 Try.zero71 Try.agg72 Try.sz72 Try.byt72 Try.zero72 Try.agg73 Try.sz73 Try.byt73 Try.zero73 Try.agg74 Try.sz74 Try.byt74 Try.zero74 Try.agg75 Try.sz75 Try.byt75 Try.zero75 Try.agg76 Try.sz76 Try.byt76 Try.zero76 Try.agg77 Try.sz77 Try.byt77 Try.zero77 Try.agg78 Try.sz78 Try.byt78 Try.zero78 Try.build7 Try.build8 Try.build13 Try.build14 Try.build18 Try.build19 Try.bsl22 Try.bsl28 Try.bsl41 Try.build42 Try.build43 Try.build46 Try.build47 Try.bsl48 Try.build56 Try.build59 Try.build60 Try.build65 Try.build66 Try.build68 Try.build69 Try.build76 Try.build77 Try.underlying1 Try.underlying2 Try.underlying3 Try.underlying4 Try.underlying5 Try.underlying6 Try.underlying7 Try.underlying8 Try.underlying9 Try.underlying10 Try.underlying11 Try.underlying12 Try.underlying13 Try.underlying14 Try.underlying15 Try.underlying16 Try.underlying17 Try.underlying18 Try.underlying19 Try.underlying20 Try.underlying21 Try.underlying22 Try.underlying23 Try.underlying24 Try.underlying26 Try.underlying27 Try.underlying28 Try.underlying29 Try.underlying30 Try.underlying31 Try.underlying32 Try.underlying33 Try.underlying34 Try.underlying35 Try.underlying36 Try.underlying38 Try.underlying39 Try.underlying40 Try.underlying41 Try.underlying42 Try.underlying43 Try.underlying44 Try.underlying45 Try.underlying46 Try.underlying47 Try.underlying48 Try.underlying49 Try.underlying50 Try.underlying51 Try.underlying52 Try.underlying53 Try.underlying54 Try.underlying55 Try.underlying56 Try.underlying57 Try.underlying58 Try.underlying59 Try.underlying60 Try.underlying61 Try.underlying62 Try.underlying63 Try.underlying64 Try.underlying65 Try.underlying66 Try.underlying67 Try.underlying68 Try.underlying69 Try.underlying70 Try.underlying71 Try.underlying72 Try.underlying73 Try.underlying74 Try.underlying75 Try.underlying76 Try.underlying77 Try.underlying78
theorem Try.enters9 : Enters Try.prog 9 := enters_of Try.func9 rfl (by kernel_rfl)
theorem packW_lt (l : List (Int × Int)) (hl : ∀ p ∈ l, PcOk p) : ∀ i, (packW (l.take i)).1 < 2 ^ (packW (l.take i)).2
  | 0 => by simp [packW]
  | i + 1 => by
    have ih := packW_lt l hl i
    rcases h : l[i]? with _ | p
    · rw [List.getElem?_eq_none_iff] at h
      rw [List.take_of_length_le (by omega)] at ih ⊢
      exact ih
    · rw [packW_snoc l i p h]
      unfold stP
      split
      · rename_i hm
        obtain ⟨h1, h2, h3⟩ := mayB_iff hm
        have h0 := (hl p (List.mem_of_getElem? h)).1
        have h4 : p.1.toNat < 2 ^ p.2.toNat := by
          have : ((p.1.toNat : Nat) : Int) < ((2 ^ p.2.toNat : Nat) : Int) := by rw [Int.toNat_of_nonneg h0, Int.natCast_pow]; exact h3
          exact Int.ofNat_lt.1 this
        show _ + _ < 2 ^ (_ + _)
        rw [Nat.pow_add]
        generalize (packW (l.take i)).1 = V at *
        generalize 2 ^ (packW (l.take i)).2 = Y at *
        have : (p.1.toNat + 1) * Y ≤ 2 ^ p.2.toNat * Y := Nat.mul_le_mul_right _ h4
        rw [Nat.add_mul, Nat.one_mul] at this
        rw [Nat.mul_comm Y]
        omega
      · exact ih
theorem Inv.lt {acc : List Int} {hold held V W : Nat} (h : Inv acc hold held V W) (hv : V < 2 ^ W) : hold < 2 ^ held := by
  rw [h.rest, pow256]
  apply Nat.div_lt_of_lt_mul
  rw [← Nat.pow_add, h.many]; exact hv
theorem Inv.add {acc : List Int} {hold held V W n wd : Nat} (h : Inv acc hold held V W) : Inv acc (hold + n * 2 ^ held) (held + wd) (V + n * 2 ^ W) (W + wd) := by
  have hm := h.many
  refine ⟨?_, ?_, by omega⟩
  · rw [le_add _ _ _ _ (by omega)]; exact h.row
  · rw [div_add_pow _ _ _ _ (by omega), ← h.rest, show W - 8 * acc.length = held by omega]
theorem FlS.upd {A : St} {hd bb ho lo c : Nat} {s : List Int × Nat × Nat} (h : FlS A hd bb ho lo s) (B : Option Blk) (hc : c < lo ∧ c ≠ hd ∧ c ≠ bb ∧ c ≠ ho) : FlS (A.upd c B) hd bb ho lo s := by
  obtain ⟨h1, h2, ⟨v, h3, h4⟩, h5⟩ := h
  exact ⟨(get_upd_old (by omega)).trans h1, (get_upd_old (by omega)).trans h2, ⟨v, (get_upd_old (by omega)).trans h3, h4.keep (Nat.le_refl _) (fun b _ q _ => get_upd_old (by omega)) (Nat.le_refl _)⟩, h5⟩
structure PackJ (A : St) (l : List (Int × Int)) (v : Value) (T : Blk) (i : Nat) (A' : St) : Prop where
  over : Over A A'
  cv : A'.get (A.next + 5) = some (.cells [v] 22 (some 0))
  dfr : A'.get (A.next + 6) = some (.dfr false)
  loop : A'.get (A.next + 7) = some T
  many : A'.get (A.next + 3) = some (.cells [.int .i64 ((l.take i).countP mayB : Nat)] 3 (some 0))
  fl : A'.get (A.next + 4) = some (.cells [.func (.func 21) #[] #[.pointer (some ⟨A.next + 2, 0, none⟩), .pointer (some ⟨A.next, 0, none⟩), .pointer (some ⟨A.next + 1, 0, none⟩)]] 51 (some 0))
  st : ∃ acc hold held, FlS A' (A.next + 2) A.next (A.next + 1) (A.next + 8) (acc, hold, held) ∧ Inv acc hold held (packW (l.take i)).1 (packW (l.take i)).2 ∧ held < 8
theorem PackJ.lo {A A' : St} {l : List (Int × Int)} {v : Value} {T : Blk} {i : Nat} (h : PackJ A l v T i A') : A.next + 8 ≤ A'.next := by
  obtain ⟨_, _, _, h, _⟩ := h.st; exact h.next
theorem PackJ.mono {A A' A2 : St} {l : List (Int × Int)} {v : Value} {T : Blk} {i : Nat} (h : PackJ A l v T i A') (o : Over A' A2) : PackJ A l v T i A2 := by
  have hlo := h.lo
  obtain ⟨h1, h2, h3, h4, h5, h6, acc, hold, held, h7, h8⟩ := h
  exact ⟨⟨Nat.le_trans h1.next o.next, fun b hb => (o.get b (by omega)).trans (h1.get b hb)⟩, (o.get _ (by omega)).trans h2, (o.get _ (by omega)).trans h3, (o.get _ (by omega)).trans h4, (o.get _ (by omega)).trans h5, (o.get _ (by omega)).trans h6, acc, hold, held, h7.over ⟨by omega, by omega, by omega⟩ o, h8⟩
theorem u64_shl (n k : Nat) (hk : k < 8) (hn : n < 16777216) : ishl .u64 (n : Int) (k : Int) = ((n * 2 ^ k : Nat) : Int) := by
  have hp : 2 ^ k ≤ 2 ^ 7 := Nat.pow_le_pow_right (by decide) (by omega)
  have h : n * 2 ^ k ≤ 16777216 * 2 ^ 7 := Nat.mul_le_mul (by omega) hp
  have e : ((n * 2 ^ k : Nat) : Int) = (n : Int) * 2 ^ k := by rw [Int.natCast_mul, Int.natCast_pow]; rfl
  rw [ishl_eq .u64 rfl (n : Int) k (by simp only [IntKind.bits]; omega) (by omega) (by rw [← e]; simp only [IntKind.bits]; omega), e]
theorem u64_or (h n k : Nat) (hk : k < 8) (hn : n < 16777216) (hh : h < 2 ^ k) : ibits .or .u64 (h : Int) ((n * 2 ^ k : Nat) : Int) = ((h + n * 2 ^ k : Nat) : Int) := by
  have hp : 2 ^ k ≤ 2 ^ 7 := Nat.pow_le_pow_right (by decide) (by omega)
  have h1 : n * 2 ^ k ≤ 16777216 * 2 ^ 7 := Nat.mul_le_mul (by omega) hp
  have e : ((n * 2 ^ k : Nat) : Int) = (n : Int) * 2 ^ k := by rw [Int.natCast_mul, Int.natCast_pow]; rfl
  have hh' : (h : Int) < 2 ^ k := by rw [show ((2 : Int) ^ k) = ((2 ^ k : Nat) : Int) by rw [Int.natCast_pow]; rfl]; exact Int.ofNat_lt.2 hh
  rw [e, or_add .u64 rfl (h : Int) (n : Int) k (by omega) hh' (by omega) (by rw [← e]; simp only [IntKind.bits]; omega), Int.natCast_add, e]
theorem bnd_packR (n : Nat) (l : List (Int × Int)) : Bnd n (packR l) := by
  unfold packR; split <;> simp only [bnd_tuple, bndL_cons, bndL_nil, bnd_int, bnd_string, and_self]
set_option maxHeartbeats 4000000 in
theorem pack_ok (w0 : World) (A : St) (v : Value) (l : List (Int × Int)) (hl : ∀ p ∈ l, PcOk p) (hlen : l.length ≤ 1073741824) (hv : PcsAt A v l) : ACalls Try.prog w0 9 #[v] A (fin (packR l) A) := by
  refine call_E Try.enters9 Try.func9 rfl (Nat.le_of_ble_eq_true rfl) fun hw hbd => ?_
  simp (maxSteps := 1000000) (disch := (first | omega | (simp only [nx_alloc, nx_upd, len_cons, len_nil, List.length_set, List.length_map, List.length_append] <;> omega) | fail)) only [Nat.reduceAdd, Nat.reduceSub, Nat.reduceMul, Nat.reduceLT, Nat.reduceLeDiff, Nat.reduceEqDiff, ↓reduceIte, reduceCtorEq, Int.reduceAdd, Int.reduceSub, Int.reduceMul, Int.reduceLT, Int.reduceLE, Int.reduceEq, Int.reduceNe, Int.reduceToNat, Int.reduceNeg, go_sem, Try.ntmps9, Try.results9]
  refine call1 (right_ok w0 _ _) ?_
  have hc1 : v.cells.toList = [v] := hv.cells1
  rw [hc1]
  simp (maxSteps := 1000000) (disch := (first | omega | (simp only [nx_alloc, nx_upd, len_cons, len_nil, List.length_set, List.length_map, List.length_append] <;> omega) | fail)) only [Nat.reduceAdd, Nat.reduceSub, Nat.reduceMul, Nat.reduceLT, Nat.reduceLeDiff, Nat.reduceEqDiff, ↓reduceIte, reduceCtorEq, Int.reduceAdd, Int.reduceSub, Int.reduceMul, Int.reduceLT, Int.reduceLE, Int.reduceEq, Int.reduceNe, Int.reduceToNat, Int.reduceNeg, go_sem]
  refine aw_rangeFunc_E (by simp (maxSteps := 1000000) (disch := (first | omega | (simp only [nx_alloc, nx_upd, len_cons, len_nil, List.length_set, List.length_map, List.length_append] <;> omega) | fail)) only [Nat.reduceAdd, Nat.reduceSub, Nat.reduceMul, Nat.reduceLT, Nat.reduceLeDiff, Nat.reduceEqDiff, ↓reduceIte, reduceCtorEq, Int.reduceAdd, Int.reduceSub, Int.reduceMul, Int.reduceLT, Int.reduceLE, Int.reduceEq, Int.reduceNe, Int.reduceToNat, Int.reduceNeg, go_sem]; rfl) rfl ?_
  simp (maxSteps := 1000000) (disch := (first | omega | (simp only [nx_alloc, nx_upd, len_cons, len_nil, List.length_set, List.length_map, List.length_append] <;> omega) | fail)) only [Nat.reduceAdd, Nat.reduceSub, Nat.reduceMul, Nat.reduceLT, Nat.reduceLeDiff, Nat.reduceEqDiff, ↓reduceIte, reduceCtorEq, Int.reduceAdd, Int.reduceSub, Int.reduceMul, Int.reduceLT, Int.reduceLE, Int.reduceEq, Int.reduceNe, Int.reduceToNat, Int.reduceNeg, go_sem]
  refine gen_loop fun ρ0 asg body hρ hasg hbody => ?_
  have hb2 : ρ0 5 = .pointer (some ⟨A.next + 1, 0, none⟩) ∧ ρ0 6 = .pointer (some ⟨A.next + 2, 0, none⟩) ∧ ρ0 7 = .pointer (some ⟨A.next + 3, 0, none⟩) ∧ ρ0 8 = .pointer (some ⟨A.next + 4, 0, none⟩) ∧ ρ0 4 = .pointer (some ⟨A.next, 0, none⟩) ∧ ρ0 0 = v := by
    subst hρ; refine ⟨?_, ?_, ?_, ?_, ?_, ?_⟩ <;> (first | (simp (maxSteps := 1000000) (disch := (first | omega | (simp only [nx_alloc, nx_upd, len_cons, len_nil, List.length_set, List.length_map, List.length_append] <;> omega) | fail)) only [Nat.reduceAdd, Nat.reduceSub, Nat.reduceMul, Nat.reduceLT, Nat.reduceLeDiff, Nat.reduceEqDiff, ↓reduceIte, reduceCtorEq, Int.reduceAdd, Int.reduceSub, Int.reduceMul, Int.reduceLT, Int.reduceLE, Int.reduceEq, Int.reduceNe, Int.reduceToNat, Int.reduceNeg, go_sem]; rfl) | (simp (maxSteps := 1000000) (disch := (first | omega | (simp only [nx_alloc, nx_upd, len_cons, len_nil, List.length_set, List.length_map, List.length_append] <;> omega) | fail)) only [Nat.reduceAdd, Nat.reduceSub, Nat.reduceMul, Nat.reduceLT, Nat.reduceLeDiff, Nat.reduceEqDiff, ↓reduceIte, reduceCtorEq, Int.reduceAdd, Int.reduceSub, Int.reduceMul, Int.reduceLT, Int.reduceLE, Int.reduceEq, Int.reduceNe, Int.reduceToNat, Int.reduceNeg, go_sem]))
  obtain ⟨r5, r6, r7, r8, r4, r0⟩ := hb2
  clear hρ
  refine (right1_ok w0 l hl (by omega) v (PackJ A l v (.loop .ready none (tm 37 ρ0) #[13] asg body)) (A.next + 7) (A.next + 5) ?_ ?_ ?_ ?_ _ ?_).mono ?_
  · intro i A' hj
    exact ⟨hv.over hj.over, _, hj.cv⟩
  · intro i A' A2 hj ho
    exact hj.mono ho
  · rintro i A1 ⟨n, wd⟩ hp hmay hj
    have hpk := hl _ (List.mem_of_getElem? hp)
    obtain ⟨hm1, hm2, hm3⟩ := mayB_iff hmay
    obtain ⟨hpk1, hpk2, _, _⟩ := hpk
    simp only at hm1 hm2 hm3 hpk1 hpk2
    obtain ⟨n, rfl⟩ := Int.eq_ofNat_of_zero_le hpk1
    obtain ⟨wd, rfl⟩ := Int.eq_ofNat_of_zero_le hm1
    have hn24 : n < 16777216 := by
      have h1 : n < 2 ^ wd := by simp only [Int.toNat_natCast] at hm3; rw [show ((2 : Int) ^ wd) = ((2 ^ wd : Nat) : Int) by rw [Int.natCast_pow]; rfl] at hm3; exact Int.ofNat_lt.1 hm3
      have h2 : 2 ^ wd ≤ 2 ^ 24 := Nat.pow_le_pow_right (by decide) (by omega)
      omega
    have hi : i < l.length := (List.getElem?_eq_some_iff.1 hp).1
    have hlo := hj.lo
    unfold pcV
    refine ayield_E (upd ρ0 13 (.agg #[.int .u32 n, .int .i64 wd])) hj.loop rfl (setArgs_1 ..) ?_
    conv => arg 5; rw [hasg]
    simp (maxSteps := 1000000) (disch := (first | omega | (simp only [nx_alloc, nx_upd, len_cons, len_nil, List.length_set, List.length_map, List.length_append] <;> omega) | fail)) only [Nat.reduceAdd, Nat.reduceSub, Nat.reduceMul, Nat.reduceLT, Nat.reduceLeDiff, Nat.reduceEqDiff, ↓reduceIte, reduceCtorEq, Int.reduceAdd, Int.reduceSub, Int.reduceMul, Int.reduceLT, Int.reduceLE, Int.reduceEq, Int.reduceNe, Int.reduceToNat, Int.reduceNeg, go_sem]
    refine asgQ_of (by simp (disch := (first | omega | (simp only [nx_alloc, nx_upd, len_cons, len_nil, List.length_set, List.length_map, List.length_append] <;> omega) | fail)) only [St.get_upd, St.get_alloc, St.next_alloc, St.next_upd, ↓reduceIte, natF_lt, natF_gt, natF_ne, Nat.add_assoc, Nat.reduceAdd, Nat.reduceEqDiff, Nat.add_left_cancel_iff]; exact hj.loop) ?_
    obtain ⟨A2, hA2⟩ : ∃ A2, A2 = (((A1.alloc (.cells [.int .u32 0, .int .i64 0] 47 (some 0))).upd A1.next (some (.cells [.int .u32 n, .int .i64 wd] 47 (some 0)))).upd (A.next + 7) (some (.loop .busy none (tm 37 ρ0) #[13] asg body))) := ⟨_, rfl⟩
    rw [← hA2]
    refine aw_of ?_
    conv => arg 5; rw [hbody]
    have hn2 : A2.next = A1.next + 1 := by rw [hA2]; rfl
    have hg2 : ∀ b, b < A1.next → b ≠ A.next + 7 → A2.get b = A1.get b := fun b hb hb2 => by
      rw [hA2]
      simp (disch := (first | omega | (simp only [nx_alloc, nx_upd, len_cons, len_nil, List.length_set, List.length_map, List.length_append] <;> omega) | fail)) only [St.get_upd, St.get_alloc, St.next_alloc, St.next_upd, ↓reduceIte, natF_lt, natF_gt, natF_ne, Nat.add_assoc, Nat.reduceAdd, Nat.reduceEqDiff, Nat.add_left_cancel_iff]
    have hl2 : A2.get (A.next + 7) = some (.loop .busy none (tm 37 ρ0) #[13] asg body) := by rw [hA2]; exact get_upd_same ..
    have hp2 : A2.get A1.next = some (.cells [.int .u32 n, .int .i64 wd] 47 (some 0)) := by
      rw [hA2]
      simp (disch := (first | omega | (simp only [nx_alloc, nx_upd, len_cons, len_nil, List.length_set, List.length_map, List.length_append] <;> omega) | fail)) only [St.get_upd, St.get_alloc, St.next_alloc, St.next_upd, ↓reduceIte, natF_lt, natF_gt, natF_ne, Nat.add_assoc, Nat.reduceAdd, Nat.reduceEqDiff, Nat.add_left_cancel_iff]
    obtain ⟨acc, hold, held, ⟨f1, f2, ⟨rv, f3, f4⟩, f5⟩, hinv, hheld⟩ := hj.st
    simp only at f1 f2 f3 f4
    have hV := hinv.lt (packW_lt l hl i)
    have hW := packW_le l i
    have hmn := hinv.many
    have g1 : A2.get (A.next + 2) = _ := (hg2 _ (by omega) (by omega)).trans f1
    have g2 : A2.get (A.next + 1) = _ := (hg2 _ (by omega) (by omega)).trans f2
    have g3 : A2.get A.next = _ := (hg2 _ (by omega) (by omega)).trans f3
    have g6 : A2.get (A.next + 3) = _ := (hg2 _ (by omega) (by omega)).trans hj.many
    have g7 : A2.get (A.next + 4) = _ := (hg2 _ (by omega) (by omega)).trans hj.fl
    have hr2 : Row A2 5 1 (A.next + 8) (acc.map (.int .u8 ·)) acc.length rv := f4.keep (by omega) (fun b _ q1 q2 => hg2 b q2 (by omega)) (Nat.le_refl _)
    simp (maxSteps := 1000000) (disch := (first | omega | (simp only [nx_alloc, nx_upd, len_cons, len_nil, List.length_set, List.length_map, List.length_append] <;> omega) | fail)) only [Nat.reduceAdd, Nat.reduceSub, Nat.reduceMul, Nat.reduceLT, Nat.reduceLeDiff, Nat.reduceEqDiff, ↓reduceIte, reduceCtorEq, Int.reduceAdd, Int.reduceSub, Int.reduceMul, Int.reduceLT, Int.reduceLE, Int.reduceEq, Int.reduceNe, Int.reduceToNat, Int.reduceNeg, go_sem, r5, r6]
    refine aw_draw2 [⟨false, [], [0]⟩, ⟨false, [], [0]⟩, ⟨false, [1], [0]⟩, ⟨false, [1, 2], [0]⟩, ⟨false, [], [0]⟩, ⟨false, [1, 2, 3, 4], [0]⟩, ⟨false, [0, 1, 2, 3, 4, 5], [0]⟩, ⟨true, [0, 1, 2, 3, 4, 5, 6], [0]⟩] [A2, A2.upd (A.next + 1) (some (.cells [.int .u64 ((hold + n * 2 ^ held : Nat) : Int)] 49 (some 0)))] 1 (by kernel_rfl) (by kernel_rfl) rfl ?_
    simp (maxSteps := 1000000) (disch := (first | omega | (simp only [nx_alloc, nx_upd, len_cons, len_nil, List.length_set, List.length_map, List.length_append] <;> omega) | fail)) only [Nat.reduceAdd, Nat.reduceSub, Nat.reduceMul, Nat.reduceLT, Nat.reduceLeDiff, Nat.reduceEqDiff, ↓reduceIte, reduceCtorEq, Int.reduceAdd, Int.reduceSub, Int.reduceMul, Int.reduceLT, Int.reduceLE, Int.reduceEq, Int.reduceNe, Int.reduceToNat, Int.reduceNeg, go_sem, r5, r6, g1, g2, hp2, u64_shl n held hheld hn24, u64_or hold n held hheld hn24 hV]
    have e : (held : Int) + (wd : Int) = ((held + wd : Nat) : Int) := by omega
    simp (maxSteps := 1000000) (disch := (first | omega | (simp only [nx_alloc, nx_upd, len_cons, len_nil, List.length_set, List.length_map, List.length_append] <;> omega) | fail)) only [Nat.reduceAdd, Nat.reduceSub, Nat.reduceMul, Nat.reduceLT, Nat.reduceLeDiff, Nat.reduceEqDiff, ↓reduceIte, reduceCtorEq, Int.reduceAdd, Int.reduceSub, Int.reduceMul, Int.reduceLT, Int.reduceLE, Int.reduceEq, Int.reduceNe, Int.reduceToNat, Int.reduceNeg, go_sem, r8, g7, e]
    have hp8 : 2 ^ held ≤ 2 ^ 7 := Nat.pow_le_pow_right (by decide) (by omega)
    have hp9 : n * 2 ^ held ≤ 16777216 * 2 ^ 7 := Nat.mul_le_mul (by omega) hp8
    refine (flush_ok w0 (A.next + 2) A.next (A.next + 1) (A.next + 8) 8 ⟨by omega, by omega, by omega, by omega, by omega, by omega⟩ (by omega) _ acc (hold + n * 2 ^ held) (held + wd) ⟨?_, ?_, ⟨rv, ?_, ?_⟩, ?_⟩ (by omega) (by omega)).mono ?_
    · simp (disch := (first | omega | (simp only [nx_alloc, nx_upd, len_cons, len_nil, List.length_set, List.length_map, List.length_append] <;> omega) | fail)) only [St.get_upd, St.get_alloc, St.next_alloc, St.next_upd, ↓reduceIte, natF_lt, natF_gt, natF_ne, Nat.add_assoc, Nat.reduceAdd, Nat.reduceEqDiff, Nat.add_left_cancel_iff]
    · simp (disch := (first | omega | (simp only [nx_alloc, nx_upd, len_cons, len_nil, List.length_set, List.length_map, List.length_append] <;> omega) | fail)) only [St.get_upd, St.get_alloc, St.next_alloc, St.next_upd, ↓reduceIte, natF_lt, natF_gt, natF_ne, Nat.add_assoc, Nat.reduceAdd, Nat.reduceEqDiff, Nat.add_left_cancel_iff]
    · simp (disch := (first | omega | (simp only [nx_alloc, nx_upd, len_cons, len_nil, List.length_set, List.length_map, List.length_append] <;> omega) | fail)) only [St.get_upd, St.get_alloc, St.next_alloc, St.next_upd, ↓reduceIte, natF_lt, natF_gt, natF_ne, Nat.add_assoc, Nat.reduceAdd, Nat.reduceEqDiff, Nat.add_left_cancel_iff]
      exact g3
    · exact hr2.keep (Nat.le_refl _) (fun b _ q _ => by simp (disch := (first | omega | (simp only [nx_alloc, nx_upd, len_cons, len_nil, List.length_set, List.length_map, List.length_append] <;> omega) | fail)) only [St.get_upd, St.get_alloc, St.next_alloc, St.next_upd, ↓reduceIte, natF_lt, natF_gt, natF_ne, Nat.add_assoc, Nat.reduceAdd, Nat.reduceEqDiff, Nat.add_left_cancel_iff]) (Nat.le_refl _)
    · simp (disch := (first | omega | (simp only [nx_alloc, nx_upd, len_cons, len_nil, List.length_set, List.length_map, List.length_append] <;> omega) | fail)) only [St.get_upd, St.get_alloc, St.next_alloc, St.next_upd, ↓reduceIte, natF_lt, natF_gt, natF_ne, Nat.add_assoc, Nat.reduceAdd, Nat.reduceEqDiff, Nat.add_left_cancel_iff]
      omega
    rintro e2 A4 ⟨rfl, hF, hK⟩
    have ho4 : ∀ b, b < A.next + 8 → b ≠ A.next + 2 → b ≠ A.next → b ≠ A.next + 1 → A4.get b = A2.get b := fun b q1 q2 q3 q4 => by
      rw [hK.get b q1 q2 q3 q4]
      simp (disch := (first | omega | (simp only [nx_alloc, nx_upd, len_cons, len_nil, List.length_set, List.length_map, List.length_append] <;> omega) | fail)) only [St.get_upd, St.get_alloc, St.next_alloc, St.next_upd, ↓reduceIte, natF_lt, natF_gt, natF_ne, Nat.add_assoc, Nat.reduceAdd, Nat.reduceEqDiff, Nat.add_left_cancel_iff]
    have hn4 := hK.next
    simp only [St.next_upd] at hn4
    have m4 := (ho4 (A.next + 3) (by omega) (by omega) (by omega) (by omega)).trans g6
    have l4 := (ho4 (A.next + 7) (by omega) (by omega) (by omega) (by omega)).trans hl2
    have hcle : (l.take i).countP mayB ≤ i := Nat.le_trans List.countP_le_length (List.length_take_le _ _)
    simp (maxSteps := 1000000) (disch := (first | omega | (simp only [nx_alloc, nx_upd, len_cons, len_nil, List.length_set, List.length_map, List.length_append] <;> omega) | fail)) only [Nat.reduceAdd, Nat.reduceSub, Nat.reduceMul, Nat.reduceLT, Nat.reduceLeDiff, Nat.reduceEqDiff, ↓reduceIte, reduceCtorEq, Int.reduceAdd, Int.reduceSub, Int.reduceMul, Int.reduceLT, Int.reduceLE, Int.reduceEq, Int.reduceNe, Int.reduceToNat, Int.reduceNeg, go_sem, r7, m4]
    refine roundQ_normal (pe := none) (by simp (disch := (first | omega | (simp only [nx_alloc, nx_upd, len_cons, len_nil, List.length_set, List.length_map, List.length_append] <;> omega) | fail)) only [St.get_upd, St.get_alloc, St.next_alloc, St.next_upd, ↓reduceIte, natF_lt, natF_gt, natF_ne, Nat.add_assoc, Nat.reduceAdd, Nat.reduceEqDiff, Nat.add_left_cancel_iff]; exact l4) ⟨rfl, ?_⟩
    obtain ⟨hI8, hlt8⟩ := flushS_8 _ _ _ _ _ (hinv.add (n := n) (wd := wd))
    refine ⟨⟨by simp (disch := (first | omega | (simp only [nx_alloc, nx_upd, len_cons, len_nil, List.length_set, List.length_map, List.length_append] <;> omega) | fail)) only [St.get_upd, St.get_alloc, St.next_alloc, St.next_upd, ↓reduceIte, natF_lt, natF_gt, natF_ne, Nat.add_assoc, Nat.reduceAdd, Nat.reduceEqDiff, Nat.add_left_cancel_iff]; have := hj.over.next; omega, fun b hb => ?_⟩, ?_, ?_, ?_, ?_, ?_, _, _, _, (hF.upd _ ⟨by omega, by omega, by omega, by omega⟩).upd _ ⟨by omega, by omega, by omega, by omega⟩, ?_, hlt8⟩
    · simp (disch := (first | omega | (simp only [nx_alloc, nx_upd, len_cons, len_nil, List.length_set, List.length_map, List.length_append] <;> omega) | fail)) only [St.get_upd, St.get_alloc, St.next_alloc, St.next_upd, ↓reduceIte, natF_lt, natF_gt, natF_ne, Nat.add_assoc, Nat.reduceAdd, Nat.reduceEqDiff, Nat.add_left_cancel_iff]
      rw [ho4 _ (by omega) (by omega) (by omega) (by omega), hg2 _ (by have := hj.over.next; omega) (by omega)]; exact hj.over.get b hb
    · simp (disch := (first | omega | (simp only [nx_alloc, nx_upd, len_cons, len_nil, List.length_set, List.length_map, List.length_append] <;> omega) | fail)) only [St.get_upd, St.get_alloc, St.next_alloc, St.next_upd, ↓reduceIte, natF_lt, natF_gt, natF_ne, Nat.add_assoc, Nat.reduceAdd, Nat.reduceEqDiff, Nat.add_left_cancel_iff]
      rw [ho4 _ (by omega) (by omega) (by omega) (by omega), hg2 _ (by omega) (by omega)]; exact hj.cv
    · simp (disch := (first | omega | (simp only [nx_alloc, nx_upd, len_cons, len_nil, List.length_set, List.length_map, List.length_append] <;> omega) | fail)) only [St.get_upd, St.get_alloc, St.next_alloc, St.next_upd, ↓reduceIte, natF_lt, natF_gt, natF_ne, Nat.add_assoc, Nat.reduceAdd, Nat.reduceEqDiff, Nat.add_left_cancel_iff]
      rw [ho4 _ (by omega) (by omega) (by omega) (by omega), hg2 _ (by omega) (by omega)]; exact hj.dfr
    · simp (disch := (first | omega | (simp only [nx_alloc, nx_upd, len_cons, len_nil, List.length_set, List.length_map, List.length_append] <;> omega) | fail)) only [St.get_upd, St.get_alloc, St.next_alloc, St.next_upd, ↓reduceIte, natF_lt, natF_gt, natF_ne, Nat.add_assoc, Nat.reduceAdd, Nat.reduceEqDiff, Nat.add_left_cancel_iff]
    · simp (disch := (first | omega | (simp only [nx_alloc, nx_upd, len_cons, len_nil, List.length_set, List.length_map, List.length_append] <;> omega) | fail)) only [St.get_upd, St.get_alloc, St.next_alloc, St.next_upd, ↓reduceIte, natF_lt, natF_gt, natF_ne, Nat.add_assoc, Nat.reduceAdd, Nat.reduceEqDiff, Nat.add_left_cancel_iff]
      rw [count_snoc l i _ hp, hmay]; rfl
    · simp (disch := (first | omega | (simp only [nx_alloc, nx_upd, len_cons, len_nil, List.length_set, List.length_map, List.length_append] <;> omega) | fail)) only [St.get_upd, St.get_alloc, St.next_alloc, St.next_upd, ↓reduceIte, natF_lt, natF_gt, natF_ne, Nat.add_assoc, Nat.reduceAdd, Nat.reduceEqDiff, Nat.add_left_cancel_iff]
      rw [ho4 _ (by omega) (by omega) (by omega) (by omega), hg2 _ (by omega) (by omega)]; exact hj.fl
    · rw [packW_snoc l i _ hp]
      unfold stP
      rw [if_pos hmay]
      exact hI8
  · intro i A1 p hp hmay hj
    obtain ⟨h1, h2, h3, h4, h5, h6, h7⟩ := hj
    refine ⟨h1, h2, h3, h4, ?_, h6, ?_⟩
    · rw [count_snoc l i p hp, hmay]; exact h5
    · rw [packW_snoc l i p hp, stP, if_neg (by rw [hmay]; exact Bool.false_ne_true)]; exact h7
  · refine ⟨?_, ?_, ?_, ?_, ?_, ?_, [], 0, 0, ⟨?_, ?_, ⟨_, ?_, Row.nil _ _ _ _⟩, ?_⟩, ⟨rfl, by simp [packW], by simp [packW]⟩, by decide⟩
    · exact ((((((((((((Over.refl A).alloc _).alloc _).alloc _).alloc _).upd (by omega) _).upd (by omega) _).upd (by omega) _).alloc _).upd (by omega) _).alloc _).alloc _).alloc _
    · simp (disch := (first | omega | (simp only [nx_alloc, nx_upd, len_cons, len_nil, List.length_set, List.length_map, List.length_append] <;> omega) | fail)) only [St.get_upd, St.get_alloc, St.next_alloc, St.next_upd, ↓reduceIte, natF_lt, natF_gt, natF_ne, Nat.add_assoc, Nat.reduceAdd, Nat.reduceEqDiff, Nat.add_left_cancel_iff]
    · simp (disch := (first | omega | (simp only [nx_alloc, nx_upd, len_cons, len_nil, List.length_set, List.length_map, List.length_append] <;> omega) | fail)) only [St.get_upd, St.get_alloc, St.next_alloc, St.next_upd, ↓reduceIte, natF_lt, natF_gt, natF_ne, Nat.add_assoc, Nat.reduceAdd, Nat.reduceEqDiff, Nat.add_left_cancel_iff]
    · simp (disch := (first | omega | (simp only [nx_alloc, nx_upd, len_cons, len_nil, List.length_set, List.length_map, List.length_append] <;> omega) | fail)) only [St.get_upd, St.get_alloc, St.next_alloc, St.next_upd, ↓reduceIte, natF_lt, natF_gt, natF_ne, Nat.add_assoc, Nat.reduceAdd, Nat.reduceEqDiff, Nat.add_left_cancel_iff]
    · simp (disch := (first | omega | (simp only [nx_alloc, nx_upd, len_cons, len_nil, List.length_set, List.length_map, List.length_append] <;> omega) | fail)) only [St.get_upd, St.get_alloc, St.next_alloc, St.next_upd, ↓reduceIte, natF_lt, natF_gt, natF_ne, Nat.add_assoc, Nat.reduceAdd, Nat.reduceEqDiff, Nat.add_left_cancel_iff]
      rfl
    · simp (disch := (first | omega | (simp only [nx_alloc, nx_upd, len_cons, len_nil, List.length_set, List.length_map, List.length_append] <;> omega) | fail)) only [St.get_upd, St.get_alloc, St.next_alloc, St.next_upd, ↓reduceIte, natF_lt, natF_gt, natF_ne, Nat.add_assoc, Nat.reduceAdd, Nat.reduceEqDiff, Nat.add_left_cancel_iff]
    · simp (disch := (first | omega | (simp only [nx_alloc, nx_upd, len_cons, len_nil, List.length_set, List.length_map, List.length_append] <;> omega) | fail)) only [St.get_upd, St.get_alloc, St.next_alloc, St.next_upd, ↓reduceIte, natF_lt, natF_gt, natF_ne, Nat.add_assoc, Nat.reduceAdd, Nat.reduceEqDiff, Nat.add_left_cancel_iff]
      rfl
    · simp (disch := (first | omega | (simp only [nx_alloc, nx_upd, len_cons, len_nil, List.length_set, List.length_map, List.length_append] <;> omega) | fail)) only [St.get_upd, St.get_alloc, St.next_alloc, St.next_upd, ↓reduceIte, natF_lt, natF_gt, natF_ne, Nat.add_assoc, Nat.reduceAdd, Nat.reduceEqDiff, Nat.add_left_cancel_iff]
      rfl
    · simp (disch := (first | omega | (simp only [nx_alloc, nx_upd, len_cons, len_nil, List.length_set, List.length_map, List.length_append] <;> omega) | fail)) only [St.get_upd, St.get_alloc, St.next_alloc, St.next_upd, ↓reduceIte, natF_lt, natF_gt, natF_ne, Nat.add_assoc, Nat.reduceAdd, Nat.reduceEqDiff, Nat.add_left_cancel_iff]
    · simp (disch := (first | omega | (simp only [nx_alloc, nx_upd, len_cons, len_nil, List.length_set, List.length_map, List.length_append] <;> omega) | fail)) only [St.get_upd, St.get_alloc, St.next_alloc, St.next_upd, ↓reduceIte, natF_lt, natF_gt, natF_ne, Nat.add_assoc, Nat.reduceAdd, Nat.reduceEqDiff, Nat.add_left_cancel_iff]
      omega
  · rintro e A2 ⟨rfl, hj⟩
    refine rfQ_normal hj.loop (by decide) ?_
    have hlo := hj.lo
    obtain ⟨hov, hcv, hdf, hlp, hmn, hfl, acc, hold, held, hF, hinv, hheld⟩ := hj
    rw [List.take_length] at hmn hinv
    have hV := hinv.lt (by have := packW_lt l hl l.length; rwa [List.take_length] at this)
    have hW : (packW l).2 ≤ 24 * l.length := by have := packW_le l l.length; rwa [List.take_length] at this
    have hmm := hinv.many
    have hv2 := hv.over (hov.upd (b := A.next + 7) (by omega) (some (.loop .exhausted none (tm 37 ρ0) #[13] asg body)))
    simp (maxSteps := 1000000) (disch := (first | omega | (simp only [nx_alloc, nx_upd, len_cons, len_nil, List.length_set, List.length_map, List.length_append] <;> omega) | fail)) only [Nat.reduceAdd, Nat.reduceSub, Nat.reduceMul, Nat.reduceLT, Nat.reduceLeDiff, Nat.reduceEqDiff, ↓reduceIte, reduceCtorEq, Int.reduceAdd, Int.reduceSub, Int.reduceMul, Int.reduceLT, Int.reduceLE, Int.reduceEq, Int.reduceNe, Int.reduceToNat, Int.reduceNeg, go_sem, r7, r0, hmn, hv2.lenU]
    refine ifB_dec (fun hlt => ?_) (fun hlt => ?_)
    · simp (maxSteps := 1000000) (disch := (first | omega | (simp only [nx_alloc, nx_upd, len_cons, len_nil, List.length_set, List.length_map, List.length_append] <;> omega) | fail)) only [Nat.reduceAdd, Nat.reduceSub, Nat.reduceMul, Nat.reduceLT, Nat.reduceLeDiff, Nat.reduceEqDiff, ↓reduceIte, reduceCtorEq, Int.reduceAdd, Int.reduceSub, Int.reduceMul, Int.reduceLT, Int.reduceLE, Int.reduceEq, Int.reduceNe, Int.reduceToNat, Int.reduceNeg, go_sem, hdf, Try.results9]
      have hno : packOk l = false := by
        rw [Bool.eq_false_iff]
        intro h
        rw [packOk, List.all_eq_true] at h
        have := List.countP_eq_length.2 h
        omega
      exact gc_fin' hw ((hov.upd (by omega) _).upd (by omega) _) (by unfold packR; rw [hno]; rfl) (bnd_packR _ _)
    · have hyes : packOk l = true := by
        rw [packOk, List.all_eq_true]
        apply List.countP_eq_length.1
        have : l.countP mayB ≤ l.length := List.countP_le_length
        omega
      simp (maxSteps := 1000000) (disch := (first | omega | (simp only [nx_alloc, nx_upd, len_cons, len_nil, List.length_set, List.length_map, List.length_append] <;> omega) | fail)) only [Nat.reduceAdd, Nat.reduceSub, Nat.reduceMul, Nat.reduceLT, Nat.reduceLeDiff, Nat.reduceEqDiff, ↓reduceIte, reduceCtorEq, Int.reduceAdd, Int.reduceSub, Int.reduceMul, Int.reduceLT, Int.reduceLE, Int.reduceEq, Int.reduceNe, Int.reduceToNat, Int.reduceNeg, go_sem, r8, hfl]
      have hh8 : 2 ^ held ≤ 2 ^ 7 := Nat.pow_le_pow_right (by decide) (by omega)
      refine (flush_ok w0 (A.next + 2) A.next (A.next + 1) (A.next + 8) 1 ⟨by omega, by omega, by omega, by omega, by omega, by omega⟩ (by omega) _ acc hold held (hF.upd _ ⟨by omega, by omega, by omega, by omega⟩) (by omega) (by omega)).mono ?_
      rintro e2 A4 ⟨rfl, ⟨_, _, ⟨rv, q3, q4⟩, _⟩, hK⟩
      rw [flushS_1 hinv hheld] at q4
      have hd4 := (hK.get (A.next + 6) (by omega) (by omega) (by omega) (by omega)).trans ((get_upd_old (by omega)).trans hdf)
      have hn4 := hK.next
      simp only [St.next_upd] at hn4
      simp (maxSteps := 1000000) (disch := (first | omega | (simp only [nx_alloc, nx_upd, len_cons, len_nil, List.length_set, List.length_map, List.length_append] <;> omega) | fail)) only [Nat.reduceAdd, Nat.reduceSub, Nat.reduceMul, Nat.reduceLT, Nat.reduceLeDiff, Nat.reduceEqDiff, ↓reduceIte, reduceCtorEq, Int.reduceAdd, Int.reduceSub, Int.reduceMul, Int.reduceLT, Int.reduceLE, Int.reduceEq, Int.reduceNe, Int.reduceToNat, Int.reduceNeg, go_sem, r4, q3, q4.view.text Try.underlying5, hd4, Try.results9]
      exact gc_fin' (A' := A4.upd (A.next + 6) (some (.dfr true))) hw ⟨by simp (disch := (first | omega | (simp only [nx_alloc, nx_upd, len_cons, len_nil, List.length_set, List.length_map, List.length_append] <;> omega) | fail)) only [St.get_upd, St.get_alloc, St.next_alloc, St.next_upd, ↓reduceIte, natF_lt, natF_gt, natF_ne, Nat.add_assoc, Nat.reduceAdd, Nat.reduceEqDiff, Nat.add_left_cancel_iff]; have := hov.next; omega, fun b hb => by simp (disch := (first | omega | (simp only [nx_alloc, nx_upd, len_cons, len_nil, List.length_set, List.length_map, List.length_append] <;> omega) | fail)) only [St.get_upd, St.get_alloc, St.next_alloc, St.next_upd, ↓reduceIte, natF_lt, natF_gt, natF_ne, Nat.add_assoc, Nat.reduceAdd, Nat.reduceEqDiff, Nat.add_left_cancel_iff]; rw [hK.get b (by omega) (by omega) (by omega) (by omega), get_upd_old (by omega), hov.get b hb]⟩ (by unfold packR; rw [hyes]; rfl) (bnd_packR _ _)
end Go.Fw
