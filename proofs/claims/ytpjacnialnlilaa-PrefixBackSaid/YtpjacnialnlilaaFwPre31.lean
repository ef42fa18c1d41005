import Derived.Test.YtpjacnialnlilaaFwPre28
import Derived.Test.YtpjacnialnlilaaFwBit3
set_option linter.unusedSimpArgs false
set_option linter.unusedVariables false
set_option maxRecDepth 4000
namespace Go.Fw
open Go.Proofs Go.RowKit
/-! The words of a code, the program's way. -/
theorem makeSlice_rows {P : Program} {A : St} {t e bs sz : Nat} {z : Value} {k k' : IntKind} {n : Nat} (hel : telem P t = some e) (hsz : tsz P e = some sz) (hs : 0 < sz) (hb : tbytes P e = some bs) (hz : tzero P e = some z) (hzc : z.cells.size = sz) (hbs : bs ≤ 64) (hn : n ≤ 1000000) :
    amakeSlice P A t (.int k n) (.int k' n) = some (.slice (some ⟨A.next, 0, none⟩) n n, A.alloc (.cells (zerosR z.cells.toList n) e (some 0))) := by
  have h8 : (bs : Int) * n ≤ 64 * n := Int.mul_le_mul_of_nonneg_right (by omega) (by omega)
  unfold amakeSlice
  simp only [hel, hsz, hb, hz]
  rw [if_pos ⟨by omega, Int.le_refl _, by omega, by omega, by omega⟩]
  simp only [Int.toNat_natCast]
  rw [zeros_eq hzc hs]
theorem zerosR_pc : ∀ n, zerosR [.int .u32 0, .int .i64 0] n = (List.replicate n ((0 : Int), (0 : Int))).flatMap pcE
  | 0 => rfl
  | n + 1 => by rw [zerosR_s, zerosR_pc n, List.replicate_succ, List.flatMap_cons]; rfl
/-- The pieces, half way. -/
def cdL (l : List Int) (i : Nat) : List (Int × Int) := (List.range i).map (pieceAt l) ++ List.replicate (l.length - i) (0, 0)
theorem cdL_len {l : List Int} {i : Nat} (h : i ≤ l.length) : (cdL l i).length = l.length := by
  unfold cdL; rw [List.length_append, List.length_map, List.length_range, List.length_replicate]; omega
theorem cdL_zero (l : List Int) : cdL l 0 = List.replicate l.length (0, 0) := rfl
theorem cdL_all (l : List Int) : cdL l l.length = codeL l := by unfold cdL codeL; rw [Nat.sub_self]; exact List.append_nil _
theorem cdL_at {l : List Int} {i : Nat} (h : i < l.length) : (cdL l i)[i]? = some (0, 0) ∧ (cdL l i).set i (pieceAt l i) = cdL l (i + 1) := by
  have hl : ((List.range i).map (pieceAt l)).length = i := by rw [List.length_map, List.length_range]
  obtain ⟨m, hm⟩ : ∃ m, l.length - i = m + 1 := ⟨l.length - i - 1, by omega⟩
  have e1 := at_app ((List.range i).map (pieceAt l)) ((0 : Int), (0 : Int)) (List.replicate m (0, 0))
  have e2 := set_app ((List.range i).map (pieceAt l)) ((0 : Int), (0 : Int)) (pieceAt l i) (List.replicate m (0, 0))
  rw [hl] at e1 e2
  unfold cdL
  rw [hm, List.replicate_succ]
  refine ⟨e1, ?_⟩
  rw [e2, List.range_succ, List.map_append, show l.length - (i + 1) = m by omega]
  simp
def wrF (l : List Int) (i k : Nat) : Nat := if k = 0 then 0 else wrd l i k
theorem wrF_zero (l : List Int) : wrF l 0 = bs l := by
  funext k
  unfold wrF wrd
  cases k with
  | zero => rfl
  | succ k => rw [if_neg (by omega)]; simp [mny]
def CodePost (A : St) (e : Nat) (p : List (Int × Int) × Int) (r : Ending) (A' : St) : Prop := ∃ v, r = .returned (.tuple #[v, .int .i64 p.2]) ∧ Over A A' ∧ Row A' e 2 A.next (p.1.flatMap pcE) p.1.length v
theorem pieceAt_some {l : List Int} {i m : Nat} (hi : l[i]? = some (m : Int)) (hm : 0 < m) : pieceAt l i = (((rv m (wrd l i m) : Nat) : Int), (m : Int)) := by
  unfold pieceAt
  rw [List.getD_eq_getElem?_getD, hi]
  simp only [Option.getD_some, Int.toNat_natCast]
  rw [if_pos (by omega)]
theorem pieceAt_none {l : List Int} {i : Nat} (hi : l[i]? = some 0) : pieceAt l i = (0, 0) := by
  unfold pieceAt
  rw [List.getD_eq_getElem?_getD, hi]; rfl
set_option maxHeartbeats 8000000 in
theorem codes_ok (w0 : World) (A : St) (l : List Int) (v : Value) (hv : InView A l v) (hl : l.length ≤ 1000) : ACalls Try.prog w0 14 #[v] A (CodePost A 42 (codesP l)) := by
  refine call_E (l := [v]) Try.enters14 Try.func14 rfl (Nat.le_of_ble_eq_true rfl) fun hw hbd => ?_
  have hlv : ∀ X, lenU X (some (.slice 3)) v = some (.int .i64 l.length, X) := View.lenX hv
  simp (maxSteps := 1000000) (disch := (first | omega | (simp only [nx_alloc, nx_upd, len_cons, len_nil, List.length_set, List.length_map, List.length_append] <;> omega) | fail)) only [go_sem, Try.ntmps14, Try.results14, hlv]
  refine (counts_ok w0 A l v hv hl).mono ?_
  rintro e A1 ⟨f, rfl, rfl, hf⟩
  have hLf := numC_len .i64 16 f
  have hpf := numC_plain .i64 16 f
  have hz16 : ∀ g : Nat → Nat, setList (numC .i64 16 g) 0 (numC .i64 16 f) = numC .i64 16 f := fun g => setList_all (by rw [numC_len, numC_len])
  rcases hc : isCode l with _ | _
  · simp (maxSteps := 1000000) (disch := (first | omega | (simp only [nx_alloc, nx_upd, len_cons, len_nil, List.length_set, List.length_map, List.length_append] <;> omega) | fail)) only [go_sem, hpf, hc, Try.results14]
    refine gc_here ⟨_, by unfold codesP; rw [hc]; rfl, ((Over.refl _).alloc _).upd (Nat.le_refl _) _, ?_⟩
    unfold codesP; rw [hc]; exact Row.nil ..
  obtain rfl := hf hc
  obtain ⟨hk, hl3, h15⟩ := isCode_kr hc
  have hne : l.length ≠ 0 := by
    intro h
    rw [List.eq_nil_of_length_eq_zero h] at hc
    revert hc; decide
  have hT : (numC .i64 16 (mny l)).take 16 = numC .i64 16 (mny l) := List.take_of_length_le (by omega)
  have hz0 : setList [Value.int .i64 0, .int .i64 0, .int .i64 0, .int .i64 0, .int .i64 0, .int .i64 0, .int .i64 0, .int .i64 0, .int .i64 0, .int .i64 0, .int .i64 0, .int .i64 0, .int .i64 0, .int .i64 0, .int .i64 0, .int .i64 0] 0 (numC .i64 16 (mny l)) = numC .i64 16 (mny l) := setList_all (by rw [hLf]; rfl)
  simp (maxSteps := 1000000) (disch := (first | omega | (simp only [nx_alloc, nx_upd, len_cons, len_nil, List.length_set, List.length_map, List.length_append] <;> omega) | fail)) only [go_sem, hpf, hc, hz0, hT]
  refine call1 (first_ok w0 _ l hk) ?_
  have hLb := numC_len .u32 17 (bs l)
  have hpb := numC_plain .u32 17 (bs l)
  have hz1 : setList [Value.int .u32 0, .int .u32 0, .int .u32 0, .int .u32 0, .int .u32 0, .int .u32 0, .int .u32 0, .int .u32 0, .int .u32 0, .int .u32 0, .int .u32 0, .int .u32 0, .int .u32 0, .int .u32 0, .int .u32 0, .int .u32 0, .int .u32 0] 0 (numC .u32 17 (bs l)) = numC .u32 17 (bs l) := setList_all (by rw [hLb]; rfl)
  have hmk : ∀ X : St, amakeSlice Try.prog X 32 (.int .i64 (l.length : Int)) (.int .i64 (l.length : Int)) = some (.slice (some ⟨X.next, 0, none⟩) l.length l.length, X.alloc (.cells ((List.replicate l.length ((0 : Int), (0 : Int))).flatMap pcE) 42 (some 0))) := fun X => by
    rw [makeSlice_rows Try.el32 Try.sz42 (by decide) Try.byt42 Try.zero42 rfl (by decide) (by omega)]
    rw [← zerosR_pc]
    rfl
  simp (maxSteps := 1000000) (disch := (first | omega | (simp only [nx_alloc, nx_upd, len_cons, len_nil, List.length_set, List.length_map, List.length_append] <;> omega) | fail)) only [go_sem, hpb, hz1, hlv, hmk]
  refine aw_loop (fun k x A' => ∃ (ρ : Nat → Value) (i : Nat), x = E 50 ρ [] ∧ Over A1 A' ∧ A'.next = A1.next + 3 ∧ A'.get (A1.next + 1) = some (.cells (numC .u32 17 (wrF l i)) 64 (some 0)) ∧ A'.get (A1.next + 2) = some (.cells ((cdL l i).flatMap pcE) 42 (some 0)) ∧ k = l.length - i ∧ i ≤ l.length ∧ ρ 6 = .pointer (some ⟨A1.next + 1, 0, none⟩) ∧ ρ 7 = .slice (some ⟨A1.next + 2, 0, none⟩) l.length l.length ∧ ρ 22 = v ∧ ρ 23 = .int .i64 l.length ∧ ρ 24 = .int .i64 i) l.length
    ⟨_, 0, rfl, ?_, rfl, ?_, ?_, rfl, Nat.zero_le _, rfl, rfl, rfl, rfl, rfl⟩ ?_
  · exact (((((Over.refl A1).alloc _).upd (Nat.le_refl _) _).alloc _).upd (by simp) _).alloc _
  · rw [wrF_zero]; simp (disch := (first | omega | (simp only [nx_alloc, nx_upd, len_cons, len_nil, List.length_set, List.length_map, List.length_append] <;> omega) | fail)) only [St.get_upd, St.get_alloc, St.next_alloc, St.next_upd, ↓reduceIte, natF_lt, natF_gt, natF_ne, Nat.add_assoc, Nat.reduceAdd, Nat.reduceEqDiff, Nat.add_left_cancel_iff]
  · rw [cdL_zero]; simp (disch := (first | omega | (simp only [nx_alloc, nx_upd, len_cons, len_nil, List.length_set, List.length_map, List.length_append] <;> omega) | fail)) only [St.get_upd, St.get_alloc, St.next_alloc, St.next_upd, ↓reduceIte, natF_lt, natF_gt, natF_ne, Nat.add_assoc, Nat.reduceAdd, Nat.reduceEqDiff, Nat.add_left_cancel_iff]
  rintro k x A' ⟨ρ, i, rfl, oA, hnx, gW, gR, hkk, hi, r6, r7, r22, r23, r24⟩
  refine aw_of ?_
  have hcl := cdL_len hi
  have hrow : Row A' 42 2 A1.next ((cdL l i).flatMap pcE) (cdL l i).length (.slice (some ⟨A1.next + 2, 0, none⟩) l.length l.length) := ⟨flatMap_len _ pcE_len, .inr ⟨A1.next + 2, none, by rw [hcl], .inl rfl, by omega, by omega, gR⟩⟩
  by_cases hend : i = l.length
  · have e1 : ¬ ((i : Int) < (l.length : Nat)) := by omega
    simp (maxSteps := 1000000) (disch := (first | omega | (simp only [nx_alloc, nx_upd, len_cons, len_nil, List.length_set, List.length_map, List.length_append] <;> omega) | fail)) only [go_sem, r7, r22, r23, r24, e1, Try.results14]
    rw [hend, cdL_all] at hrow
    refine gc_here ⟨_, by unfold codesP; rw [hc]; rfl, oA, ?_⟩
    unfold codesP; rw [hc]; exact hrow
  have e1 : ((i : Int) < (l.length : Nat)) := by omega
  obtain ⟨n, hx⟩ : ∃ x, l[i]? = some x := ⟨_, List.getElem?_eq_getElem (by omega)⟩
  obtain ⟨pb, po, hb1, hb2, hb3, cells, e', md, hb4, hb5⟩ := View.at1 (P := Try.prog) (e := 3) (View.over hv oA) Try.sz3 (i64E_at _ i n hx)
  have htk : l.take (i + 1) = l.take i ++ [n] := by rw [List.take_add_one, hx]; rfl
  obtain ⟨hn0, hn15⟩ := h15 n (List.mem_of_getElem? hx)
  obtain ⟨m, rfl⟩ := Int.eq_ofNat_of_zero_le hn0
  obtain ⟨_, hset⟩ := cdL_at (l := l) (i := i) (by omega)
  by_cases hm : (m : Int) > 0
  · obtain ⟨b, hbr, _, _, hbg, hix, _, hst, _⟩ := hrow.own pcE_len Try.sz42 (by omega)
    cases hbr
    have hix := hix .i64 i (by omega)
    have hst := hst i (pieceAt l i) (by omega) rfl
    rw [pieceAt_some hx (by omega)] at hset hst
    rw [hset] at hst
    have hst' : storeC A' (some 2) (some (.cells ((cdL l i).flatMap pcE) 42 (some 0))) (A1.next + 2) (i * 2) (.agg [.int .u32 ((rv m (wrd l i m) : Nat) : Int), .int .i64 (m : Int)].toArray) = _ := hst
    have hat := numC_at .u32 (n := 17) (j := m) (wrF l i) (by omega)
    have hwf : wrF l i m = wrd l i m := if_neg (by omega)
    rw [hwf] at hat
    have hwl := wrd_lt hk (by omega) (by omega) hx
    have hwl2 : wrd l i m < 2 ^ 15 := Nat.lt_of_lt_of_le hwl (Nat.pow_le_pow_right (by decide) (by omega))
    have h215 : (2 : Nat) ^ 15 = 32768 := rfl
    have e3 : (m : Int) < 17 := by omega
    simp (maxSteps := 1000000) (disch := (first | omega | (simp only [nx_alloc, nx_upd, len_cons, len_nil, List.length_set, List.length_map, List.length_append] <;> omega) | fail)) only [go_sem, r6, r7, r22, r23, r24, e1, hb3, hb4, hb5, hm, hat, gW, e3]
    refine call1 (rev_ok w0 A' (wrd l i m) (by omega)) ?_
    have hsh : ishr .u32 ((rev32 (wrd l i m) : Nat) : Int) (32 - (m : Int)) = ((rv m (wrd l i m) : Nat) : Int) := by
      rw [show (32 : Int) - m = ((32 - m : Nat) : Int) by omega, u32_sr _ _ (by omega), Nat.shiftRight_eq_div_pow, rev32_rv (by omega) (by omega)]
    have hw1 : IntKind.u32.wrap (((wrd l i m : Nat) : Int) + 1) = ((wrd l i m + 1 : Nat) : Int) := by
      simp only [IntKind.wrap, IntKind.signed, IntKind.bits]; simp; omega
    have hs2 := numC_set .u32 (n := 17) (j := m) (f := wrF l i) (g := wrF l (i + 1)) (fun j hj => by
      unfold wrF wrd
      rw [htk, mny_snoc, if_neg (show ¬ (m : Int) = (j : Int) by omega)]; rfl)
    have hwf2 : wrF l (i + 1) m = wrd l i m + 1 := by
      unfold wrF wrd
      rw [if_neg (by omega), htk, mny_snoc, if_pos rfl]; omega
    rw [hwf2] at hs2
    have e4 : (0 : Int) ≤ 32 - (m : Int) := by omega
    have hL17 := numC_len .u32 17 (wrF l i)
    simp (maxSteps := 1000000) (disch := (first | omega | (simp only [nx_alloc, nx_upd, len_cons, len_nil, List.length_set, List.length_map, List.length_append] <;> omega) | fail)) only [go_sem, r6, r7, r24, hix, gR, gW, hsh, e3, e4, hst', hat, hw1, hs2]
    refine ⟨k - 1, by omega, _, i + 1, rfl, (oA.upd (by omega) _).upd (by omega) _, hnx, ?_, ?_, by omega, by omega, ?_, ?_, ?_, ?_, ?_⟩
    · simp (disch := (first | omega | (simp only [nx_alloc, nx_upd, len_cons, len_nil, List.length_set, List.length_map, List.length_append] <;> omega) | fail)) only [St.get_upd, St.get_alloc, St.next_alloc, St.next_upd, ↓reduceIte, natF_lt, natF_gt, natF_ne, Nat.add_assoc, Nat.reduceAdd, Nat.reduceEqDiff, Nat.add_left_cancel_iff]
    · simp (disch := (first | omega | (simp only [nx_alloc, nx_upd, len_cons, len_nil, List.length_set, List.length_map, List.length_append] <;> omega) | fail)) only [St.get_upd, St.get_alloc, St.next_alloc, St.next_upd, ↓reduceIte, natF_lt, natF_gt, natF_ne, Nat.add_assoc, Nat.reduceAdd, Nat.reduceEqDiff, Nat.add_left_cancel_iff]
    · simp (maxSteps := 1000000) (disch := (first | omega | (simp only [nx_alloc, nx_upd, len_cons, len_nil, List.length_set, List.length_map, List.length_append] <;> omega) | fail)) only [go_sem, r6]
    · simp (maxSteps := 1000000) (disch := (first | omega | (simp only [nx_alloc, nx_upd, len_cons, len_nil, List.length_set, List.length_map, List.length_append] <;> omega) | fail)) only [go_sem, r7]
    · simp (maxSteps := 1000000) (disch := (first | omega | (simp only [nx_alloc, nx_upd, len_cons, len_nil, List.length_set, List.length_map, List.length_append] <;> omega) | fail)) only [go_sem, r22]
    · simp (maxSteps := 1000000) (disch := (first | omega | (simp only [nx_alloc, nx_upd, len_cons, len_nil, List.length_set, List.length_map, List.length_append] <;> omega) | fail)) only [go_sem, r23]
    · simp (maxSteps := 1000000) (disch := (first | omega | (simp only [nx_alloc, nx_upd, len_cons, len_nil, List.length_set, List.length_map, List.length_append] <;> omega) | fail)) only [go_sem]
      rfl
  · obtain rfl : m = 0 := by omega
    rw [pieceAt_none hx] at hset
    have hst2 : cdL l (i + 1) = cdL l i := by
      rw [← hset]
      obtain ⟨ha, _⟩ := cdL_at (l := l) (i := i) (by omega)
      refine List.ext_getElem? fun j => ?_
      rw [List.getElem?_set]
      split
      · rename_i e; rw [← e, ha, if_pos (by omega)]
      · rfl
    have hwe : wrF l (i + 1) = wrF l i := by
      funext j
      unfold wrF wrd
      by_cases h : j = 0
      · rw [if_pos h, if_pos h]
      · rw [if_neg h, if_neg h, htk, mny_snoc, if_neg (by omega)]; rfl
    simp (maxSteps := 1000000) (disch := (first | omega | (simp only [nx_alloc, nx_upd, len_cons, len_nil, List.length_set, List.length_map, List.length_append] <;> omega) | fail)) only [go_sem, r6, r7, r22, r23, r24, e1, hb3, hb4, hb5, hm]
    refine ⟨k - 1, by omega, _, i + 1, rfl, oA, hnx, by rw [hwe]; exact gW, by rw [hst2]; exact gR, by omega, by omega, ?_, ?_, ?_, ?_, ?_⟩
    · simp (maxSteps := 1000000) (disch := (first | omega | (simp only [nx_alloc, nx_upd, len_cons, len_nil, List.length_set, List.length_map, List.length_append] <;> omega) | fail)) only [go_sem, r6]
    · simp (maxSteps := 1000000) (disch := (first | omega | (simp only [nx_alloc, nx_upd, len_cons, len_nil, List.length_set, List.length_map, List.length_append] <;> omega) | fail)) only [go_sem, r7]
    · simp (maxSteps := 1000000) (disch := (first | omega | (simp only [nx_alloc, nx_upd, len_cons, len_nil, List.length_set, List.length_map, List.length_append] <;> omega) | fail)) only [go_sem, r22]
    · simp (maxSteps := 1000000) (disch := (first | omega | (simp only [nx_alloc, nx_upd, len_cons, len_nil, List.length_set, List.length_map, List.length_append] <;> omega) | fail)) only [go_sem, r23]
    · simp (maxSteps := 1000000) (disch := (first | omega | (simp only [nx_alloc, nx_upd, len_cons, len_nil, List.length_set, List.length_map, List.length_append] <;> omega) | fail)) only [go_sem]
      rfl
end Go.Fw
