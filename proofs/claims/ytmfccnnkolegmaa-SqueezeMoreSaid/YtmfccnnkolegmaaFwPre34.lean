import Derived.Test.YtmfccnnkolegmaaFwPre28
import Derived.Test.YtmfccnnkolegmaaFwBit4
import Derived.Test.YtmfccnnkolegmaaFwPre30
set_option linter.unusedSimpArgs false
set_option linter.unusedVariables false
set_option maxRecDepth 4000
namespace Go.Fw
open Go.Proofs Go.RowKit
/-! The words of a code, the program's way. -/
theorem makeSlice_rows {P : Program} {A : St} {t e bs sz : Nat} {z : Value} {k k' : IntKind} {n : Nat} (hel : telem P t = some e) (hsz : tsz P e = some sz) (hs : 0 < sz) (hb : tbytes P e = some bs) (hz : tzero P e = some z) (hzc : z.cells.size = sz) (hbs : bs ≤ 64) (hn : n ≤ 1000000) :
    amakeSlice P A t (.int k n) (.int k' n) = some (.slice (some ⟨A.next, 0, none⟩) n n, A.alloc (.cells (zerosR z.cells.toList n) e (some 0))) := by
  have h8 : (bs : Int) * n ≤ 64 * n := Int.mul_le_mul_of_nonneg_right (by omega) (by omega)
  unfold amakeSlice
  simp only [hel, hsz, hb, hz]
  rw [if_pos ⟨by omega, Int.le_refl _, by omega, by omega, by omega⟩]
  simp only [Int.toNat_natCast]
  rw [zeros_eq hzc hs]
theorem zerosR_pc : ∀ n, zerosR [.int .u32 0, .int .i64 0] n = (List.replicate n ((0 : Int), (0 : Int))).flatMap pcE
  | 0 => rfl
  | n + 1 => by rw [zerosR_s, zerosR_pc n, List.replicate_succ, List.flatMap_cons]; rfl
/-- The pieces, half way. -/
def cdL (l : List Int) (i : Nat) : List (Int × Int) := (List.range i).map (pieceAt l) ++ List.replicate (l.length - i) (0, 0)
theorem cdL_len {l : List Int} {i : Nat} (h : i ≤ l.length) : (cdL l i).length = l.length := by
  unfold cdL; rw [List.length_append, List.length_map, List.length_range, List.length_replicate]; omega
theorem cdL_zero (l : List Int) : cdL l 0 = List.replicate l.length (0, 0) := rfl
theorem cdL_all (l : List Int) : cdL l l.length = codeL l := by unfold cdL codeL; rw [Nat.sub_self]; exact List.append_nil _
theorem cdL_at {l : List Int} {i : Nat} (h : i < l.length) : (cdL l i)[i]? = some (0, 0) ∧ (cdL l i).set i (pieceAt l i) = cdL l (i + 1) := by
  have hl : ((List.range i).map (pieceAt l)).length = i := by rw [List.length_map, List.length_range]
  obtain ⟨m, hm⟩ : ∃ m, l.length - i = m + 1 := ⟨l.length - i - 1, by omega⟩
  have e1 := at_app ((List.range i).map (pieceAt l)) ((0 : Int), (0 : Int)) (List.replicate m (0, 0))
  have e2 := set_app ((List.range i).map (pieceAt l)) ((0 : Int), (0 : Int)) (pieceAt l i) (List.replicate m (0, 0))
  rw [hl] at e1 e2
  unfold cdL
  rw [hm, List.replicate_succ]
  refine ⟨e1, ?_⟩
  rw [e2, List.range_succ, List.map_append, show l.length - (i + 1) = m by omega]
  simp
def wrF (l : List Int) (i k : Nat) : Nat := if k = 0 then 0 else wrd l i k
theorem wrF_zero (l : List Int) : wrF l 0 = bs l := by
  funext k
  unfold wrF wrd
  cases k with
  | zero => rfl
  | succ k => rw [if_neg (by omega)]; simp [mny]
def CodePost (A : St) (e : Nat) (p : List (Int × Int) × Int) (r : Ending) (A' : St) : Prop := ∃ v, r = .returned (.tuple #[v, .int .i64 p.2]) ∧ Over A A' ∧ Row A' e 2 A.next (p.1.flatMap pcE) p.1.length v
theorem pieceAt_some {l : List Int} {i m : Nat} (hi : l[i]? = some (m : Int)) (hm : 0 < m) : pieceAt l i = (((rv m (wrd l i m) : Nat) : Int), (m : Int)) := by
  unfold pieceAt
  rw [List.getD_eq_getElem?_getD, hi]
  simp only [Option.getD_some, Int.toNat_natCast]
  rw [if_pos (by omega)]
theorem pieceAt_none {l : List Int} {i : Nat} (hi : l[i]? = some 0) : pieceAt l i = (0, 0) := by
  unfold pieceAt
  rw [List.getD_eq_getElem?_getD, hi]; rfl
set_option maxHeartbeats 8000000 in
theorem codes_ok (w0 : World) (A : St) (l : List Int) (v : Value) (hv : InView A l v) (hl : l.length ≤ 1000) : ACalls Try.prog w0 17 #[v] A (CodePost A 51 (codesP l)) := by
  refine call_E (l := [v]) Try.enters17 Try.func17 rfl (Nat.le_of_ble_eq_true rfl) fun hw hbd => ?_
  have hlv : ∀ X, lenU X (some (.slice 3)) v = some (.int .i64 l.length, X) := View.lenX hv
  simp (maxSteps := 1000000) (disch := first | omega | (simp only [z1, z2, z3, z4, z5, z6, z7] <;> omega) | fail) only [go_sem, Try.ntmps17, Try.results17, hlv]
  refine (counts_ok w0 A l v hv hl).mono ?_
  rintro e A1 ⟨f, rfl, rfl, hf⟩
  have hLf := numC_len .i64 16 f
  have hpf := numC_plain .i64 16 f
  have hz16 : ∀ g : Nat → Nat, setList (numC .i64 16 g) 0 (numC .i64 16 f) = numC .i64 16 f := fun g => setList_all (by rw [numC_len, numC_len])
  rcases hc : isCode l with _ | _
  · simp (maxSteps := 1000000) (disch := first | omega | (simp only [z1, z2, z3, z4, z5, z6, z7] <;> omega) | fail) only [go_sem, hpf, hc, Try.results17]
    refine gc_here ⟨_, by unfold codesP; rw [hc]; rfl, ((Over.refl _).alloc _).upd (Nat.le_refl _) _, ?_⟩
    unfold codesP; rw [hc]; exact Row.nil ..
  obtain rfl := hf hc
  obtain ⟨hk, hl3, h15⟩ := isCode_kr hc
  have hne : l.length ≠ 0 := by
    intro h
    rw [List.eq_nil_of_length_eq_zero h] at hc
    revert hc; decide
  have hT : (numC .i64 16 (mny l)).take 16 = numC .i64 16 (mny l) := List.take_of_length_le (by omega)
  have hz0 : setList [Value.int .i64 0, .int .i64 0, .int .i64 0, .int .i64 0, .int .i64 0, .int .i64 0, .int .i64 0, .int .i64 0, .int .i64 0, .int .i64 0, .int .i64 0, .int .i64 0, .int .i64 0, .int .i64 0, .int .i64 0, .int .i64 0] 0 (numC .i64 16 (mny l)) = numC .i64 16 (mny l) := setList_all (by rw [hLf]; rfl)
  simp (maxSteps := 1000000) (disch := first | omega | (simp only [z1, z2, z3, z4, z5, z6, z7] <;> omega) | fail) only [go_sem, hpf, hc, hz0, hT]
  refine call1 (first_ok w0 _ l hk) ?_
  have hLb := numC_len .u32 17 (bs l)
  have hpb := numC_plain .u32 17 (bs l)
  have hz1 : setList [Value.int .u32 0, .int .u32 0, .int .u32 0, .int .u32 0, .int .u32 0, .int .u32 0, .int .u32 0, .int .u32 0, .int .u32 0, .int .u32 0, .int .u32 0, .int .u32 0, .int .u32 0, .int .u32 0, .int .u32 0, .int .u32 0, .int .u32 0] 0 (numC .u32 17 (bs l)) = numC .u32 17 (bs l) := setList_all (by rw [hLb]; rfl)
  have hmk : ∀ X : St, amakeSlice Try.prog X 46 (.int .i64 (l.length : Int)) (.int .i64 (l.length : Int)) = some (.slice (some ⟨X.next, 0, none⟩) l.length l.length, X.alloc (.cells ((List.replicate l.length ((0 : Int), (0 : Int))).flatMap pcE) 51 (some 0))) := fun X => by
    rw [makeSlice_rows Try.el46 Try.sz51 (by decide) Try.byt51 Try.zero51 rfl (by decide) (by omega)]
    rw [← zerosR_pc]
    rfl
  simp (maxSteps := 1000000) (disch := first | omega | (simp only [z1, z2, z3, z4, z5, z6, z7] <;> omega) | fail) only [go_sem, hpb, hz1, hlv, hmk]
  refine aw_loop (fun k x A' => ∃ (ρ : Nat → Value) (i : Nat), x = E 50 ρ [] ∧ Over A1 A' ∧ A'.next = A1.next + 3 ∧ A'.get (A1.next + 1) = some (.cells (numC .u32 17 (wrF l i)) 81 (some 0)) ∧ A'.get (A1.next + 2) = some (.cells ((cdL l i).flatMap pcE) 51 (some 0)) ∧ k = l.length - i ∧ i ≤ l.length ∧ ρ 6 = .pointer (some ⟨A1.next + 1, 0, none⟩) ∧ ρ 7 = .slice (some ⟨A1.next + 2, 0, none⟩) l.length l.length ∧ ρ 22 = v ∧ ρ 23 = .int .i64 l.length ∧ ρ 24 = .int .i64 i) l.length
    ⟨_, 0, rfl, ?_, rfl, ?_, ?_, rfl, Nat.zero_le _, rfl, rfl, rfl, rfl, rfl⟩ ?_
  · exact (((((Over.refl A1).alloc _).upd (Nat.le_refl _) _).alloc _).upd (by simp) _).alloc _
  · rw [wrF_zero]; simp (disch := first | omega | (simp only [z1, z2, z3, z4, z5, z6, z7] <;> omega) | fail) only [St.get_upd, St.get_alloc, St.next_alloc, St.next_upd, ↓reduceIte, natF_lt, natF_gt, natF_ne, Nat.add_assoc, Nat.reduceAdd, Nat.reduceEqDiff, Nat.add_left_cancel_iff]
  · rw [cdL_zero]; simp (disch := first | omega | (simp only [z1, z2, z3, z4, z5, z6, z7] <;> omega) | fail) only [St.get_upd, St.get_alloc, St.next_alloc, St.next_upd, ↓reduceIte, natF_lt, natF_gt, natF_ne, Nat.add_assoc, Nat.reduceAdd, Nat.reduceEqDiff, Nat.add_left_cancel_iff]
  rintro k x A' ⟨ρ, i, rfl, oA, hnx, gW, gR, hkk, hi, r6, r7, r22, r23, r24⟩
  refine aw_of ?_
  have hcl := cdL_len hi
  have hrow : Row A' 51 2 A1.next ((cdL l i).flatMap pcE) (cdL l i).length (.slice (some ⟨A1.next + 2, 0, none⟩) l.length l.length) := ⟨flatMap_len _ pcE_len, .inr ⟨A1.next + 2, none, by rw [hcl], .inl rfl, by omega, by omega, gR⟩⟩
  by_cases hend : i = l.length
  · have e1 : ¬ ((i : Int) < (l.length : Nat)) := by omega
    simp (maxSteps := 1000000) (disch := first | omega | (simp only [z1, z2, z3, z4, z5, z6, z7] <;> omega) | fail) only [go_sem, r7, r22, r23, r24, e1, Try.results17]
    rw [hend, cdL_all] at hrow
    refine gc_here ⟨_, by unfold codesP; rw [hc]; rfl, oA, ?_⟩
    unfold codesP; rw [hc]; exact hrow
  have e1 : ((i : Int) < (l.length : Nat)) := by omega
  obtain ⟨n, hx⟩ : ∃ x, l[i]? = some x := ⟨_, List.getElem?_eq_getElem (by omega)⟩
  obtain ⟨pb, po, hb1, hb2, hb3, cells, e', md, hb4, hb5⟩ := View.at1 (P := Try.prog) (e := 3) (View.over hv oA) Try.sz3 (i64E_at _ i n hx)
  have htk : l.take (i + 1) = l.take i ++ [n] := by rw [List.take_add_one, hx]; rfl
  obtain ⟨hn0, hn15⟩ := h15 n (List.mem_of_getElem? hx)
  obtain ⟨m, rfl⟩ := Int.eq_ofNat_of_zero_le hn0
  obtain ⟨_, hset⟩ := cdL_at (l := l) (i := i) (by omega)
  by_cases hm : (m : Int) > 0
  · obtain ⟨b, hbr, _, _, hbg, hix, _, hst, _⟩ := hrow.own pcE_len Try.sz51 (by omega)
    cases hbr
    have hix := hix .i64 i (by omega)
    have hst := hst i (pieceAt l i) (by omega) rfl
    rw [pieceAt_some hx (by omega)] at hset hst
    rw [hset] at hst
    have hst' : storeC A' (some 2) (some (.cells ((cdL l i).flatMap pcE) 51 (some 0))) (A1.next + 2) (i * 2) (.agg [.int .u32 ((rv m (wrd l i m) : Nat) : Int), .int .i64 (m : Int)].toArray) = _ := hst
    have hat := numC_at .u32 (n := 17) (j := m) (wrF l i) (by omega)
    have hwf : wrF l i m = wrd l i m := if_neg (by omega)
    rw [hwf] at hat
    have hwl := wrd_lt hk (by omega) (by omega) hx
    have hwl2 : wrd l i m < 2 ^ 15 := Nat.lt_of_lt_of_le hwl (Nat.pow_le_pow_right (by decide) (by omega))
    have h215 : (2 : Nat) ^ 15 = 32768 := rfl
    have e3 : (m : Int) < 17 := by omega
    simp (maxSteps := 1000000) (disch := first | omega | (simp only [z1, z2, z3, z4, z5, z6, z7] <;> omega) | fail) only [go_sem, r6, r7, r22, r23, r24, e1, hb3, hb4, hb5, hm, hat, gW, e3]
    refine call1 (rev_ok w0 A' (wrd l i m) (by omega)) ?_
    have hsh : ishr .u32 ((rev32 (wrd l i m) : Nat) : Int) (32 - (m : Int)) = ((rv m (wrd l i m) : Nat) : Int) := by
      rw [show (32 : Int) - m = ((32 - m : Nat) : Int) by omega, u32_sr _ _ (by omega), Nat.shiftRight_eq_div_pow, rev32_rv (by omega) (by omega)]
    have hw1 : IntKind.u32.wrap (((wrd l i m : Nat) : Int) + 1) = ((wrd l i m + 1 : Nat) : Int) := by
      simp only [IntKind.wrap, IntKind.signed, IntKind.bits]; simp; omega
    have hs2 := numC_set .u32 (n := 17) (j := m) (f := wrF l i) (g := wrF l (i + 1)) (fun j hj => by
      unfold wrF wrd
      rw [htk, mny_snoc, if_neg (show ¬ (m : Int) = (j : Int) by omega)]; rfl)
    have hwf2 : wrF l (i + 1) m = wrd l i m + 1 := by
      unfold wrF wrd
      rw [if_neg (by omega), htk, mny_snoc, if_pos rfl]; omega
    rw [hwf2] at hs2
    have e4 : (0 : Int) ≤ 32 - (m : Int) := by omega
    have hL17 := numC_len .u32 17 (wrF l i)
    simp (maxSteps := 1000000) (disch := first | omega | (simp only [z1, z2, z3, z4, z5, z6, z7] <;> omega) | fail) only [go_sem, r6, r7, r24, hix, gR, gW, hsh, e3, e4, hst', hat, hw1, hs2]
    refine ⟨k - 1, by omega, _, i + 1, rfl, (oA.upd (by omega) _).upd (by omega) _, hnx, ?_, ?_, by omega, by omega, ?_, ?_, ?_, ?_, ?_⟩
    · simp (disch := first | omega | (simp only [z1, z2, z3, z4, z5, z6, z7] <;> omega) | fail) only [St.get_upd, St.get_alloc, St.next_alloc, St.next_upd, ↓reduceIte, natF_lt, natF_gt, natF_ne, Nat.add_assoc, Nat.reduceAdd, Nat.reduceEqDiff, Nat.add_left_cancel_iff]
    · simp (disch := first | omega | (simp only [z1, z2, z3, z4, z5, z6, z7] <;> omega) | fail) only [St.get_upd, St.get_alloc, St.next_alloc, St.next_upd, ↓reduceIte, natF_lt, natF_gt, natF_ne, Nat.add_assoc, Nat.reduceAdd, Nat.reduceEqDiff, Nat.add_left_cancel_iff]
    · simp (maxSteps := 1000000) (disch := first | omega | (simp only [z1, z2, z3, z4, z5, z6, z7] <;> omega) | fail) only [go_sem, r6]
    · simp (maxSteps := 1000000) (disch := first | omega | (simp only [z1, z2, z3, z4, z5, z6, z7] <;> omega) | fail) only [go_sem, r7]
    · simp (maxSteps := 1000000) (disch := first | omega | (simp only [z1, z2, z3, z4, z5, z6, z7] <;> omega) | fail) only [go_sem, r22]
    · simp (maxSteps := 1000000) (disch := first | omega | (simp only [z1, z2, z3, z4, z5, z6, z7] <;> omega) | fail) only [go_sem, r23]
    · simp (maxSteps := 1000000) (disch := first | omega | (simp only [z1, z2, z3, z4, z5, z6, z7] <;> omega) | fail) only [go_sem]
      rfl
  · obtain rfl : m = 0 := by omega
    rw [pieceAt_none hx] at hset
    have hst2 : cdL l (i + 1) = cdL l i := by
      rw [← hset]
      obtain ⟨ha, _⟩ := cdL_at (l := l) (i := i) (by omega)
      refine List.ext_getElem? fun j => ?_
      rw [List.getElem?_set]
      split
      · rename_i e; rw [← e, ha, if_pos (by omega)]
      · rfl
    have hwe : wrF l (i + 1) = wrF l i := by
      funext j
      unfold wrF wrd
      by_cases h : j = 0
      · rw [if_pos h, if_pos h]
      · rw [if_neg h, if_neg h, htk, mny_snoc, if_neg (by omega)]; rfl
    simp (maxSteps := 1000000) (disch := first | omega | (simp only [z1, z2, z3, z4, z5, z6, z7] <;> omega) | fail) only [go_sem, r6, r7, r22, r23, r24, e1, hb3, hb4, hb5, hm]
    refine ⟨k - 1, by omega, _, i + 1, rfl, oA, hnx, by rw [hwe]; exact gW, by rw [hst2]; exact gR, by omega, by omega, ?_, ?_, ?_, ?_, ?_⟩
    · simp (maxSteps := 1000000) (disch := first | omega | (simp only [z1, z2, z3, z4, z5, z6, z7] <;> omega) | fail) only [go_sem, r6]
    · simp (maxSteps := 1000000) (disch := first | omega | (simp only [z1, z2, z3, z4, z5, z6, z7] <;> omega) | fail) only [go_sem, r7]
    · simp (maxSteps := 1000000) (disch := first | omega | (simp only [z1, z2, z3, z4, z5, z6, z7] <;> omega) | fail) only [go_sem, r22]
    · simp (maxSteps := 1000000) (disch := first | omega | (simp only [z1, z2, z3, z4, z5, z6, z7] <;> omega) | fail) only [go_sem, r23]
    · simp (maxSteps := 1000000) (disch := first | omega | (simp only [z1, z2, z3, z4, z5, z6, z7] <;> omega) | fail) only [go_sem]
      rfl
end Go.Fw

set_option linter.unusedSimpArgs false
set_option linter.unusedVariables false
set_option maxRecDepth 4000
namespace Go.Fw
open Go.Proofs Go.RowKit
/-! The words of a code, the document's way. -/
theorem Try.enters43 : Enters Try.prog 43 := enters_of Try.func43 rfl (by kernel_rfl)
theorem Try.enters23 : Enters Try.prog 23 := enters_of Try.func23 rfl (by kernel_rfl)
theorem one_used {l : List Int} (h : ∀ x ∈ l, 0 ≤ x ∧ x ≤ 15) (hk : kr l = 16384) : lng l 0 = 1 ↔ mny l 1 = 1 := by
  have e := kr_ks l
  simp only [ks] at e
  have e1 := lng_step l 0
  have e2 := lng_step l 1
  have e3 := lng_step l 2
  have e4 := lng_step l 3
  have e5 := lng_step l 4
  have e6 := lng_step l 5
  have e7 := lng_step l 6
  have e8 := lng_step l 7
  have e9 := lng_step l 8
  have e10 := lng_step l 9
  have e11 := lng_step l 10
  have e12 := lng_step l 11
  have e13 := lng_step l 12
  have e14 := lng_step l 13
  have e15 := lng_step l 14
  have e16 := lng_15 h
  simp only [Nat.zero_add, Nat.reduceAdd] at e e1 e2 e3 e4 e5 e6 e7 e8 e9 e10 e11 e12 e13 e14 e15 e16
  simp only [Nat.reduceSub, Nat.reducePow] at e
  omega
theorem code_eq2 {l : List Int} (h : ∀ x ∈ l, 0 ≤ x ∧ x ≤ 15) : isCode l = (decide (l.length ≤ 300) && (decide (kr l = 32768) || decide (lng l 0 = 1) && decide (kr l = 16384))) := by
  rw [code_eq h]
  by_cases hk : kr l = 16384
  · rw [decide_eq_decide.2 (one_used h hk)]
  · rw [decide_eq_false hk, Bool.and_false, Bool.and_false]
theorem lng_snoc (l : List Int) (x : Int) (k : Nat) : lng (l ++ [x]) k = lng l k + if (k : Int) < x then 1 else 0 := by
  unfold lng
  rw [List.countP_append, List.countP_singleton]
  congr 1
  by_cases h : (k : Int) < x
  · rw [if_pos h, if_pos (by simpa using h)]
  · rw [if_neg h, if_neg (by simpa using h)]
set_option maxHeartbeats 4000000 in
theorem rright_ok (w0 : World) (A : St) (l : List Int) (v : Value) (hv : InView A l v) (hl : l.length ≤ 1000) : ACalls Try.prog w0 43 #[v] A (fin (.bool (isCode l)) A) := by
  refine call_E (l := [v]) Try.enters43 Try.func43 rfl (Nat.le_of_ble_eq_true rfl) fun hw hbd => ?_
  have hlv : ∀ X, lenU X (some (.slice 3)) v = some (.int .i64 l.length, X) := View.lenX hv
  simp (maxSteps := 1000000) (disch := first | omega | (simp only [z1, z2, z3, z4, z5, z6, z7] <;> omega) | fail) only [go_sem, Try.ntmps43, Try.results43]
  refine aw_loop (fun k x A' => ∃ (ρ : Nat → Value) (i : Nat), x = E 47 ρ [] ∧ A' = A ∧ k = l.length - i ∧ i ≤ l.length ∧ (∀ x ∈ l.take i, 0 ≤ x ∧ x ≤ 15) ∧ ρ 0 = v ∧ ρ 3 = .int .i64 (lng (l.take i) 0 : Nat) ∧ ρ 4 = .int .i64 i) l.length
    ⟨_, 0, rfl, rfl, rfl, Nat.zero_le _, fun x hx => (by simp at hx), rfl, rfl, rfl⟩ ?_
  rintro k x A' ⟨ρ, i, rfl, rfl, hk, hi, hok, r0, r3, r4⟩
  refine aw_of ?_
  have hlg := lng_le (l.take i) 0
  have htl : (l.take i).length ≤ i := List.length_take_le ..
  by_cases hend : i = l.length
  rotate_left
  · have e1 : (i : Int) < (l.length : Int) := by omega
    obtain ⟨n, hx⟩ : ∃ x, l[i]? = some x := ⟨_, List.getElem?_eq_getElem (by omega)⟩
    obtain ⟨pb, po, hb1, hb2, hb3, cells, e', md, hb4, hb5⟩ := View.at1 (P := Try.prog) (e := 3) hv Try.sz3 (i64E_at _ i n hx)
    have htk : l.take (i + 1) = l.take i ++ [n] := by rw [List.take_add_one, hx]; rfl
    have hmem := List.mem_of_getElem? hx
    have hsn := lng_snoc (l.take i) n 0
    rw [← htk] at hsn
    by_cases b1 : n < 0
    · simp (maxSteps := 1000000) (disch := first | omega | (simp only [z1, z2, z3, z4, z5, z6, z7] <;> omega) | fail) only [go_sem, r0, r3, r4, hlv, e1, hb3, hb4, hb5, b1, Try.results43]
      exact gc_here ⟨by rw [code_no hmem (.inl b1)], rfl⟩
    by_cases b2 : n > 15
    · simp (maxSteps := 1000000) (disch := first | omega | (simp only [z1, z2, z3, z4, z5, z6, z7] <;> omega) | fail) only [go_sem, r0, r3, r4, hlv, e1, hb3, hb4, hb5, b1, b2, Try.results43]
      exact gc_here ⟨by rw [code_no hmem (.inr b2)], rfl⟩
    have hok2 : ∀ x ∈ l.take (i + 1), 0 ≤ x ∧ x ≤ 15 := fun x hx => by
      rw [htk] at hx
      rcases List.mem_append.1 hx with hx | hx
      · exact hok x hx
      · rw [List.mem_singleton.1 hx]; omega
    by_cases b3 : n > 0
    · rw [if_pos (by omega)] at hsn
      simp (maxSteps := 1000000) (disch := first | omega | (simp only [z1, z2, z3, z4, z5, z6, z7] <;> omega) | fail) only [go_sem, r0, r3, r4, hlv, e1, hb3, hb4, hb5, b1, b2, b3]
      refine ⟨k - 1, by omega, _, i + 1, rfl, by omega, by omega, hok2, ?_, ?_, ?_⟩
      · simp (maxSteps := 1000000) (disch := first | omega | (simp only [z1, z2, z3, z4, z5, z6, z7] <;> omega) | fail) only [go_sem, r0]
      · simp (maxSteps := 1000000) (disch := first | omega | (simp only [z1, z2, z3, z4, z5, z6, z7] <;> omega) | fail) only [go_sem]
        rw [hsn]; rfl
      · simp (maxSteps := 1000000) (disch := first | omega | (simp only [z1, z2, z3, z4, z5, z6, z7] <;> omega) | fail) only [go_sem]
        rfl
    · rw [if_neg (by omega)] at hsn
      simp (maxSteps := 1000000) (disch := first | omega | (simp only [z1, z2, z3, z4, z5, z6, z7] <;> omega) | fail) only [go_sem, r0, r3, r4, hlv, e1, hb3, hb4, hb5, b1, b2, b3]
      refine ⟨k - 1, by omega, _, i + 1, rfl, by omega, by omega, hok2, ?_, ?_, ?_⟩
      · simp (maxSteps := 1000000) (disch := first | omega | (simp only [z1, z2, z3, z4, z5, z6, z7] <;> omega) | fail) only [go_sem, r0]
      · simp (maxSteps := 1000000) (disch := first | omega | (simp only [z1, z2, z3, z4, z5, z6, z7] <;> omega) | fail) only [go_sem, r3]
        rw [hsn]; rfl
      · simp (maxSteps := 1000000) (disch := first | omega | (simp only [z1, z2, z3, z4, z5, z6, z7] <;> omega) | fail) only [go_sem]
        rfl
  have e1 : ¬ ((i : Int) < (l.length : Int)) := by omega
  rw [hend, List.take_length] at hok r3 hlg
  have hce := code_eq2 hok
  have hkr := rkraft_ok w0 A' l v hv hl
  have hkc : ∃ v1, ACallV Try.prog w0 (.func (.func 64) #[] #[]) #[v] A' (fin v1 A') := ⟨_, hkr⟩
  by_cases c1 : l.length ≤ 300
  rotate_left
  · have d1 : ¬ ((l.length : Nat) : Int) ≤ 300 := by omega
    simp (maxSteps := 1000000) (disch := first | omega | (simp only [z1, z2, z3, z4, z5, z6, z7] <;> omega) | fail) only [go_sem, r0, r3, r4, hlv, e1, d1, Try.results43]
    exact gc_here ⟨by rw [hce, decide_eq_false c1]; rfl, rfl⟩
  have d1 : ((l.length : Nat) : Int) ≤ 300 := by omega
  simp (maxSteps := 1000000) (disch := first | omega | (simp only [z1, z2, z3, z4, z5, z6, z7] <;> omega) | fail) only [go_sem, r0, r3, r4, hlv, e1, d1]
  refine call1 hkr ?_
  by_cases c2 : kr l = 32768
  · have d2 : ((kr l : Nat) : Int) = 32768 := by omega
    simp (maxSteps := 1000000) (disch := first | omega | (simp only [z1, z2, z3, z4, z5, z6, z7] <;> omega) | fail) only [go_sem, r0, r3, d2, Try.results43]
    exact gc_here ⟨by rw [hce, decide_eq_true c1, decide_eq_true c2]; rfl, rfl⟩
  have d2 : ¬ ((kr l : Nat) : Int) = 32768 := by omega
  by_cases c3 : lng l 0 = 1
  rotate_left
  · have d3 : ¬ ((lng l 0 : Nat) : Int) = 1 := by omega
    simp (maxSteps := 1000000) (disch := first | omega | (simp only [z1, z2, z3, z4, z5, z6, z7] <;> omega) | fail) only [go_sem, r0, r3, d2, d3, Try.results43]
    exact gc_here ⟨by rw [hce, decide_eq_true c1, decide_eq_false c2, decide_eq_false c3]; rfl, rfl⟩
  have d3 : ((lng l 0 : Nat) : Int) = 1 := by omega
  simp (maxSteps := 1000000) (disch := first | omega | (simp only [z1, z2, z3, z4, z5, z6, z7] <;> omega) | fail) only [go_sem, r0, r3, d2, d3]
  refine call1 hkr ?_
  by_cases c4 : kr l = 16384
  · have d4 : ((kr l : Nat) : Int) = 16384 := by omega
    simp (maxSteps := 1000000) (disch := first | omega | (simp only [z1, z2, z3, z4, z5, z6, z7] <;> omega) | fail) only [go_sem, d4, Try.results43]
    exact gc_here ⟨by rw [hce, decide_eq_true c1, decide_eq_false c2, decide_eq_true c3, decide_eq_true c4]; rfl, rfl⟩
  · have d4 : ¬ ((kr l : Nat) : Int) = 16384 := by omega
    simp (maxSteps := 1000000) (disch := first | omega | (simp only [z1, z2, z3, z4, z5, z6, z7] <;> omega) | fail) only [go_sem, d4, Try.results43]
    exact gc_here ⟨by rw [hce, decide_eq_true c1, decide_eq_false c2, decide_eq_true c3, decide_eq_false c4]; rfl, rfl⟩
theorem u32_bit {n i : Nat} (hn : n < 4294967296) (hi : i ≤ 32) : ibits .and .u32 (ishr .u32 (n : Int) (i : Int)) 1 = ((n / 2 ^ i % 2 : Nat) : Int) := by
  have hb : (2 : Nat) ^ IntKind.u32.bits = 4294967296 := rfl
  rw [u32_sr n i hi, Nat.shiftRight_eq_div_pow]
  have h1 : n / 2 ^ i < 4294967296 := Nat.lt_of_le_of_lt (Nat.div_le_self _ _) hn
  have := bits_and .u32 rfl (n / 2 ^ i) 1 (by rw [hb]; exact h1) (by rw [hb]; decide)
  rw [show (1 : Int) = ((1 : Nat) : Int) from rfl, this, Nat.and_one_is_mod]
theorem u32_or1 {n b : Nat} (hn : n < 1073741824) (hb : b < 2) : ibits .or .u32 (ishl .u32 (n : Int) 1) (b : Int) = ((2 * n + b : Nat) : Int) := by
  have hbb : (2 : Nat) ^ IntKind.u32.bits = 4294967296 := rfl
  have e := u32_sl (a := n) (s := 1) (by decide) (by omega)
  rw [show (1 : Int) = ((1 : Nat) : Int) from rfl, e, bits_or .u32 rfl _ _ (by rw [hbb, Nat.shiftLeft_eq]; omega) (by rw [hbb]; omega)]
  congr 1
  rw [← Nat.shiftLeft_add_eq_or_of_lt (by simpa using hb), Nat.shiftLeft_eq]; omega
set_option maxHeartbeats 4000000 in
theorem turned_ok (w0 : World) (A : St) (n k : Nat) (hn : n < 4294967296) (hk : k ≤ 24) : ACalls Try.prog w0 44 #[.int .u32 n, .int .i64 k] A (fin (.int .u32 (rv k n : Nat)) A) := by
  refine call_E (l := [.int .u32 n, .int .i64 k]) Try.enters44 Try.func44 rfl (Nat.le_of_ble_eq_true rfl) fun hw hbd => ?_
  simp (maxSteps := 1000000) (disch := first | omega | (simp only [z1, z2, z3, z4, z5, z6, z7] <;> omega) | fail) only [go_sem, Try.ntmps44, Try.results44]
  refine aw_loop (fun j x A' => ∃ (ρ : Nat → Value) (i : Nat), x = E 20 ρ [] ∧ A' = A ∧ j = k - i ∧ i ≤ k ∧ ρ 0 = .int .u32 n ∧ ρ 1 = .int .i64 k ∧ ρ 5 = .int .u32 (rv i n : Nat) ∧ ρ 6 = .int .i64 i) k
    ⟨_, 0, rfl, rfl, rfl, Nat.zero_le _, rfl, rfl, rfl, rfl⟩ ?_
  rintro j x A' ⟨ρ, i, rfl, rfl, hj, hi, r0, r1, r5, r6⟩
  refine aw_of ?_
  by_cases hend : i = k
  · have e1 : ¬ ((i : Int) < (k : Int)) := by omega
    rw [hend] at r5
    simp (maxSteps := 1000000) (disch := first | omega | (simp only [z1, z2, z3, z4, z5, z6, z7] <;> omega) | fail) only [go_sem, r0, r1, r5, r6, e1, Try.results44]
    exact gc_here ⟨rfl, rfl⟩
  have e1 : ((i : Int) < (k : Int)) := by omega
  have hlt := rv_lt i n
  have h23 : 2 ^ i ≤ 2 ^ 24 := Nat.pow_le_pow_right (by decide) (by omega)
  have h24 : (2 : Nat) ^ 24 = 16777216 := rfl
  have hb := u32_bit (n := n) (i := i) hn (by omega)
  have hm2 : n / 2 ^ i % 2 < 2 := Nat.mod_lt _ (by decide)
  have ho := u32_or1 (n := rv i n) (b := n / 2 ^ i % 2) (by omega) hm2
  simp (maxSteps := 1000000) (disch := first | omega | (simp only [z1, z2, z3, z4, z5, z6, z7] <;> omega) | fail) only [go_sem, r0, r1, r5, r6, e1, hb, ho]
  refine ⟨j - 1, by omega, _, i + 1, rfl, by omega, by omega, ?_, ?_, ?_, ?_⟩
  · simp (maxSteps := 1000000) (disch := first | omega | (simp only [z1, z2, z3, z4, z5, z6, z7] <;> omega) | fail) only [go_sem, r0]
  · simp (maxSteps := 1000000) (disch := first | omega | (simp only [z1, z2, z3, z4, z5, z6, z7] <;> omega) | fail) only [go_sem, r1]
  · simp (maxSteps := 1000000) (disch := first | omega | (simp only [z1, z2, z3, z4, z5, z6, z7] <;> omega) | fail) only [go_sem]
    rfl
  · simp (maxSteps := 1000000) (disch := first | omega | (simp only [z1, z2, z3, z4, z5, z6, z7] <;> omega) | fail) only [go_sem]
    rfl
end Go.Fw

set_option linter.unusedSimpArgs false
set_option linter.unusedVariables false
set_option maxRecDepth 4000
namespace Go.Fw
open Go.Proofs Go.RowKit
/-! Codes of the document. -/
theorem pc_push {A : St} {lo : Nat} {l : List (Int × Int)} {v : Value} (h : Row A 60 2 lo (l.flatMap pcE) l.length v) (x : Int × Int) (hlo : lo ≤ A.next) (hl : l.length ≤ 1000000) :
    ∃ v' A2, aappend Try.prog (A.alloc (.cells (pcE x) 60 (some 0))) 57 57 v (.slice (some ⟨A.next, 0, none⟩) 1 1) = some (v', A2) ∧ Row A2 60 2 lo ((l ++ [x]).flatMap pcE) (l ++ [x]).length v' ∧ A2.next = A.next + 2 ∧ rowB v' = some (A.next + 1) ∧ ∀ b, b < A.next → rowB v ≠ some b → A2.get b = A.get b := by
  obtain ⟨v', A2, h1, h2, h3, h4, h5⟩ := row_push (A := A) (sp := none) (c := 1) (xs := pcE x) Try.el57 Try.underlying57 (by intro k; exact TypeDesc.noConfusion) Try.sz60 Try.byt60 Try.zero60 rfl h hlo (by omega) (by omega) rfl rfl
  exact ⟨v', A2, h1, by rw [List.flatMap_append, List.length_append, List.flatMap_singleton]; exact h2, h3, h4, h5⟩
/-- The pieces, while words of n bits are given, up to the place i. -/
def dcP (l : List Int) (n i j : Nat) : Int × Int := if (0 < l.getD j 0 ∧ l.getD j 0 < (n : Int)) ∨ (l.getD j 0 = (n : Int) ∧ j < i) then pieceAt l j else (0, 0)
def dcL (l : List Int) (n i : Nat) : List (Int × Int) := (List.range l.length).map (dcP l n i)
theorem dcL_len (l : List Int) (n i : Nat) : (dcL l n i).length = l.length := by unfold dcL; rw [List.length_map, List.length_range]
theorem dcL_at (l : List Int) (n i : Nat) {j : Nat} (h : j < l.length) : (dcL l n i)[j]? = some (dcP l n i j) := by
  unfold dcL; rw [List.getElem?_map, List.getElem?_range h]; rfl
theorem dcL_congr {l : List Int} {n i n' i' : Nat} (h : ∀ j, j < l.length → dcP l n i j = dcP l n' i' j) : dcL l n i = dcL l n' i' := List.map_congr_left fun j hj => h j (List.mem_range.1 hj)
theorem getD_some {l : List Int} {i : Nat} {x : Int} (h : l[i]? = some x) : l.getD i 0 = x := by rw [List.getD_eq_getElem?_getD, h]; rfl
theorem dcL_hit {l : List Int} {n i : Nat} (hi : l[i]? = some (n : Int)) : (dcL l n i).set i (pieceAt l i) = dcL l n (i + 1) := by
  have hil := (List.getElem?_eq_some_iff.1 hi).1
  refine List.ext_getElem? fun j => ?_
  rw [List.getElem?_set, dcL_len]
  by_cases hj : j < l.length
  · rw [dcL_at l n i hj, dcL_at l n (i + 1) hj]
    split
    · rename_i e
      subst e
      unfold dcP
      rw [if_pos (.inr ⟨getD_some hi, by omega⟩)]
    · rename_i e
      unfold dcP
      have : (l.getD j 0 = (n : Int) ∧ j < i) ↔ (l.getD j 0 = (n : Int) ∧ j < i + 1) := ⟨fun h => ⟨h.1, by omega⟩, fun h => ⟨h.1, by omega⟩⟩
      simp only [this]
  · have h1 : (dcL l n i)[j]? = none := List.getElem?_eq_none (by rw [dcL_len]; omega)
    have h2 : (dcL l n (i + 1))[j]? = none := List.getElem?_eq_none (by rw [dcL_len]; omega)
    rw [h1, h2, if_neg (by omega)]
theorem dcL_miss {l : List Int} {n i : Nat} {x : Int} (hi : l[i]? = some x) (hx : x ≠ (n : Int)) : dcL l n i = dcL l n (i + 1) := dcL_congr fun j _ => by
  unfold dcP
  by_cases e : j = i
  · subst e
    have := getD_some hi
    rw [this]
    by_cases h : 0 < x ∧ x < (n : Int)
    · rw [if_pos (.inl h), if_pos (.inl h)]
    · rw [if_neg (fun h' => h'.elim h (fun h' => hx h'.1)), if_neg (fun h' => h'.elim h (fun h' => hx h'.1))]
  · have : (l.getD j 0 = (n : Int) ∧ j < i) ↔ (l.getD j 0 = (n : Int) ∧ j < i + 1) := ⟨fun h => ⟨h.1, by omega⟩, fun h => ⟨h.1, by omega⟩⟩
    simp only [this]
theorem dcL_next (l : List Int) {n : Nat} (hn : 0 < n) : dcL l n l.length = dcL l (n + 1) 0 := dcL_congr fun j hj => by
  unfold dcP
  have : ((0 < l.getD j 0 ∧ l.getD j 0 < (n : Int)) ∨ (l.getD j 0 = (n : Int) ∧ j < l.length)) ↔ ((0 < l.getD j 0 ∧ l.getD j 0 < ((n + 1 : Nat) : Int)) ∨ (l.getD j 0 = ((n + 1 : Nat) : Int) ∧ j < 0)) := by
    constructor
    · rintro (⟨h1, h2⟩ | ⟨h1, h2⟩)
      · exact .inl ⟨h1, by omega⟩
      · exact .inl ⟨by omega, by omega⟩
    · rintro (⟨h1, h2⟩ | ⟨h1, h2⟩)
      · by_cases h : l.getD j 0 = (n : Int)
        · exact .inr ⟨h, hj⟩
        · exact .inl ⟨h1, by omega⟩
      · omega
  simp only [this]
theorem dcL_first (l : List Int) : dcL l 1 0 = List.replicate l.length (0, 0) := by
  refine List.ext_getElem? fun j => ?_
  rw [List.getElem?_replicate]
  by_cases hj : j < l.length
  · rw [dcL_at l 1 0 hj, if_pos hj]
    unfold dcP
    rw [if_neg (by rintro (⟨h1, h2⟩ | ⟨h1, h2⟩) <;> omega)]
  · rw [if_neg hj, List.getElem?_eq_none (by rw [dcL_len]; omega)]
theorem dcL_last {l : List Int} (h : ∀ x ∈ l, 0 ≤ x ∧ x ≤ 15) : dcL l 16 0 = codeL l := List.map_congr_left fun j hj => by
  have hj' := List.mem_range.1 hj
  have hx : l[j]? = some l[j] := List.getElem?_eq_getElem hj'
  have hm := h l[j] (List.getElem_mem hj')
  unfold dcP
  rw [getD_some hx]
  by_cases h0 : 0 < l[j]
  · rw [if_pos (.inl ⟨h0, by omega⟩)]
  · rw [if_neg (by rintro (⟨h1, h2⟩ | ⟨h1, h2⟩) <;> omega)]
    have : l[j] = 0 := by omega
    rw [this] at hx
    rw [pieceAt_none hx]
set_option maxHeartbeats 8000000 in
theorem rcodes_ok (w0 : World) (A : St) (l : List Int) (v : Value) (hv : InView A l v) (hl : l.length ≤ 1000) : ACalls Try.prog w0 23 #[v] A (CodePost A 60 (codesP l)) := by
  refine call_E (l := [v]) Try.enters23 Try.func23 rfl (Nat.le_of_ble_eq_true rfl) fun hw hbd => ?_
  have hlv : ∀ X, lenU X (some (.slice 3)) v = some (.int .i64 l.length, X) := View.lenX hv
  simp (maxSteps := 1000000) (disch := first | omega | (simp only [z1, z2, z3, z4, z5, z6, z7] <;> omega) | fail) only [go_sem, Try.ntmps23, Try.results23]
  refine call1 (rright_ok w0 A l v hv hl) ?_
  rcases hc : isCode l with _ | _
  · simp (maxSteps := 1000000) (disch := first | omega | (simp only [z1, z2, z3, z4, z5, z6, z7] <;> omega) | fail) only [go_sem, hc, Try.results23]
    refine gc_here ⟨_, by unfold codesP; rw [hc]; rfl, Over.refl _, ?_⟩
    unfold codesP; rw [hc]; exact Row.nil ..
  obtain ⟨hk, hl3, h15⟩ := isCode_kr hc
  have hne : l.length ≠ 0 := by
    intro h
    rw [List.eq_nil_of_length_eq_zero h] at hc
    revert hc; decide
  simp (maxSteps := 1000000) (disch := first | omega | (simp only [z1, z2, z3, z4, z5, z6, z7] <;> omega) | fail) only [go_sem, hc]
  refine aw_loop (fun k x A' => ∃ (ρ : Nat → Value) (i : Nat) (fv : Value), x = E 52 ρ [] ∧ Over A A' ∧ Row A' 60 2 A.next ((List.replicate i ((0 : Int), (0 : Int))).flatMap pcE) (List.replicate i ((0 : Int), (0 : Int))).length fv ∧ k = l.length - i ∧ i ≤ l.length ∧ ρ 0 = v ∧ ρ 4 = fv ∧ ρ 5 = .int .i64 i) l.length
    ⟨_, 0, _, rfl, (Over.refl A).alloc _, ⟨rfl, .inr ⟨A.next, none, rfl, .inl rfl, Nat.le_refl _, by rw [nx_alloc]; omega, get_alloc_same ..⟩⟩, rfl, Nat.zero_le _, rfl, rfl, rfl⟩ ?_
  rintro k x A' ⟨ρ, i, fv, rfl, oA, rf, hkk, hi, r0, r4, r5⟩
  refine aw_of ?_
  by_cases hend : i = l.length
  rotate_left
  · have e1 : (i : Int) < (l.length : Int) := by omega
    obtain ⟨v', A2, q1, q2, q3, q4, q5⟩ := pc_push rf (0, 0) oA.next (by rw [List.length_replicate]; omega)
    rw [← List.replicate_succ'] at q2
    have oA2 : Over A A2 := ⟨by have := oA.next; omega, fun b hb => (q5 b (by have := oA.next; omega) (rf.ne hb)).trans (oA.get b hb)⟩
    have q1' : aappend Try.prog (A'.alloc (.cells [.int .u32 0, .int .i64 0] 60 (some 0))) 57 57 fv (.slice (some ⟨A'.next, 0, none⟩) 1 1) = some (v', A2) := q1
    simp (maxSteps := 1000000) (disch := first | omega | (simp only [z1, z2, z3, z4, z5, z6, z7] <;> omega) | fail) only [go_sem, r0, r4, r5, hlv, e1, q1']
    refine ⟨k - 1, by omega, _, i + 1, v', rfl, oA2, q2, by omega, by omega, ?_, ?_, ?_⟩
    · simp (maxSteps := 1000000) (disch := first | omega | (simp only [z1, z2, z3, z4, z5, z6, z7] <;> omega) | fail) only [go_sem, r0]
    · simp (maxSteps := 1000000) (disch := first | omega | (simp only [z1, z2, z3, z4, z5, z6, z7] <;> omega) | fail) only [go_sem]
    · simp (maxSteps := 1000000) (disch := first | omega | (simp only [z1, z2, z3, z4, z5, z6, z7] <;> omega) | fail) only [go_sem]
      rfl
  have e1 : ¬ ((i : Int) < (l.length : Int)) := by omega
  rw [hend, ← dcL_first] at rf
  simp (maxSteps := 1000000) (disch := first | omega | (simp only [z1, z2, z3, z4, z5, z6, z7] <;> omega) | fail) only [go_sem, r0, r4, r5, hlv, e1]
  refine aw_loop (fun k x B => ∃ (ρ : Nat → Value) (n pw : Nat), x = E 52 ρ [] ∧ Over A B ∧ Row B 60 2 A.next ((dcL l n 0).flatMap pcE) (dcL l n 0).length fv ∧ k = 16 - n ∧ 1 ≤ n ∧ n ≤ 16 ∧ 2 * pw = bs l n ∧ ρ 0 = v ∧ ρ 4 = fv ∧ ρ 6 = .int .u32 pw ∧ ρ 7 = .int .i64 n) 15
    ⟨_, 1, 0, rfl, oA, rf, rfl, Nat.le_refl _, by omega, rfl, by first | rfl | exact r0, by first | rfl | exact r4, rfl, rfl⟩ ?_
  clear r0 r4 r5 rf oA
  rintro k x B ⟨ρ, n, pw, rfl, oB, rf, hkn, hn1, hn16, hpw, r0, r4, r6, r7⟩
  refine aw_of ?_
  by_cases hend2 : n = 16
  · have e2 : ¬ ((n : Int) ≤ 15) := by omega
    rw [hend2, dcL_last h15] at rf
    simp (maxSteps := 1000000) (disch := first | omega | (simp only [z1, z2, z3, z4, z5, z6, z7] <;> omega) | fail) only [go_sem, r0, r4, r6, r7, e2, Try.results23]
    refine gc_here ⟨fv, by unfold codesP; rw [hc]; rfl, oB, ?_⟩
    unfold codesP; rw [hc]; exact rf
  have e2 : ((n : Int) ≤ 15) := by omega
  have hbn := bs_le hk hn1 (by omega)
  have hp15 : 2 ^ n ≤ 2 ^ 15 := Nat.pow_le_pow_right (by decide) (by omega)
  have h215 : (2 : Nat) ^ 15 = 32768 := rfl
  have hsh := shl1_u32 (n := pw) (by omega)
  rw [hpw] at hsh
  simp (maxSteps := 1000000) (disch := first | omega | (simp only [z1, z2, z3, z4, z5, z6, z7] <;> omega) | fail) only [go_sem, r0, r4, r6, r7, e2, hsh]
  refine aw_loop (fun m x C => ∃ (ρ : Nat → Value) (i : Nat), x = E 52 ρ [] ∧ Over A C ∧ Row C 60 2 A.next ((dcL l n i).flatMap pcE) (dcL l n i).length fv ∧ m = l.length - i ∧ i ≤ l.length ∧ ρ 0 = v ∧ ρ 4 = fv ∧ ρ 6 = .int .u32 (wrd l i n : Nat) ∧ ρ 7 = .int .i64 n ∧ ρ 8 = .int .i64 i) l.length
    ⟨_, 0, rfl, oB, rf, rfl, Nat.zero_le _, by first | rfl | exact r0, by first | rfl | exact r4, by show Value.int .u32 _ = _; rw [show wrd l 0 n = bs l n from rfl], by first | rfl | exact r7, rfl⟩ ?_
  clear r0 r4 r6 r7 rf oB
  rintro m x C ⟨ρ, i, rfl, oC, rf, hm, hi, r0, r4, r6, r7, r8⟩
  refine aw_of ?_
  by_cases hend3 : i = l.length
  · have e3 : ¬ ((i : Int) < (l.length : Int)) := by omega
    rw [hend3, dcL_next l (by omega)] at rf
    simp (maxSteps := 1000000) (disch := first | omega | (simp only [z1, z2, z3, z4, z5, z6, z7] <;> omega) | fail) only [go_sem, r0, r4, r6, r7, r8, hlv, e3]
    refine ⟨k - 1, by omega, _, n + 1, bs l n + mny l n, rfl, oC, rf, by omega, by omega, by omega, ?_, ?_, ?_, ?_, ?_⟩
    · obtain ⟨n', rfl⟩ : ∃ n', n = n' + 1 := ⟨n - 1, by omega⟩
      rfl
    · simp (maxSteps := 1000000) (disch := first | omega | (simp only [z1, z2, z3, z4, z5, z6, z7] <;> omega) | fail) only [go_sem, r0]
    · simp (maxSteps := 1000000) (disch := first | omega | (simp only [z1, z2, z3, z4, z5, z6, z7] <;> omega) | fail) only [go_sem, r4]
    · simp (maxSteps := 1000000) (disch := first | omega | (simp only [z1, z2, z3, z4, z5, z6, z7] <;> omega) | fail) only [go_sem, r6]
      unfold wrd
      rw [hend3, List.take_length]
    · simp (maxSteps := 1000000) (disch := first | omega | (simp only [z1, z2, z3, z4, z5, z6, z7] <;> omega) | fail) only [go_sem]
      rfl
  have e3 : ((i : Int) < (l.length : Int)) := by omega
  obtain ⟨y, hx⟩ : ∃ x, l[i]? = some x := ⟨_, List.getElem?_eq_getElem (by omega)⟩
  obtain ⟨pb, po, hb1, hb2, hb3, cells, e', md, hb4, hb5⟩ := View.at1 (P := Try.prog) (e := 3) (View.over hv oC) Try.sz3 (i64E_at _ i y hx)
  have htk : l.take (i + 1) = l.take i ++ [y] := by rw [List.take_add_one, hx]; rfl
  by_cases hy : y = (n : Int)
  · subst hy
    obtain ⟨b, hbr, hb0, hbl, hbg, hix, _, hst, hre⟩ := rf.own pcE_len Try.sz60 (by rw [dcL_len]; exact hne)
    rw [dcL_len] at hix hst hre
    have hix := hix .i64 i (by omega)
    have hst := hst i (pieceAt l i) (by omega) rfl
    have hset := dcL_hit hx
    rw [hset] at hst
    rw [pieceAt_some hx (by omega)] at hst
    have hst' : storeC C (some 2) (some (.cells ((dcL l n i).flatMap pcE) 60 (some 0))) b (i * 2) (.agg [.int .u32 ((rv n (wrd l i n) : Nat) : Int), .int .i64 (n : Int)].toArray) = _ := hst
    have hwl := wrd_lt hk hn1 (by omega) hx
    have hww : wrd l (i + 1) n = wrd l i n + 1 := by unfold wrd; rw [htk, mny_snoc, if_pos rfl]; omega
    have hw1 : IntKind.u32.wrap (((wrd l i n : Nat) : Int) + 1) = ((wrd l i n + 1 : Nat) : Int) := by
      simp only [IntKind.wrap, IntKind.signed, IntKind.bits]; simp; omega
    simp (maxSteps := 1000000) (disch := first | omega | (simp only [z1, z2, z3, z4, z5, z6, z7] <;> omega) | fail) only [go_sem, r0, r4, r6, r7, r8, hlv, e3, hb3, hb4, hb5]
    refine call1 (turned_ok w0 C (wrd l i n) n (by omega) (by omega)) ?_
    simp (maxSteps := 1000000) (disch := first | omega | (simp only [z1, z2, z3, z4, z5, z6, z7] <;> omega) | fail) only [go_sem, r0, r4, r6, r7, r8, hix, hbg, hst', hw1]
    refine ⟨m - 1, by omega, _, i + 1, rfl, oC.upd hb0 _, ?_, by omega, by omega, ?_, ?_, ?_, ?_, ?_⟩
    · rw [dcL_len]
      have := hre (C.upd b (some (.cells ((dcL l n (i + 1)).flatMap pcE) 60 (some 0)))) (dcL l n (i + 1)) (dcL_len ..) (get_upd_same ..) (Nat.le_refl _)
      rw [dcL_len] at this
      exact this
    · simp (maxSteps := 1000000) (disch := first | omega | (simp only [z1, z2, z3, z4, z5, z6, z7] <;> omega) | fail) only [go_sem, r0]
    · simp (maxSteps := 1000000) (disch := first | omega | (simp only [z1, z2, z3, z4, z5, z6, z7] <;> omega) | fail) only [go_sem, r4]
    · simp (maxSteps := 1000000) (disch := first | omega | (simp only [z1, z2, z3, z4, z5, z6, z7] <;> omega) | fail) only [go_sem]
      rw [hww]
    · simp (maxSteps := 1000000) (disch := first | omega | (simp only [z1, z2, z3, z4, z5, z6, z7] <;> omega) | fail) only [go_sem, r7]
    · simp (maxSteps := 1000000) (disch := first | omega | (simp only [z1, z2, z3, z4, z5, z6, z7] <;> omega) | fail) only [go_sem]
      rfl
  · have hww : wrd l (i + 1) n = wrd l i n := by unfold wrd; rw [htk, mny_snoc, if_neg hy]; rfl
    simp (maxSteps := 1000000) (disch := first | omega | (simp only [z1, z2, z3, z4, z5, z6, z7] <;> omega) | fail) only [go_sem, r0, r4, r6, r7, r8, hlv, e3, hb3, hb4, hb5, hy]
    refine ⟨m - 1, by omega, _, i + 1, rfl, oC, by rw [← dcL_miss hx hy]; exact rf, by omega, by omega, ?_, ?_, ?_, ?_, ?_⟩
    · simp (maxSteps := 1000000) (disch := first | omega | (simp only [z1, z2, z3, z4, z5, z6, z7] <;> omega) | fail) only [go_sem, r0]
    · simp (maxSteps := 1000000) (disch := first | omega | (simp only [z1, z2, z3, z4, z5, z6, z7] <;> omega) | fail) only [go_sem, r4]
    · simp (maxSteps := 1000000) (disch := first | omega | (simp only [z1, z2, z3, z4, z5, z6, z7] <;> omega) | fail) only [go_sem, r6]
      rw [hww]
    · simp (maxSteps := 1000000) (disch := first | omega | (simp only [z1, z2, z3, z4, z5, z6, z7] <;> omega) | fail) only [go_sem, r7]
    · simp (maxSteps := 1000000) (disch := first | omega | (simp only [z1, z2, z3, z4, z5, z6, z7] <;> omega) | fail) only [go_sem]
      rfl
end Go.Fw

set_option linter.unusedSimpArgs false
set_option linter.unusedVariables false
set_option maxRecDepth 4000
namespace Go.Fw
open Go.Proofs Go.RowKit
theorem codeL_len (l : List Int) : (codeL l).length = l.length := by unfold codeL; rw [List.length_map, List.length_range]
end Go.Fw
