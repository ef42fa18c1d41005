import Derived.Test.YtpjacnialnlilaaFwPre27
import Derived.Test.YtpjacnialnlilaaFwPre29
set_option linter.unusedSimpArgs false
set_option linter.unusedVariables false
set_option maxRecDepth 4000
namespace Go.Fw
open Go.Proofs Go.RowKit
/-! The first words; the words of a code, the program's way. -/
theorem Try.enters14 : Enters Try.prog 14 := enters_of Try.func14 rfl (by kernel_rfl)
theorem shl1_u32 {n : Nat} (h : n < 65536) : ishl .u32 (n : Int) 1 = ((2 * n : Nat) : Int) := by
  have := u32_sl (a := n) (s := 1) (by decide) (by omega)
  rw [Nat.shiftLeft_eq] at this
  rw [show (1 : Int) = ((1 : Nat) : Int) from rfl, this]
  congr 1; omega
set_option maxHeartbeats 4000000 in
theorem first_ok (w0 : World) (A : St) (l : List Int) (hk : kr l ≤ 32768) : ACalls Try.prog w0 30 #[.agg (numC .i64 16 (mny l)).toArray] A (fin (.agg (numC .u32 17 (bs l)).toArray) A) := by
  refine call_E (l := [.agg (numC .i64 16 (mny l)).toArray]) Try.enters30 Try.func30 rfl (Nat.le_of_ble_eq_true rfl) fun hw hbd => ?_
  have hL := numC_len .i64 16 (mny l)
  have hpl := numC_plain .i64 16 (mny l)
  simp (maxSteps := 1000000) (disch := (first | omega | (simp only [nx_alloc, nx_upd, len_cons, len_nil, List.length_set, List.length_map, List.length_append] <;> omega) | fail)) only [go_sem, Try.ntmps30, Try.results30, hpl]
  refine aw_loop (fun k x A' => ∃ (ρ : Nat → Value) (i : Nat), x = E 21 ρ [] ∧ A' = ((A.alloc (.cells (numC .i64 16 (mny l)) 61 (some 0))).alloc (.cells (numC .u32 17 fun _ => 0) 64 (some 0))).upd (A.next + 1) (some (.cells (numC .u32 17 fun j => if j ≤ i + 1 then bs l j else 0) 64 (some 0))) ∧ k = 15 - i ∧ i ≤ 15 ∧ ρ 1 = .pointer (some ⟨A.next, 0, none⟩) ∧ ρ 2 = .pointer (some ⟨A.next + 1, 0, none⟩) ∧ ρ 3 = .int .i64 ((i + 1 : Nat) : Int)) 15
    ⟨_, 0, rfl, ?_, rfl, Nat.zero_le _, rfl, rfl, rfl⟩ ?_
  · have : (numC .u32 17 fun j => if j ≤ 0 + 1 then bs l j else 0) = numC .u32 17 fun _ => 0 := by
      unfold numC
      refine List.map_congr_left fun j _ => ?_
      have : (if j ≤ 0 + 1 then bs l j else 0) = 0 := by
        split
        · rcases (show j = 0 ∨ j = 1 by omega) with rfl | rfl <;> rfl
        · rfl
      show Value.int .u32 ((if j ≤ 0 + 1 then bs l j else 0 : Nat) : Int) = Value.int .u32 ((0 : Nat) : Int)
      rw [this]
    rw [this]
    exact (upd_id (get_alloc_same ..)).symm
  rintro k x A' ⟨ρ, i, rfl, hA', hkk, hi, r1, r2, r3⟩
  refine aw_of ?_
  have gA : A'.get (A.next + 1) = some (.cells (numC .u32 17 fun j => if j ≤ i + 1 then bs l j else 0) 64 (some 0)) := by rw [hA']; exact get_upd_same ..
  have gM : A'.get A.next = some (.cells (numC .i64 16 (mny l)) 61 (some 0)) := by rw [hA']; simp (disch := (first | omega | (simp only [nx_alloc, nx_upd, len_cons, len_nil, List.length_set, List.length_map, List.length_append] <;> omega) | fail)) only [St.get_upd, St.get_alloc, St.next_alloc, St.next_upd, ↓reduceIte, natF_lt, natF_gt, natF_ne, Nat.add_assoc, Nat.reduceAdd, Nat.reduceEqDiff, Nat.add_left_cancel_iff]
  have oA : Over A A' := by rw [hA']; exact (((Over.refl A).alloc _).alloc _).upd (by omega) _
  by_cases hend : i = 15
  · have e1 : ¬ (((i + 1 : Nat) : Int) ≤ 15) := by omega
    have hbs : (numC .u32 17 fun j => if j ≤ i + 1 then bs l j else 0) = numC .u32 17 (bs l) := by
      unfold numC
      refine List.map_congr_left fun j hj => ?_
      have := List.mem_range.1 hj
      show Value.int .u32 ((if j ≤ i + 1 then bs l j else 0 : Nat) : Int) = _
      rw [if_pos (by omega)]
    rw [hbs] at gA
    have hL2 := numC_len .u32 17 (bs l)
    have hp2 := numC_plain .u32 17 (bs l)
    have hT : (numC .u32 17 (bs l)).take 17 = numC .u32 17 (bs l) := List.take_of_length_le (by omega)
    have hsl : setList (numC .u32 17 (bs l)) 0 (numC .u32 17 (bs l)) = numC .u32 17 (bs l) := setList_all rfl
    simp (maxSteps := 1000000) (disch := (first | omega | (simp only [nx_alloc, nx_upd, len_cons, len_nil, List.length_set, List.length_map, List.length_append] <;> omega) | fail)) only [go_sem, r1, r2, r3, e1, gA, hT, hp2, hsl, Try.results30]
    exact gc_fin' hw (oA.upd (by omega) _) rfl (numC_bnd ..)
  have e1 : (((i + 1 : Nat) : Int) ≤ 15) := by omega
  have hble := bs_le hk (k := i + 1) (by omega) (by omega)
  have hp16 : 2 ^ (i + 1) ≤ 2 ^ 15 := Nat.pow_le_pow_right (by decide) (by omega)
  have h15 : (2 : Nat) ^ 15 = 32768 := rfl
  have a1 := numC_at .u32 (n := 17) (j := i + 1) (fun j => if j ≤ i + 1 then bs l j else 0) (by omega)
  rw [if_pos (Nat.le_refl _)] at a1
  have a2 := numC_at .i64 (n := 16) (j := i + 1) (mny l) (by omega)
  have hL3 := numC_len .u32 17 (fun j => if j ≤ i + 1 then bs l j else 0)
  have hwr : IntKind.u32.wrap ((mny l (i + 1) : Nat) : Int) = ((mny l (i + 1) : Nat) : Int) := by
    simp only [IntKind.wrap, IntKind.signed, IntKind.bits]; simp; omega
  have hwr2 : IntKind.u32.wrap (((bs l (i + 1) : Nat) : Int) + ((mny l (i + 1) : Nat) : Int)) = ((bs l (i + 1) + mny l (i + 1) : Nat) : Int) := by
    simp only [IntKind.wrap, IntKind.signed, IntKind.bits]; simp; omega
  have hsh := shl1_u32 (n := bs l (i + 1) + mny l (i + 1)) (by omega)
  have hset := numC_set .u32 (n := 17) (j := i + 1 + 1) (f := fun j => if j ≤ i + 1 then bs l j else 0) (g := fun j => if j ≤ i + 1 + 1 then bs l j else 0) (fun j hj => by
    show (if j ≤ i + 1 + 1 then bs l j else 0) = if j ≤ i + 1 then bs l j else 0
    by_cases h : j ≤ i + 1
    · rw [if_pos h, if_pos (by omega)]
    · rw [if_neg h, if_neg (by omega)])
  rw [if_pos (Nat.le_refl _)] at hset
  have hset' : (numC .u32 17 fun j => if j ≤ i + 1 then bs l j else 0).set (i + 1 + 1) (.int .u32 ((2 * (bs l (i + 1) + mny l (i + 1)) : Nat) : Int)) = numC .u32 17 fun j => if j ≤ i + 1 + 1 then bs l j else 0 := hset
  have c1 : ((i + 1 : Nat) : Int) + 1 = ((i + 1 + 1 : Nat) : Int) := by omega
  have e3 : ((i + 1 : Nat) : Int) < 16 := by omega
  have e4 : ((i + 1 : Nat) : Int) < 17 := by omega
  have e5 : ((i + 1 + 1 : Nat) : Int) < 17 := by omega
  simp (maxSteps := 1000000) (disch := (first | omega | (simp only [nx_alloc, nx_upd, len_cons, len_nil, List.length_set, List.length_map, List.length_append] <;> omega) | fail)) only [go_sem, r1, r2, r3, e1]
  refine aw_draw2 [⟨false, [], [0]⟩, ⟨false, [0], [0]⟩, ⟨false, [], [0]⟩, ⟨false, [2], [0]⟩, ⟨false, [2, 3], [0]⟩, ⟨false, [], [0]⟩, ⟨false, [5], [0]⟩, ⟨false, [5, 6], [0]⟩, ⟨false, [5, 6, 7], [0]⟩, ⟨false, [2, 3, 4, 5, 6, 7, 8], [0]⟩, ⟨false, [2, 3, 4, 5, 6, 7, 8, 9], [0]⟩, ⟨false, [0, 1, 2, 3, 4, 5, 6, 7, 8, 9, 10], [0]⟩, ⟨true, [0, 1, 2, 3, 4, 5, 6, 7, 8, 9, 10, 11], [0]⟩] [A', A'.upd (A.next + 1) (some (.cells (numC .u32 17 fun j => if j ≤ i + 1 + 1 then bs l j else 0) 64 (some 0)))] 1 (by kernel_rfl) (by kernel_rfl) rfl ?_
  simp (maxSteps := 1000000) (disch := (first | omega | (simp only [nx_alloc, nx_upd, len_cons, len_nil, List.length_set, List.length_map, List.length_append] <;> omega) | fail)) only [go_sem, r1, r2, r3, c1, e3, e4, e5, gA, gM, a1, a2, hwr, hwr2, hsh, hset']
  refine ⟨k - 1, by omega, _, i + 1, rfl, ?_, by omega, by omega, ?_, ?_, ?_⟩
  · rw [hA', upd_upd]
  · simp (maxSteps := 1000000) (disch := (first | omega | (simp only [nx_alloc, nx_upd, len_cons, len_nil, List.length_set, List.length_map, List.length_append] <;> omega) | fail)) only [go_sem, r1]
  · simp (maxSteps := 1000000) (disch := (first | omega | (simp only [nx_alloc, nx_upd, len_cons, len_nil, List.length_set, List.length_map, List.length_append] <;> omega) | fail)) only [go_sem, r2]
  · simp (maxSteps := 1000000) (disch := (first | omega | (simp only [nx_alloc, nx_upd, len_cons, len_nil, List.length_set, List.length_map, List.length_append] <;> omega) | fail)) only [go_sem]
end Go.Fw
