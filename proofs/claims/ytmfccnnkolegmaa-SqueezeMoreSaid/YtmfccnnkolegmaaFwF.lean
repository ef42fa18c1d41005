import Derived.Test.YtmfccnnkolegmaaFwSq16
set_option linter.unusedSimpArgs false
set_option linter.unusedVariables false
set_option maxRecDepth 4000
namespace Go.Fw
open Go.Proofs Go.RowKit
theorem Try.enters8 : Enters Try.prog 8 := enters_of Try.func8 rfl (by kernel_rfl)
set_option maxHeartbeats 4000000 in
theorem more_walk (w0 : World) (A : St) (s : ByteArray) (m n : Int) (hm : 0 ≤ m ∧ m ≤ 255) (hn : 0 ≤ n ∧ n ≤ 255) : ACalls Try.prog w0 8 #[.string s, .int .u8 m, .int .u8 n] A (fin (.bool true) A) := by
  refine call_E (l := [.string s, .int .u8 m, .int .u8 n]) Try.enters8 Try.func8 rfl (Nat.le_of_ble_eq_true rfl) fun hw hbd => ?_
  by_cases hbig : ((s.size : Nat) : Int) > 1000
  · simp (maxSteps := 1000000) (disch := first | omega | (simp only [z1, z2, z3, z4, z5, z6, z7] <;> omega) | fail) only [go_sem, Try.ntmps8, Try.results8, hbig]
    refine call1 (shown_ok w0 _) ?_
    simp (maxSteps := 1000000) (disch := first | omega | (simp only [z1, z2, z3, z4, z5, z6, z7] <;> omega) | fail) only [go_sem, Try.results8]
    exact gc_fin' hw (Over.refl _) rfl (.bool _)
  simp (maxSteps := 1000000) (disch := first | omega | (simp only [z1, z2, z3, z4, z5, z6, z7] <;> omega) | fail) only [go_sem, Try.ntmps8, Try.results8, hbig]
  refine call1 (shown_ok w0 _) ?_
  simp (maxSteps := 1000000) (disch := first | omega | (simp only [z1, z2, z3, z4, z5, z6, z7] <;> omega) | fail) only [go_sem]
  have hs : s.size ≤ 4096 := by omega
  have hT := sqT_size hs
  refine call1 (sqz_ok w0 A hs) ?_
  simp (maxSteps := 1000000) (disch := first | omega | (simp only [z1, z2, z3, z4, z5, z6, z7] <;> omega) | fail) only [go_sem]
  obtain ⟨u, rfl⟩ := Int.eq_ofNat_of_zero_le hn.1
  have hr : ((u : Nat) : Int).tmod 4 = ((u % 4 : Nat) : Int) := by rw [Int.tmod_eq_emod_of_nonneg (by omega)]; omega
  have hwu : IntKind.i64.wrap (u : Int) = (u : Int) := wrap_small (by omega) (by omega)
  have hw1 : IntKind.i64.wrap (1 + ((u % 4 : Nat) : Int)) = ((1 + u % 4 : Nat) : Int) := by rw [wrap_small (by omega) (by omega)]; omega
  refine aw_loop (fun k x B => ∃ (ρ : Nat → Value) (i : Nat), x = E 55 ρ [] ∧ Over A B ∧ k = 1 + u % 4 - i ∧ i ≤ 1 + u % 4 ∧ ρ 0 = .string s ∧ ρ 1 = .int .u8 m ∧ ρ 2 = .int .u8 u ∧ ρ 7 = .string (sqT s ++ strOfNums (List.replicate i m)) ∧ ρ 8 = .int .i64 0 ∧ ρ 9 = .int .i64 i) (1 + u % 4)
    ⟨_, 0, rfl, Over.refl _, rfl, Nat.zero_le _, rfl, rfl, rfl, by show Value.string _ = _; rw [List.replicate_zero, str_nil]; simp, rfl, rfl⟩ ?_
  rintro k x B ⟨ρ, i, rfl, oB, hk, hi, r0, r1, r2, r7, r8, r9⟩
  refine aw_of ?_
  have hsz : (strOfNums (List.replicate i m)).size = i := by rw [str_size, List.length_replicate]
  have hsz2 : (sqT s ++ strOfNums (List.replicate i m)).size = (sqT s).size + i := by rw [ByteArray.size_append, hsz]
  by_cases hend : i = 1 + u % 4
  rotate_left
  · have e1 : (i : Int) < ((1 + u % 4 : Nat) : Int) := by omega
    have hcv : ∀ X : St, convU Try.prog (X.alloc (.cells [.int .u8 m] 5 (some 0))) (some (.slice 5)) (some .string) (.slice (some ⟨X.next, 0, none⟩) 1 1) = some (.string (strOfNums [m]), X.alloc (.cells [.int .u8 m] 5 (some 0))) := fun X => View.text (acc := [m]) (len := 1) ⟨rfl, .inr ⟨X.next, 0, none, 1, _, _, _, rfl, by rw [nx_alloc]; omega, get_alloc_same .., by simp, by simp⟩⟩ Try.underlying5
    have hsm : (strOfNums [m]).size = 1 := str_size _
    have hcat : sqT s ++ strOfNums (List.replicate i m) ++ strOfNums [m] = sqT s ++ strOfNums (List.replicate (i + 1) m) := by
      rw [ByteArray.append_assoc, str_append, ← List.replicate_succ']
    simp (maxSteps := 1000000) (disch := first | omega | (simp only [z1, z2, z3, z4, z5, z6, z7] <;> omega) | fail) only [go_sem, r0, r1, r2, r7, r8, r9, hwu, hr, hw1, e1, hcv, hcat]
    refine ⟨k - 1, by omega, _, i + 1, rfl, oB.alloc _, by omega, by omega, ?_, ?_, ?_, ?_, ?_, ?_⟩
    · simp (maxSteps := 1000000) (disch := first | omega | (simp only [z1, z2, z3, z4, z5, z6, z7] <;> omega) | fail) only [go_sem, r0]
    · simp (maxSteps := 1000000) (disch := first | omega | (simp only [z1, z2, z3, z4, z5, z6, z7] <;> omega) | fail) only [go_sem, r1]
    · simp (maxSteps := 1000000) (disch := first | omega | (simp only [z1, z2, z3, z4, z5, z6, z7] <;> omega) | fail) only [go_sem, r2]
    · simp (maxSteps := 1000000) (disch := first | omega | (simp only [z1, z2, z3, z4, z5, z6, z7] <;> omega) | fail) only [go_sem]
    · simp (maxSteps := 1000000) (disch := first | omega | (simp only [z1, z2, z3, z4, z5, z6, z7] <;> omega) | fail) only [go_sem, r8]
    · simp (maxSteps := 1000000) (disch := first | omega | (simp only [z1, z2, z3, z4, z5, z6, z7] <;> omega) | fail) only [go_sem]
      rfl
  have e1 : ¬ (i : Int) < ((1 + u % 4 : Nat) : Int) := by omega
  have he := exp_more (z := strOfNums (List.replicate i m)) (most := (s.size : Nat)) hs (by rw [hsz]; omega) (Int.le_refl _)
  have hbe : ((ByteArray.empty : ByteArray) == (⟨#[]⟩ : ByteArray)) = true := beqS _
  simp (maxSteps := 1000000) (disch := first | omega | (simp only [z1, z2, z3, z4, z5, z6, z7] <;> omega) | fail) only [go_sem, r0, r1, r2, r7, r8, r9, hwu, hr, hw1, e1]
  refine call1 (expd_ok w0 B (by omega) he) ?_
  simp (maxSteps := 1000000) (disch := first | omega | (simp only [z1, z2, z3, z4, z5, z6, z7] <;> omega) | fail) only [go_sem, r8, hbe, Try.results8]
  exact gc_fin' hw oB rfl (.bool _)
end Go.Fw
