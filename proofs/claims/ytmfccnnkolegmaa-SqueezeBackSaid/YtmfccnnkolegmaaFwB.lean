import Derived.Test.YtmfccnnkolegmaaFwSq16
set_option linter.unusedSimpArgs false
set_option linter.unusedVariables false
set_option maxRecDepth 4000
namespace Go.Fw
open Go.Proofs Go.RowKit
theorem Try.enters4 : Enters Try.prog 4 := enters_of Try.func4 rfl (by kernel_rfl)
set_option maxHeartbeats 4000000 in
theorem back_walk (w0 : World) (A : St) (s : ByteArray) (cut : Int) (hcut : 0 ≤ cut ∧ cut ≤ 65535) : ACalls Try.prog w0 4 #[.string s, .int .u16 cut] A (fin (.bool true) A) := by
  refine call_E (l := [.string s, .int .u16 cut]) Try.enters4 Try.func4 rfl (Nat.le_of_ble_eq_true rfl) fun hw hbd => ?_
  by_cases hbig : ((s.size : Nat) : Int) > 1500
  · simp (maxSteps := 1000000) (disch := first | omega | (simp only [z1, z2, z3, z4, z5, z6, z7] <;> omega) | fail) only [go_sem, Try.ntmps4, Try.results4, hbig]
    refine call1 (shown_ok w0 _) ?_
    simp (maxSteps := 1000000) (disch := first | omega | (simp only [z1, z2, z3, z4, z5, z6, z7] <;> omega) | fail) only [go_sem, Try.results4]
    exact gc_fin' hw (Over.refl _) rfl (.bool _)
  simp (maxSteps := 1000000) (disch := first | omega | (simp only [z1, z2, z3, z4, z5, z6, z7] <;> omega) | fail) only [go_sem, Try.ntmps4, Try.results4, hbig]
  refine call1 (shown_ok w0 _) ?_
  simp (maxSteps := 1000000) (disch := first | omega | (simp only [z1, z2, z3, z4, z5, z6, z7] <;> omega) | fail) only [go_sem]
  have hs : s.size ≤ 4096 := by omega
  have hT := sqT_size hs
  obtain ⟨_, _, h3, h4, _⟩ := sqT_facts hs
  have hT0 : 0 < (sqT s).size := by omega
  have e1 := exp_self (most := (s.size : Nat)) hs (Int.le_refl _)
  obtain ⟨c, hc⟩ : ∃ c : Nat, cut.tmod ((sqT s).size : Int) = (c : Int) ∧ c < (sqT s).size := by
    obtain ⟨u, rfl⟩ := Int.eq_ofNat_of_zero_le hcut.1
    refine ⟨u % (sqT s).size, ?_, Nat.mod_lt _ hT0⟩
    rw [Int.tmod_eq_emod_of_nonneg (by omega), Int.natCast_emod]
  have e3 := exp_cut (most := (s.size : Nat)) hs hc.2 (Int.le_refl _)
  refine call1 (sqz_ok w0 A hs) ?_
  have hsl := s.size
  have d0 : ¬ ((sqT s).size : Int) = 0 := by omega
  have hw1 : IntKind.i64.wrap cut = cut := wrap_small hcut.1 (by omega)
  have hxs : ((sqT s).extract 0 c).size = c := by simp [ByteArray.size_extract]; omega
  have hw2 : IntKind.i64.wrap ((s.size : Int) - 1) = (s.size : Int) - 1 := by
    by_cases h : s.size = 0
    · rw [h]; decide
    · exact wrap_small (by omega) (by omega)
  obtain ⟨r2, hr2⟩ : ∃ r, expandP (sqT s) ((s.size : Int) - 1) = r := ⟨_, rfl⟩
  have hr2' : s.size ≠ 0 → r2 = (ByteArray.empty, 90) := fun h => by rw [← hr2]; exact exp_less hs (by omega) (by omega)
  have hb : ∀ t : ByteArray, (t == t) = true := fun t => by rw [beqBytes]; simp
  have hbe : ((ByteArray.empty : ByteArray) == (⟨#[]⟩ : ByteArray)) = true := hb _
  simp (maxSteps := 1000000) (disch := first | omega | (simp only [z1, z2, z3, z4, z5, z6, z7] <;> omega) | fail) only [go_sem, d0]
  refine call1 (expd_ok w0 A (X := sqT s) (by omega) e1) ?_
  simp (maxSteps := 1000000) (disch := first | omega | (simp only [z1, z2, z3, z4, z5, z6, z7] <;> omega) | fail) only [go_sem, hw2]
  refine call1 (expd_ok w0 A (X := sqT s) (by omega) hr2) ?_
  simp (maxSteps := 1000000) (disch := first | omega | (simp only [z1, z2, z3, z4, z5, z6, z7] <;> omega) | fail) only [go_sem, hw1, hc.1]
  refine call1 (expd_ok w0 A (X := (sqT s).extract 0 c) (by omega) e3) ?_
  by_cases hz : s.size = 0
  · have d1 : ((s.size : Nat) : Int) = 0 := by omega
    simp (maxSteps := 1000000) (disch := first | omega | (simp only [z1, z2, z3, z4, z5, z6, z7] <;> omega) | fail) only [go_sem, hb, hbe, d1, Try.results4]
    exact gc_fin' hw (Over.refl _) rfl (.bool _)
  · have d1 : ¬ ((s.size : Nat) : Int) = 0 := by omega
    rw [hr2' hz]
    simp (maxSteps := 1000000) (disch := first | omega | (simp only [z1, z2, z3, z4, z5, z6, z7] <;> omega) | fail) only [go_sem, hb, hbe, d1, Try.results4]
    exact gc_fin' hw (Over.refl _) rfl (.bool _)
end Go.Fw
