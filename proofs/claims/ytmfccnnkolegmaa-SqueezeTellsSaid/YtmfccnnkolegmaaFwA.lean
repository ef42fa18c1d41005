import Derived.Test.YtmfccnnkolegmaaFwSq16
import Derived.Test.YtmfccnnkolegmaaFwSq6
set_option linter.unusedSimpArgs false
set_option linter.unusedVariables false
set_option maxRecDepth 4000
namespace Go.Fw
open Go.Proofs Go.RowKit
theorem Try.enters3 : Enters Try.prog 3 := enters_of Try.func3 rfl (by kernel_rfl)
set_option maxHeartbeats 2000000 in
theorem tells_walk (w0 : World) (A : St) (s : ByteArray) : ACalls Try.prog w0 3 #[.string s] A (fin (.bool true) A) := by
  refine call_E (l := [.string s]) Try.enters3 Try.func3 rfl (Nat.le_of_ble_eq_true rfl) fun hw hbd => ?_
  by_cases hbig : ((s.size : Nat) : Int) > 1500
  · simp (maxSteps := 1000000) (disch := first | omega | (simp only [z1, z2, z3, z4, z5, z6, z7] <;> omega) | fail) only [go_sem, Try.ntmps3, Try.results3, hbig]
    refine call1 (shown_ok w0 _) ?_
    simp (maxSteps := 1000000) (disch := first | omega | (simp only [z1, z2, z3, z4, z5, z6, z7] <;> omega) | fail) only [go_sem, Try.results3]
    exact gc_fin' hw (Over.refl _) rfl (.bool _)
  simp (maxSteps := 1000000) (disch := first | omega | (simp only [z1, z2, z3, z4, z5, z6, z7] <;> omega) | fail) only [go_sem, Try.ntmps3, Try.results3, hbig]
  refine call1 (shown_ok w0 _) ?_
  simp (maxSteps := 1000000) (disch := first | omega | (simp only [z1, z2, z3, z4, z5, z6, z7] <;> omega) | fail) only [go_sem]
  refine call1 (squeeze_ok w0 A s (by omega)) ?_
  unfold sqV
  simp (maxSteps := 1000000) (disch := first | omega | (simp only [z1, z2, z3, z4, z5, z6, z7] <;> omega) | fail) only [go_sem]
  refine call1 (rsqueeze_ok w0 A s (by omega)) ?_
  unfold sqV
  have hb : ((squeezeP s).1 == (squeezeP s).1) = true := by rw [beqBytes]; simp
  simp (maxSteps := 1000000) (disch := first | omega | (simp only [z1, z2, z3, z4, z5, z6, z7] <;> omega) | fail) only [go_sem, hb, Try.results3]
  exact gc_fin' hw (Over.refl _) rfl (.bool _)
end Go.Fw
