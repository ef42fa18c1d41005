import Derived.Test.YtpjacnialnlilaaFwPre33
set_option linter.unusedSimpArgs false
set_option linter.unusedVariables false
set_option maxRecDepth 4000
namespace Go.Fw
open Go.Proofs Go.RowKit
/-! Arguments; pieces compared. -/
theorem i64E_dec {H : Type} {enc : TypeId × Value → H} {w : World} {held : Bool} (n : Nat) (cs : List Value) (y : DataW H × List MemPlace) (h : DataW.trod enc Try.prog w 0 (fun _ => true) held n 3 cs = some y) : ∃ a, cs = i64E a ∧ i64Ok a := by
  obtain ⟨a, e0, _, w0⟩ := DataW.trod_int Try.underlying3 h
  refine ⟨a, e0, ?_⟩
  have := w0
  simp [Lit.wf, IntKind.min, IntKind.max, IntKind.bits, IntKind.signed] at this
  unfold i64Ok
  omega
theorem codeL_len (l : List Int) : (codeL l).length = l.length := by unfold codeL; rw [List.length_map, List.length_range]
theorem codesP_len (l : List Int) : (codesP l).1.length ≤ l.length := by
  unfold codesP
  split
  · rw [codeL_len]; exact Nat.le_refl _
  · exact Nat.zero_le _
theorem Try.guardPc : Try.prog.eqGuardType Try.prog.depth 41 = false := by kernel_rfl
theorem Try.stoodPc : Try.prog.stoodInHeld 41 = false := by kernel_rfl
theorem pc_eq (a b : Int × Int) : aeqIn Try.prog 5 41 (.agg (pcE a).toArray) (.agg (pcE b).toArray) = some (decide (a = b)) := by
  obtain ⟨a1, a2⟩ := a
  obtain ⟨b1, b2⟩ := b
  simp only [aeqIn, Try.underlying41, Try.stoodPc, Bool.false_eq_true, if_false, aeqFields, pcE, apart, Try.agg39, Try.agg3, List.getElem?_toArray, List.getElem?_cons_zero, List.getElem?_cons_succ]
  simp only [Prod.mk.injEq]
  have q1 : (a1 == b1) = decide (a1 = b1) := by rw [Bool.eq_iff_iff]; simp
  have q2 : (a2 == b2) = decide (a2 = b2) := by rw [Bool.eq_iff_iff]; simp
  by_cases h1 : a1 = b1 <;> by_cases h2 : a2 = b2 <;> simp [q1, q2, h1, h2, aeqFields, aeqIn, Try.underlying39, Try.underlying3, apart, Try.agg3]
theorem pc_neq (x y : Operand) (a b : Int × Int) : abin Try.prog .neq 41 x y (.agg (pcE a).toArray) (.agg (pcE b).toArray) = some (.bool (!decide (a = b))) := by
  unfold abin
  simp only [Try.guardPc, Bool.false_eq_true, if_false, pc_eq, Option.map_some]
end Go.Fw
