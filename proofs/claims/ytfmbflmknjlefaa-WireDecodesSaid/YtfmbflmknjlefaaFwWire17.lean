import Derived.Test.YtfmbflmknjlefaaFwWire16
set_option linter.unusedSimpArgs false
set_option linter.unusedVariables false
set_option maxRecDepth 4000
namespace Go.Fw
open Go.Proofs Go.RowKit
theorem Try.enters68 : Enters Try.prog 68 := enters_of Try.func68 rfl (by kernel_rfl)
theorem rend_ok (w0 : World) (A : St) (n : Int) : ACalls Try.prog w0 68 #[.int .i64 n] A (fin (.bool (endB n)) A) := by
  refine call_E Try.enters68 Try.func68 rfl (Nat.le_of_ble_eq_true rfl) fun hw hbd => ?_
  have hb : endB n = (decide (0 ≤ n) && decide (n ≤ 2) || (decide (10 ≤ n) && decide (n ≤ 12))) := by
    unfold endB cliB
    rw [Bool.eq_iff_iff]
    simp only [Bool.or_eq_true, Bool.and_eq_true, decide_eq_true_eq]
    omega
  rw [hb]
  by_cases h0 : 0 ≤ n
  · by_cases h2 : n ≤ 2
    · simp (maxSteps := 1000000) (disch := (first | omega | (simp only [nx_alloc, nx_upd, len_cons, len_nil, List.length_set, List.length_map, List.length_append] <;> omega) | fail)) only [go_sem, Try.ntmps68, Try.results68, h0, h2]
      exact gc_fin' hw (Over.refl _) rfl (.bool _)
    · by_cases h10 : 10 ≤ n
      · simp (maxSteps := 1000000) (disch := (first | omega | (simp only [nx_alloc, nx_upd, len_cons, len_nil, List.length_set, List.length_map, List.length_append] <;> omega) | fail)) only [go_sem, Try.ntmps68, Try.results68, h0, h2, h10]
        exact gc_fin' hw (Over.refl _) rfl (.bool _)
      · simp (maxSteps := 1000000) (disch := (first | omega | (simp only [nx_alloc, nx_upd, len_cons, len_nil, List.length_set, List.length_map, List.length_append] <;> omega) | fail)) only [go_sem, Try.ntmps68, Try.results68, h0, h2, h10]
        exact gc_fin' hw (Over.refl _) rfl (.bool _)
  · have h10 : ¬ 10 ≤ n := by omega
    simp (maxSteps := 1000000) (disch := (first | omega | (simp only [nx_alloc, nx_upd, len_cons, len_nil, List.length_set, List.length_map, List.length_append] <;> omega) | fail)) only [go_sem, Try.ntmps68, Try.results68, h0, h10]
    exact gc_fin' hw (Over.refl _) rfl (.bool _)
end Go.Fw
