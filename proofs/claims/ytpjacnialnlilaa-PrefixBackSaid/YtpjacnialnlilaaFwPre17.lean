import Derived.Test.YtpjacnialnlilaaFwPre16
set_option linter.unusedSimpArgs false
set_option linter.unusedVariables false
set_option maxRecDepth 4000
namespace Go.Fw
open Go.Proofs Go.RowKit
/-! Lengths of the document. -/
theorem int_push {A : St} {lo : Nat} {l : List Int} {v : Value} (h : Row A 3 1 lo (l.map (Value.int .i64 ·)) l.length v) (x : Int) (hlo : lo ≤ A.next) (hl : l.length ≤ 1000000) :
    ∃ v' A2, aappend Try.prog (A.alloc (.cells [.int .i64 x] 3 (some 0))) 22 22 v (.slice (some ⟨A.next, 0, none⟩) 1 1) = some (v', A2) ∧ Row A2 3 1 lo ((l ++ [x]).map (Value.int .i64 ·)) (l ++ [x]).length v' ∧ A2.next = A.next + 2 ∧ rowB v' = some (A.next + 1) ∧ ∀ b, b < A.next → rowB v ≠ some b → A2.get b = A.get b := by
  obtain ⟨v', A2, h1, h2, h3, h4, h5⟩ := row_push (A := A) (sp := none) (c := 1) (xs := [.int .i64 x]) Try.el22 Try.underlying22 (by intro k; exact TypeDesc.noConfusion) Try.sz3 Try.byt3 Try.zero3 rfl h hlo (by omega) (by omega) rfl rfl
  exact ⟨v', A2, h1, by rw [List.map_append, List.length_append]; exact h2, h3, h4, h5⟩
end Go.Fw
