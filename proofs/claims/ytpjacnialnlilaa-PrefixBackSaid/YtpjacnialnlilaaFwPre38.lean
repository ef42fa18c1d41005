import Derived.Test.YtpjacnialnlilaaFwPre37
import Derived.Test.YtpjacnialnlilaaFwPre35
set_option linter.unusedSimpArgs false
set_option linter.unusedVariables false
set_option maxRecDepth 4000
namespace Go.Fw
open Go.Proofs Go.RowKit
theorem nextP_le (l : List Int) (bit : Nat → Nat) (size p : Nat) (h : p ≤ size) : p ≤ (nextP l bit size p).2.2 ∧ (nextP l bit size p).2.2 ≤ size := by
  unfold nextP
  split
  · exact nextG_le l bit size 15 0 0 p h
  · exact ⟨Nat.le_refl _, h⟩
theorem View.lt_rb {A : St} {sz len b : Nat} {cs : List Value} {v : Value} (h : View A sz cs len v) (hb : rowB v = some b) (h0 : len ≠ 0) : b < A.next := by
  rcases h.2 with ⟨h1, _⟩ | ⟨b', off, sp, c, cells, e, m, rfl, h1, _⟩
  · exact absurd h1 h0
  · cases hb; exact h1
end Go.Fw
