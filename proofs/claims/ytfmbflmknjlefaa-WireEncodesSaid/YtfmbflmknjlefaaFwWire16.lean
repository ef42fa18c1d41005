import Derived.Test.YtfmbflmknjlefaaFwWire15
set_option linter.unusedSimpArgs false
set_option linter.unusedVariables false
set_option maxRecDepth 4000
namespace Go.Fw
open Go.Proofs Go.RowKit
theorem putR_neg {a : ReqT} (h : rightB a = false) : putR a = ByteArray.empty := by
  unfold putR; rw [h]; rfl
end Go.Fw
