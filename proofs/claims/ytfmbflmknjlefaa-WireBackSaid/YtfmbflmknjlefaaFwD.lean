import Derived.Test.YtfmbflmknjlefaaFwWire26
set_option linter.unusedSimpArgs false
set_option linter.unusedVariables false
set_option maxRecDepth 4000
namespace Go.Fw
open Go.Proofs Go.RowKit
theorem sameQ_self (a : ReqT) : sameQ a a = true := (sameQ_iff a a).2 rfl
end Go.Fw
