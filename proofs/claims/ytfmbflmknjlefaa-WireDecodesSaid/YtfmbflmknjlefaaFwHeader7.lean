import Derived.Test.YtfmbflmknjlefaaFwHeader6
import Derived.OpenShut
set_option linter.unusedSimpArgs false
set_option linter.unusedVariables false
set_option maxRecDepth 4000
namespace Go.Fw
open Go.Proofs Go.RowKit
def hsOk (h : HashT) : Prop := ∀ x ∈ h.1, Byte x
end Go.Fw
