import Derived.Test.YtfmbflmknjlefaaFwWire22
set_option linter.unusedSimpArgs false
set_option linter.unusedVariables false
set_option maxRecDepth 4000
namespace Go.Fw
open Go.Proofs Go.RowKit
end Go.Fw
