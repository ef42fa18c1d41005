import Derived.Test.YtfmbflmknjlefaaFwWire23
set_option linter.unusedSimpArgs false
set_option linter.unusedVariables false
set_option maxRecDepth 4000
namespace Go.Fw
open Go.Proofs Go.RowKit
def rsB (s : RS) : Blk := .cells [.string (strOfNums s.1), .int .i64 s.2] 95 (some 0)
end Go.Fw
