/-
  No cell of these rows narrows 'for every input' (looked for: loops, veiled, ifaces, maps, wideKeys, modest, calm, conditions, laid).
  DERIVED. THE GIVEN ROWS OF THIS SEAT. 6 by the template 'for every input the law returns true; each argument reads behind the call as it read before'; 0 by the template 'total and deterministic' (their statements: YtmfccnnkolegmaaTotals.lean).
  GIVEN WITH THE SEED: the statements are not yours to turn. If you find one false, say at which input.
  Laid BY PROGRAM, IN A SANDBOX (cutbox-rows.mjs): the forced cells as the released guide's own fill.sh prints them over the translation 67487d1404715aab… (all of the seat's roots in one cut). By AI agents, Wed Nov 11 2026. No macro, syntax, notation, axiom, sorry.
-/
import Derived.Test.YtmfccnnkolegmaaChecked
import GoSem.Claim
import GoSem.ClaimJoined
import GoSem.ClaimMapViews
import Derived.JoinedTies
import Derived.KernelRfl
namespace Go.Proofs.Ytmfccnnkolegmaa
/- THE CELL 'sum', in the pinned program and in every row, IS THE sha256 OF THE DUMP (.gsa) THAT YtmfccnnkolegmaaProg.lean LOADS. Nothing in Lean hashes anything: it is a label: what it is worth is what the hold of that sum in a sandbox is worth. -/
noncomputable def Try.pinned : Pinned := { name := "ytmfccnnkolegmaa", sum := "67487d1404715aab8318c96c28c8ebdaf40e740785e69cf1b0f3eaf5b030c789", checked := Try.checked }
namespace Rows
def none {H : Type} : Left H := { results := [], args := [] }

/-- 'hanaperlaw09.SqueezeTells': WHATEVER THE INPUT: true; the input reads as it did. -/
def squeezeTellsSpec : ChangeSpec := { name := "squeezeTells", fn := fun _ => fun
  | [d] => { results := [.lit (.bool true)], args := [d] }
  | _ => none }
def squeezeTellsRow : OpenClaim := { program := "ytmfccnnkolegmaa", sum := "67487d1404715aab8318c96c28c8ebdaf40e740785e69cf1b0f3eaf5b030c789", func := "hanaper/hanaperlaw09.SqueezeTells", spec := "squeezeTells", unfollowed := true, recurses := true, apart := false }
def SqueezeTellsSaid : Prop := squeezeTellsRow.holds Try.pinned (OpenSpec.ofChange squeezeTellsSpec)

/-- ITS FALSE NEIGHBOUR: 'it returns false'. Refute it at one input. -/
def squeezeTellsWrong : ChangeSpec := { name := "squeezeTells", fn := fun _ => fun
  | [d] => { results := [.lit (.bool false)], args := [d] }
  | _ => none }
def SqueezeTellsWrongFalsely : Prop := squeezeTellsRow.holds Try.pinned (OpenSpec.ofChange squeezeTellsWrong)

/-- 'hanaperlaw09.SqueezeBack': WHATEVER THE INPUT: true; the input reads as it did. -/
def squeezeBackSpec : ChangeSpec := { name := "squeezeBack", fn := fun _ => fun
  | [d1, d2] => { results := [.lit (.bool true)], args := [d1, d2] }
  | _ => none }
def squeezeBackRow : OpenClaim := { program := "ytmfccnnkolegmaa", sum := "67487d1404715aab8318c96c28c8ebdaf40e740785e69cf1b0f3eaf5b030c789", func := "hanaper/hanaperlaw09.SqueezeBack", spec := "squeezeBack", unfollowed := true, recurses := true, apart := false }
def SqueezeBackSaid : Prop := squeezeBackRow.holds Try.pinned (OpenSpec.ofChange squeezeBackSpec)

/-- ITS FALSE NEIGHBOUR: 'it returns false'. Refute it at one input. -/
def squeezeBackWrong : ChangeSpec := { name := "squeezeBack", fn := fun _ => fun
  | [d1, d2] => { results := [.lit (.bool false)], args := [d1, d2] }
  | _ => none }
def SqueezeBackWrongFalsely : Prop := squeezeBackRow.holds Try.pinned (OpenSpec.ofChange squeezeBackWrong)

/-- 'hanaperlaw09.SqueezeCounts': WHATEVER THE INPUT: true; the input reads as it did. -/
def squeezeCountsSpec : ChangeSpec := { name := "squeezeCounts", fn := fun _ => fun
  | [d1, d2] => { results := [.lit (.bool true)], args := [d1, d2] }
  | _ => none }
def squeezeCountsRow : OpenClaim := { program := "ytmfccnnkolegmaa", sum := "67487d1404715aab8318c96c28c8ebdaf40e740785e69cf1b0f3eaf5b030c789", func := "hanaper/hanaperlaw09.SqueezeCounts", spec := "squeezeCounts", unfollowed := true, recurses := true, apart := false }
def SqueezeCountsSaid : Prop := squeezeCountsRow.holds Try.pinned (OpenSpec.ofChange squeezeCountsSpec)

/-- ITS FALSE NEIGHBOUR: 'it returns false'. Refute it at one input. -/
def squeezeCountsWrong : ChangeSpec := { name := "squeezeCounts", fn := fun _ => fun
  | [d1, d2] => { results := [.lit (.bool false)], args := [d1, d2] }
  | _ => none }
def SqueezeCountsWrongFalsely : Prop := squeezeCountsRow.holds Try.pinned (OpenSpec.ofChange squeezeCountsWrong)

/-- 'hanaperlaw09.SqueezeCap': WHATEVER THE INPUT: true; the input reads as it did. -/
def squeezeCapSpec : ChangeSpec := { name := "squeezeCap", fn := fun _ => fun
  | [d1, d2] => { results := [.lit (.bool true)], args := [d1, d2] }
  | _ => none }
def squeezeCapRow : OpenClaim := { program := "ytmfccnnkolegmaa", sum := "67487d1404715aab8318c96c28c8ebdaf40e740785e69cf1b0f3eaf5b030c789", func := "hanaper/hanaperlaw09.SqueezeCap", spec := "squeezeCap", unfollowed := true, recurses := true, apart := false }
def SqueezeCapSaid : Prop := squeezeCapRow.holds Try.pinned (OpenSpec.ofChange squeezeCapSpec)

/-- ITS FALSE NEIGHBOUR: 'it returns false'. Refute it at one input. -/
def squeezeCapWrong : ChangeSpec := { name := "squeezeCap", fn := fun _ => fun
  | [d1, d2] => { results := [.lit (.bool false)], args := [d1, d2] }
  | _ => none }
def SqueezeCapWrongFalsely : Prop := squeezeCapRow.holds Try.pinned (OpenSpec.ofChange squeezeCapWrong)

/-- 'hanaperlaw09.SqueezeFew': WHATEVER THE INPUT: true; the input reads as it did. -/
def squeezeFewSpec : ChangeSpec := { name := "squeezeFew", fn := fun _ => fun
  | [d1, d2] => { results := [.lit (.bool true)], args := [d1, d2] }
  | _ => none }
def squeezeFewRow : OpenClaim := { program := "ytmfccnnkolegmaa", sum := "67487d1404715aab8318c96c28c8ebdaf40e740785e69cf1b0f3eaf5b030c789", func := "hanaper/hanaperlaw09.SqueezeFew", spec := "squeezeFew", unfollowed := true, recurses := true, apart := false }
def SqueezeFewSaid : Prop := squeezeFewRow.holds Try.pinned (OpenSpec.ofChange squeezeFewSpec)

/-- ITS FALSE NEIGHBOUR: 'it returns false'. Refute it at one input. -/
def squeezeFewWrong : ChangeSpec := { name := "squeezeFew", fn := fun _ => fun
  | [d1, d2] => { results := [.lit (.bool false)], args := [d1, d2] }
  | _ => none }
def SqueezeFewWrongFalsely : Prop := squeezeFewRow.holds Try.pinned (OpenSpec.ofChange squeezeFewWrong)

/-- 'hanaperlaw09.SqueezeMore': WHATEVER THE INPUT: true; the input reads as it did. -/
def squeezeMoreSpec : ChangeSpec := { name := "squeezeMore", fn := fun _ => fun
  | [d1, d2, d3] => { results := [.lit (.bool true)], args := [d1, d2, d3] }
  | _ => none }
def squeezeMoreRow : OpenClaim := { program := "ytmfccnnkolegmaa", sum := "67487d1404715aab8318c96c28c8ebdaf40e740785e69cf1b0f3eaf5b030c789", func := "hanaper/hanaperlaw09.SqueezeMore", spec := "squeezeMore", unfollowed := true, recurses := true, apart := false }
def SqueezeMoreSaid : Prop := squeezeMoreRow.holds Try.pinned (OpenSpec.ofChange squeezeMoreSpec)

/-- ITS FALSE NEIGHBOUR: 'it returns false'. Refute it at one input. -/
def squeezeMoreWrong : ChangeSpec := { name := "squeezeMore", fn := fun _ => fun
  | [d1, d2, d3] => { results := [.lit (.bool false)], args := [d1, d2, d3] }
  | _ => none }
def SqueezeMoreWrongFalsely : Prop := squeezeMoreRow.holds Try.pinned (OpenSpec.ofChange squeezeMoreWrong)

/- THE SECOND FORM. 'bulk': how many values and letters a reading holds, each counted each time it is reached (what is shared counts as often as it is met; a slice's spare places count too). A statement '..UptoSaid' is the law's where the arguments, and the package variables that the reading takes, are together of bulk at most 1048576: NARROWER than '..Said'. Prove '..Said' where nothing that the law and all that it calls make is longer than what came in: it says more and counts as full. Else prove '..UptoSaid'. A law counts once. -/
mutual
def uptoBulk {H : Type} : DataW H → Nat
  | .lit (.string bytes) => bytes.length + 1
  | .lit _ => 1
  | .nil => 1
  | .ptr d => uptoBulk d + 1
  | .slice elems spare => uptoBulkAll elems + uptoBulkAll spare + 1
  | .agg parts => uptoBulkAll parts + 1
  | .iface _ d => uptoBulk d + 1
  | .map entries => uptoBulkEntries entries + 1
  | .held _ => 1
def uptoBulkAll {H : Type} : List (DataW H) → Nat
  | [] => 0
  | d :: r => uptoBulk d + uptoBulkAll r
def uptoBulkEntries {H : Type} : List (Lit × DataW H) → Nat
  | [] => 0
  | x :: r => uptoBulkEntry x + uptoBulkEntries r
def uptoBulkEntry {H : Type} : Lit × DataW H → Nat
  | (.string bytes, d) => bytes.length + uptoBulk d + 1
  | (_, d) => uptoBulk d + 1
 end
def uptoSmall : (H : Type) → List (DataW H) → Bool := fun _ ds => decide (uptoBulkAll ds ≤ 1048576)
def OpenSpec.upto (s : _root_.Go.ChangeSpec) : _root_.Go.OpenSpec := { _root_.Go.OpenSpec.ofChange s with cond := some uptoSmall }

/-- 'hanaperlaw09.SqueezeTells', WHERE WHAT IT READS IS OF BULK AT MOST 1048576: true; the input reads as it did. -/
def squeezeTellsUptoRow : OpenClaim := { program := "ytmfccnnkolegmaa", sum := "67487d1404715aab8318c96c28c8ebdaf40e740785e69cf1b0f3eaf5b030c789", func := "hanaper/hanaperlaw09.SqueezeTells", spec := "squeezeTells", unfollowed := true, recurses := true, apart := false, narrowed := true }
def SqueezeTellsUptoSaid : Prop := squeezeTellsUptoRow.holds Try.pinned (OpenSpec.upto squeezeTellsSpec)

/-- 'hanaperlaw09.SqueezeBack', WHERE WHAT IT READS IS OF BULK AT MOST 1048576: true; the input reads as it did. -/
def squeezeBackUptoRow : OpenClaim := { program := "ytmfccnnkolegmaa", sum := "67487d1404715aab8318c96c28c8ebdaf40e740785e69cf1b0f3eaf5b030c789", func := "hanaper/hanaperlaw09.SqueezeBack", spec := "squeezeBack", unfollowed := true, recurses := true, apart := false, narrowed := true }
def SqueezeBackUptoSaid : Prop := squeezeBackUptoRow.holds Try.pinned (OpenSpec.upto squeezeBackSpec)

/-- 'hanaperlaw09.SqueezeCounts', WHERE WHAT IT READS IS OF BULK AT MOST 1048576: true; the input reads as it did. -/
def squeezeCountsUptoRow : OpenClaim := { program := "ytmfccnnkolegmaa", sum := "67487d1404715aab8318c96c28c8ebdaf40e740785e69cf1b0f3eaf5b030c789", func := "hanaper/hanaperlaw09.SqueezeCounts", spec := "squeezeCounts", unfollowed := true, recurses := true, apart := false, narrowed := true }
def SqueezeCountsUptoSaid : Prop := squeezeCountsUptoRow.holds Try.pinned (OpenSpec.upto squeezeCountsSpec)

/-- 'hanaperlaw09.SqueezeCap', WHERE WHAT IT READS IS OF BULK AT MOST 1048576: true; the input reads as it did. -/
def squeezeCapUptoRow : OpenClaim := { program := "ytmfccnnkolegmaa", sum := "67487d1404715aab8318c96c28c8ebdaf40e740785e69cf1b0f3eaf5b030c789", func := "hanaper/hanaperlaw09.SqueezeCap", spec := "squeezeCap", unfollowed := true, recurses := true, apart := false, narrowed := true }
def SqueezeCapUptoSaid : Prop := squeezeCapUptoRow.holds Try.pinned (OpenSpec.upto squeezeCapSpec)

/-- 'hanaperlaw09.SqueezeFew', WHERE WHAT IT READS IS OF BULK AT MOST 1048576: true; the input reads as it did. -/
def squeezeFewUptoRow : OpenClaim := { program := "ytmfccnnkolegmaa", sum := "67487d1404715aab8318c96c28c8ebdaf40e740785e69cf1b0f3eaf5b030c789", func := "hanaper/hanaperlaw09.SqueezeFew", spec := "squeezeFew", unfollowed := true, recurses := true, apart := false, narrowed := true }
def SqueezeFewUptoSaid : Prop := squeezeFewUptoRow.holds Try.pinned (OpenSpec.upto squeezeFewSpec)

/-- 'hanaperlaw09.SqueezeMore', WHERE WHAT IT READS IS OF BULK AT MOST 1048576: true; the input reads as it did. -/
def squeezeMoreUptoRow : OpenClaim := { program := "ytmfccnnkolegmaa", sum := "67487d1404715aab8318c96c28c8ebdaf40e740785e69cf1b0f3eaf5b030c789", func := "hanaper/hanaperlaw09.SqueezeMore", spec := "squeezeMore", unfollowed := true, recurses := true, apart := false, narrowed := true }
def SqueezeMoreUptoSaid : Prop := squeezeMoreUptoRow.holds Try.pinned (OpenSpec.upto squeezeMoreSpec)

end Rows
end Go.Proofs.Ytmfccnnkolegmaa
