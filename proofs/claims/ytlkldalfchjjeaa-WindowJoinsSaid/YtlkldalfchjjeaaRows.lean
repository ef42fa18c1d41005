/-
  No cell of these rows narrows 'for every input' (looked for: loops, veiled, ifaces, maps, wideKeys, modest, calm, conditions, laid).
  DERIVED. THE GIVEN ROWS OF THIS SEAT. 5 by the template 'for every input the law returns true; each argument reads behind the call as it read before'; 0 by the template 'total and deterministic' (their statements: YtlkldalfchjjeaaTotals.lean).
  GIVEN WITH THE SEED: the statements are not yours to turn. If you find one false, say at which input.
  Laid BY PROGRAM, IN A SANDBOX (cutbox-rows.mjs): the forced cells as the released guide's own fill.sh prints them over the translation dee97a4ba004500a… (all of the seat's roots in one cut). By AI agents, Wed Nov 11 2026. No macro, syntax, notation, axiom, sorry.
-/
import Derived.Test.YtlkldalfchjjeaaChecked
import GoSem.Claim
import GoSem.ClaimJoined
import GoSem.ClaimMapViews
import Derived.JoinedTies
import Derived.KernelRfl
namespace Go.Proofs.Ytlkldalfchjjeaa
/- THE CELL 'sum', in the pinned program and in every row, IS THE sha256 OF THE DUMP (.gsa) THAT YtlkldalfchjjeaaProg.lean LOADS. Nothing in Lean hashes anything: it is a label: what it is worth is what the hold of that sum in a sandbox is worth. -/
noncomputable def Try.pinned : Pinned := { name := "ytlkldalfchjjeaa", sum := "dee97a4ba004500a66d3d98b9e8366b72c2e0f6fd4243a6a4101e6c7411e762a", checked := Try.checked }
namespace Rows
def none {H : Type} : Left H := { results := [], args := [] }

/-- 'hanaperlaw08.WindowLens': WHATEVER THE INPUT: true; the input reads as it did. -/
def windowLensSpec : ChangeSpec := { name := "windowLens", fn := fun _ => fun
  | [d] => { results := [.lit (.bool true)], args := [d] }
  | _ => none }
def windowLensRow : OpenClaim := { program := "ytlkldalfchjjeaa", sum := "dee97a4ba004500a66d3d98b9e8366b72c2e0f6fd4243a6a4101e6c7411e762a", func := "hanaper/hanaperlaw08.WindowLens", spec := "windowLens", unfollowed := true, recurses := true, apart := false }
def WindowLensSaid : Prop := windowLensRow.holds Try.pinned (OpenSpec.ofChange windowLensSpec)

/-- ITS FALSE NEIGHBOUR: 'it returns false'. Refute it at one input. -/
def windowLensWrong : ChangeSpec := { name := "windowLens", fn := fun _ => fun
  | [d] => { results := [.lit (.bool false)], args := [d] }
  | _ => none }
def WindowLensWrongFalsely : Prop := windowLensRow.holds Try.pinned (OpenSpec.ofChange windowLensWrong)

/-- 'hanaperlaw08.WindowSplits': WHATEVER THE INPUT: true; the input reads as it did. -/
def windowSplitsSpec : ChangeSpec := { name := "windowSplits", fn := fun _ => fun
  | [d1, d2] => { results := [.lit (.bool true)], args := [d1, d2] }
  | _ => none }
def windowSplitsRow : OpenClaim := { program := "ytlkldalfchjjeaa", sum := "dee97a4ba004500a66d3d98b9e8366b72c2e0f6fd4243a6a4101e6c7411e762a", func := "hanaper/hanaperlaw08.WindowSplits", spec := "windowSplits", unfollowed := true, recurses := true, apart := false }
def WindowSplitsSaid : Prop := windowSplitsRow.holds Try.pinned (OpenSpec.ofChange windowSplitsSpec)

/-- ITS FALSE NEIGHBOUR: 'it returns false'. Refute it at one input. -/
def windowSplitsWrong : ChangeSpec := { name := "windowSplits", fn := fun _ => fun
  | [d1, d2] => { results := [.lit (.bool false)], args := [d1, d2] }
  | _ => none }
def WindowSplitsWrongFalsely : Prop := windowSplitsRow.holds Try.pinned (OpenSpec.ofChange windowSplitsWrong)

/-- 'hanaperlaw08.WindowRuns': WHATEVER THE INPUT: true; the input reads as it did. -/
def windowRunsSpec : ChangeSpec := { name := "windowRuns", fn := fun _ => fun
  | [d1, d2] => { results := [.lit (.bool true)], args := [d1, d2] }
  | _ => none }
def windowRunsRow : OpenClaim := { program := "ytlkldalfchjjeaa", sum := "dee97a4ba004500a66d3d98b9e8366b72c2e0f6fd4243a6a4101e6c7411e762a", func := "hanaper/hanaperlaw08.WindowRuns", spec := "windowRuns", unfollowed := true, recurses := true, apart := false }
def WindowRunsSaid : Prop := windowRunsRow.holds Try.pinned (OpenSpec.ofChange windowRunsSpec)

/-- ITS FALSE NEIGHBOUR: 'it returns false'. Refute it at one input. -/
def windowRunsWrong : ChangeSpec := { name := "windowRuns", fn := fun _ => fun
  | [d1, d2] => { results := [.lit (.bool false)], args := [d1, d2] }
  | _ => none }
def WindowRunsWrongFalsely : Prop := windowRunsRow.holds Try.pinned (OpenSpec.ofChange windowRunsWrong)

/-- 'hanaperlaw08.WindowPlaces': WHATEVER THE INPUT: true; the input reads as it did. -/
def windowPlacesSpec : ChangeSpec := { name := "windowPlaces", fn := fun _ => fun
  | [d1, d2] => { results := [.lit (.bool true)], args := [d1, d2] }
  | _ => none }
def windowPlacesRow : OpenClaim := { program := "ytlkldalfchjjeaa", sum := "dee97a4ba004500a66d3d98b9e8366b72c2e0f6fd4243a6a4101e6c7411e762a", func := "hanaper/hanaperlaw08.WindowPlaces", spec := "windowPlaces", unfollowed := true, recurses := true, apart := false }
def WindowPlacesSaid : Prop := windowPlacesRow.holds Try.pinned (OpenSpec.ofChange windowPlacesSpec)

/-- ITS FALSE NEIGHBOUR: 'it returns false'. Refute it at one input. -/
def windowPlacesWrong : ChangeSpec := { name := "windowPlaces", fn := fun _ => fun
  | [d1, d2] => { results := [.lit (.bool false)], args := [d1, d2] }
  | _ => none }
def WindowPlacesWrongFalsely : Prop := windowPlacesRow.holds Try.pinned (OpenSpec.ofChange windowPlacesWrong)

/-- 'hanaperlaw08.WindowJoins': WHATEVER THE INPUT: true; the input reads as it did. -/
def windowJoinsSpec : ChangeSpec := { name := "windowJoins", fn := fun _ => fun
  | [d1, d2] => { results := [.lit (.bool true)], args := [d1, d2] }
  | _ => none }
def windowJoinsRow : OpenClaim := { program := "ytlkldalfchjjeaa", sum := "dee97a4ba004500a66d3d98b9e8366b72c2e0f6fd4243a6a4101e6c7411e762a", func := "hanaper/hanaperlaw08.WindowJoins", spec := "windowJoins", unfollowed := true, recurses := true, apart := false }
def WindowJoinsSaid : Prop := windowJoinsRow.holds Try.pinned (OpenSpec.ofChange windowJoinsSpec)

/-- ITS FALSE NEIGHBOUR: 'it returns false'. Refute it at one input. -/
def windowJoinsWrong : ChangeSpec := { name := "windowJoins", fn := fun _ => fun
  | [d1, d2] => { results := [.lit (.bool false)], args := [d1, d2] }
  | _ => none }
def WindowJoinsWrongFalsely : Prop := windowJoinsRow.holds Try.pinned (OpenSpec.ofChange windowJoinsWrong)

/- THE SECOND FORM. 'bulk': how many values and letters a reading holds, each counted each time it is reached (what is shared counts as often as it is met; a slice's spare places count too). A statement '..UptoSaid' is the law's where the arguments, and the package variables that the reading takes, are together of bulk at most 1048576: NARROWER than '..Said'. Prove '..Said' where nothing that the law and all that it calls make is longer than what came in: it says more and counts as full. Else prove '..UptoSaid'. A law counts once. -/
mutual
def uptoBulk {H : Type} : DataW H → Nat
  | .lit (.string bytes) => bytes.length + 1
  | .lit _ => 1
  | .nil => 1
  | .ptr d => uptoBulk d + 1
  | .slice elems spare => uptoBulkAll elems + uptoBulkAll spare + 1
  | .agg parts => uptoBulkAll parts + 1
  | .iface _ d => uptoBulk d + 1
  | .map entries => uptoBulkEntries entries + 1
  | .held _ => 1
def uptoBulkAll {H : Type} : List (DataW H) → Nat
  | [] => 0
  | d :: r => uptoBulk d + uptoBulkAll r
def uptoBulkEntries {H : Type} : List (Lit × DataW H) → Nat
  | [] => 0
  | x :: r => uptoBulkEntry x + uptoBulkEntries r
def uptoBulkEntry {H : Type} : Lit × DataW H → Nat
  | (.string bytes, d) => bytes.length + uptoBulk d + 1
  | (_, d) => uptoBulk d + 1
 end
def uptoSmall : (H : Type) → List (DataW H) → Bool := fun _ ds => decide (uptoBulkAll ds ≤ 1048576)
def OpenSpec.upto (s : _root_.Go.ChangeSpec) : _root_.Go.OpenSpec := { _root_.Go.OpenSpec.ofChange s with cond := some uptoSmall }

/-- 'hanaperlaw08.WindowLens', WHERE WHAT IT READS IS OF BULK AT MOST 1048576: true; the input reads as it did. -/
def windowLensUptoRow : OpenClaim := { program := "ytlkldalfchjjeaa", sum := "dee97a4ba004500a66d3d98b9e8366b72c2e0f6fd4243a6a4101e6c7411e762a", func := "hanaper/hanaperlaw08.WindowLens", spec := "windowLens", unfollowed := true, recurses := true, apart := false, narrowed := true }
def WindowLensUptoSaid : Prop := windowLensUptoRow.holds Try.pinned (OpenSpec.upto windowLensSpec)

/-- 'hanaperlaw08.WindowSplits', WHERE WHAT IT READS IS OF BULK AT MOST 1048576: true; the input reads as it did. -/
def windowSplitsUptoRow : OpenClaim := { program := "ytlkldalfchjjeaa", sum := "dee97a4ba004500a66d3d98b9e8366b72c2e0f6fd4243a6a4101e6c7411e762a", func := "hanaper/hanaperlaw08.WindowSplits", spec := "windowSplits", unfollowed := true, recurses := true, apart := false, narrowed := true }
def WindowSplitsUptoSaid : Prop := windowSplitsUptoRow.holds Try.pinned (OpenSpec.upto windowSplitsSpec)

/-- 'hanaperlaw08.WindowRuns', WHERE WHAT IT READS IS OF BULK AT MOST 1048576: true; the input reads as it did. -/
def windowRunsUptoRow : OpenClaim := { program := "ytlkldalfchjjeaa", sum := "dee97a4ba004500a66d3d98b9e8366b72c2e0f6fd4243a6a4101e6c7411e762a", func := "hanaper/hanaperlaw08.WindowRuns", spec := "windowRuns", unfollowed := true, recurses := true, apart := false, narrowed := true }
def WindowRunsUptoSaid : Prop := windowRunsUptoRow.holds Try.pinned (OpenSpec.upto windowRunsSpec)

/-- 'hanaperlaw08.WindowPlaces', WHERE WHAT IT READS IS OF BULK AT MOST 1048576: true; the input reads as it did. -/
def windowPlacesUptoRow : OpenClaim := { program := "ytlkldalfchjjeaa", sum := "dee97a4ba004500a66d3d98b9e8366b72c2e0f6fd4243a6a4101e6c7411e762a", func := "hanaper/hanaperlaw08.WindowPlaces", spec := "windowPlaces", unfollowed := true, recurses := true, apart := false, narrowed := true }
def WindowPlacesUptoSaid : Prop := windowPlacesUptoRow.holds Try.pinned (OpenSpec.upto windowPlacesSpec)

/-- 'hanaperlaw08.WindowJoins', WHERE WHAT IT READS IS OF BULK AT MOST 1048576: true; the input reads as it did. -/
def windowJoinsUptoRow : OpenClaim := { program := "ytlkldalfchjjeaa", sum := "dee97a4ba004500a66d3d98b9e8366b72c2e0f6fd4243a6a4101e6c7411e762a", func := "hanaper/hanaperlaw08.WindowJoins", spec := "windowJoins", unfollowed := true, recurses := true, apart := false, narrowed := true }
def WindowJoinsUptoSaid : Prop := windowJoinsUptoRow.holds Try.pinned (OpenSpec.upto windowJoinsSpec)

end Rows
end Go.Proofs.Ytlkldalfchjjeaa
