/-
  No cell of these rows narrows 'for every input' (looked for: loops, veiled, ifaces, maps, wideKeys, modest, calm, conditions, laid).
  DERIVED. THE GIVEN ROWS OF THIS SEAT. 7 by the template 'for every input the law returns true; each argument reads behind the call as it read before'; 0 by the template 'total and deterministic' (their statements: YtpjacnialnlilaaTotals.lean).
  GIVEN WITH THE SEED: the statements are not yours to turn. If you find one false, say at which input.
  Laid BY PROGRAM, IN A SANDBOX (cutbox-rows.mjs): the forced cells as the released guide's own fill.sh prints them over the translation fd59c9154e88884d… (all of the seat's roots in one cut). By AI agents, Wed Nov 11 2026. No macro, syntax, notation, axiom, sorry.
-/
import Derived.Test.YtpjacnialnlilaaChecked
import GoSem.Claim
import GoSem.ClaimJoined
import GoSem.ClaimMapViews
import Derived.JoinedTies
import Derived.KernelRfl
namespace Go.Proofs.Ytpjacnialnlilaa
/- THE CELL 'sum', in the pinned program and in every row, IS THE sha256 OF THE DUMP (.gsa) THAT YtpjacnialnlilaaProg.lean LOADS. Nothing in Lean hashes anything: it is a label: what it is worth is what the hold of that sum in a sandbox is worth. -/
noncomputable def Try.pinned : Pinned := { name := "ytpjacnialnlilaa", sum := "fd59c9154e88884dd98b5aaf0e2f10fec5e2581e4cd96fcc7194367d0fe7df85", checked := Try.checked }
namespace Rows
def none {H : Type} : Left H := { results := [], args := [] }

/-- 'hanaperlaw07.PrefixLengths': WHATEVER THE INPUT: true; the input reads as it did. -/
def prefixLengthsSpec : ChangeSpec := { name := "prefixLengths", fn := fun _ => fun
  | [d1, d2] => { results := [.lit (.bool true)], args := [d1, d2] }
  | _ => none }
def prefixLengthsRow : OpenClaim := { program := "ytpjacnialnlilaa", sum := "fd59c9154e88884dd98b5aaf0e2f10fec5e2581e4cd96fcc7194367d0fe7df85", func := "hanaper/hanaperlaw07.PrefixLengths", spec := "prefixLengths", unfollowed := true, recurses := true, apart := false }
def PrefixLengthsSaid : Prop := prefixLengthsRow.holds Try.pinned (OpenSpec.ofChange prefixLengthsSpec)

/-- ITS FALSE NEIGHBOUR: 'it returns false'. Refute it at one input. -/
def prefixLengthsWrong : ChangeSpec := { name := "prefixLengths", fn := fun _ => fun
  | [d1, d2] => { results := [.lit (.bool false)], args := [d1, d2] }
  | _ => none }
def PrefixLengthsWrongFalsely : Prop := prefixLengthsRow.holds Try.pinned (OpenSpec.ofChange prefixLengthsWrong)

/-- 'hanaperlaw07.PrefixOrder': WHATEVER THE INPUT: true; the input reads as it did. -/
def prefixOrderSpec : ChangeSpec := { name := "prefixOrder", fn := fun _ => fun
  | [d] => { results := [.lit (.bool true)], args := [d] }
  | _ => none }
def prefixOrderRow : OpenClaim := { program := "ytpjacnialnlilaa", sum := "fd59c9154e88884dd98b5aaf0e2f10fec5e2581e4cd96fcc7194367d0fe7df85", func := "hanaper/hanaperlaw07.PrefixOrder", spec := "prefixOrder", unfollowed := true, recurses := true, apart := false }
def PrefixOrderSaid : Prop := prefixOrderRow.holds Try.pinned (OpenSpec.ofChange prefixOrderSpec)

/-- ITS FALSE NEIGHBOUR: 'it returns false'. Refute it at one input. -/
def prefixOrderWrong : ChangeSpec := { name := "prefixOrder", fn := fun _ => fun
  | [d] => { results := [.lit (.bool false)], args := [d] }
  | _ => none }
def PrefixOrderWrongFalsely : Prop := prefixOrderRow.holds Try.pinned (OpenSpec.ofChange prefixOrderWrong)

/-- 'hanaperlaw07.PrefixCodes': WHATEVER THE INPUT: true; the input reads as it did. -/
def prefixCodesSpec : ChangeSpec := { name := "prefixCodes", fn := fun _ => fun
  | [d] => { results := [.lit (.bool true)], args := [d] }
  | _ => none }
def prefixCodesRow : OpenClaim := { program := "ytpjacnialnlilaa", sum := "fd59c9154e88884dd98b5aaf0e2f10fec5e2581e4cd96fcc7194367d0fe7df85", func := "hanaper/hanaperlaw07.PrefixCodes", spec := "prefixCodes", unfollowed := true, recurses := true, apart := false }
def PrefixCodesSaid : Prop := prefixCodesRow.holds Try.pinned (OpenSpec.ofChange prefixCodesSpec)

/-- ITS FALSE NEIGHBOUR: 'it returns false'. Refute it at one input. -/
def prefixCodesWrong : ChangeSpec := { name := "prefixCodes", fn := fun _ => fun
  | [d] => { results := [.lit (.bool false)], args := [d] }
  | _ => none }
def PrefixCodesWrongFalsely : Prop := prefixCodesRow.holds Try.pinned (OpenSpec.ofChange prefixCodesWrong)

/-- 'hanaperlaw07.PrefixWhole': WHATEVER THE INPUT: true; the input reads as it did. -/
def prefixWholeSpec : ChangeSpec := { name := "prefixWhole", fn := fun _ => fun
  | [d1, d2] => { results := [.lit (.bool true)], args := [d1, d2] }
  | _ => none }
def prefixWholeRow : OpenClaim := { program := "ytpjacnialnlilaa", sum := "fd59c9154e88884dd98b5aaf0e2f10fec5e2581e4cd96fcc7194367d0fe7df85", func := "hanaper/hanaperlaw07.PrefixWhole", spec := "prefixWhole", unfollowed := true, recurses := true, apart := false }
def PrefixWholeSaid : Prop := prefixWholeRow.holds Try.pinned (OpenSpec.ofChange prefixWholeSpec)

/-- ITS FALSE NEIGHBOUR: 'it returns false'. Refute it at one input. -/
def prefixWholeWrong : ChangeSpec := { name := "prefixWhole", fn := fun _ => fun
  | [d1, d2] => { results := [.lit (.bool false)], args := [d1, d2] }
  | _ => none }
def PrefixWholeWrongFalsely : Prop := prefixWholeRow.holds Try.pinned (OpenSpec.ofChange prefixWholeWrong)

/-- 'hanaperlaw07.PrefixFree': WHATEVER THE INPUT: true; the input reads as it did. -/
def prefixFreeSpec : ChangeSpec := { name := "prefixFree", fn := fun _ => fun
  | [d] => { results := [.lit (.bool true)], args := [d] }
  | _ => none }
def prefixFreeRow : OpenClaim := { program := "ytpjacnialnlilaa", sum := "fd59c9154e88884dd98b5aaf0e2f10fec5e2581e4cd96fcc7194367d0fe7df85", func := "hanaper/hanaperlaw07.PrefixFree", spec := "prefixFree", unfollowed := true, recurses := true, apart := false }
def PrefixFreeSaid : Prop := prefixFreeRow.holds Try.pinned (OpenSpec.ofChange prefixFreeSpec)

/-- ITS FALSE NEIGHBOUR: 'it returns false'. Refute it at one input. -/
def prefixFreeWrong : ChangeSpec := { name := "prefixFree", fn := fun _ => fun
  | [d] => { results := [.lit (.bool false)], args := [d] }
  | _ => none }
def PrefixFreeWrongFalsely : Prop := prefixFreeRow.holds Try.pinned (OpenSpec.ofChange prefixFreeWrong)

/-- 'hanaperlaw07.PrefixNext': WHATEVER THE INPUT: true; the input reads as it did. -/
def prefixNextSpec : ChangeSpec := { name := "prefixNext", fn := fun _ => fun
  | [d1, d2] => { results := [.lit (.bool true)], args := [d1, d2] }
  | _ => none }
def prefixNextRow : OpenClaim := { program := "ytpjacnialnlilaa", sum := "fd59c9154e88884dd98b5aaf0e2f10fec5e2581e4cd96fcc7194367d0fe7df85", func := "hanaper/hanaperlaw07.PrefixNext", spec := "prefixNext", unfollowed := true, recurses := true, apart := false }
def PrefixNextSaid : Prop := prefixNextRow.holds Try.pinned (OpenSpec.ofChange prefixNextSpec)

/-- ITS FALSE NEIGHBOUR: 'it returns false'. Refute it at one input. -/
def prefixNextWrong : ChangeSpec := { name := "prefixNext", fn := fun _ => fun
  | [d1, d2] => { results := [.lit (.bool false)], args := [d1, d2] }
  | _ => none }
def PrefixNextWrongFalsely : Prop := prefixNextRow.holds Try.pinned (OpenSpec.ofChange prefixNextWrong)

/-- 'hanaperlaw07.PrefixBack': WHATEVER THE INPUT: true; the input reads as it did. -/
def prefixBackSpec : ChangeSpec := { name := "prefixBack", fn := fun _ => fun
  | [d1, d2] => { results := [.lit (.bool true)], args := [d1, d2] }
  | _ => none }
def prefixBackRow : OpenClaim := { program := "ytpjacnialnlilaa", sum := "fd59c9154e88884dd98b5aaf0e2f10fec5e2581e4cd96fcc7194367d0fe7df85", func := "hanaper/hanaperlaw07.PrefixBack", spec := "prefixBack", unfollowed := true, recurses := true, apart := false }
def PrefixBackSaid : Prop := prefixBackRow.holds Try.pinned (OpenSpec.ofChange prefixBackSpec)

/-- ITS FALSE NEIGHBOUR: 'it returns false'. Refute it at one input. -/
def prefixBackWrong : ChangeSpec := { name := "prefixBack", fn := fun _ => fun
  | [d1, d2] => { results := [.lit (.bool false)], args := [d1, d2] }
  | _ => none }
def PrefixBackWrongFalsely : Prop := prefixBackRow.holds Try.pinned (OpenSpec.ofChange prefixBackWrong)

/- THE SECOND FORM. 'bulk': how many values and letters a reading holds, each counted each time it is reached (what is shared counts as often as it is met; a slice's spare places count too). A statement '..UptoSaid' is the law's where the arguments, and the package variables that the reading takes, are together of bulk at most 1048576: NARROWER than '..Said'. Prove '..Said' where nothing that the law and all that it calls make is longer than what came in: it says more and counts as full. Else prove '..UptoSaid'. A law counts once. -/
mutual
def uptoBulk {H : Type} : DataW H → Nat
  | .lit (.string bytes) => bytes.length + 1
  | .lit _ => 1
  | .nil => 1
  | .ptr d => uptoBulk d + 1
  | .slice elems spare => uptoBulkAll elems + uptoBulkAll spare + 1
  | .agg parts => uptoBulkAll parts + 1
  | .iface _ d => uptoBulk d + 1
  | .map entries => uptoBulkEntries entries + 1
  | .held _ => 1
def uptoBulkAll {H : Type} : List (DataW H) → Nat
  | [] => 0
  | d :: r => uptoBulk d + uptoBulkAll r
def uptoBulkEntries {H : Type} : List (Lit × DataW H) → Nat
  | [] => 0
  | x :: r => uptoBulkEntry x + uptoBulkEntries r
def uptoBulkEntry {H : Type} : Lit × DataW H → Nat
  | (.string bytes, d) => bytes.length + uptoBulk d + 1
  | (_, d) => uptoBulk d + 1
 end
def uptoSmall : (H : Type) → List (DataW H) → Bool := fun _ ds => decide (uptoBulkAll ds ≤ 1048576)
def OpenSpec.upto (s : _root_.Go.ChangeSpec) : _root_.Go.OpenSpec := { _root_.Go.OpenSpec.ofChange s with cond := some uptoSmall }

/-- 'hanaperlaw07.PrefixLengths', WHERE WHAT IT READS IS OF BULK AT MOST 1048576: true; the input reads as it did. -/
def prefixLengthsUptoRow : OpenClaim := { program := "ytpjacnialnlilaa", sum := "fd59c9154e88884dd98b5aaf0e2f10fec5e2581e4cd96fcc7194367d0fe7df85", func := "hanaper/hanaperlaw07.PrefixLengths", spec := "prefixLengths", unfollowed := true, recurses := true, apart := false, narrowed := true }
def PrefixLengthsUptoSaid : Prop := prefixLengthsUptoRow.holds Try.pinned (OpenSpec.upto prefixLengthsSpec)

/-- 'hanaperlaw07.PrefixOrder', WHERE WHAT IT READS IS OF BULK AT MOST 1048576: true; the input reads as it did. -/
def prefixOrderUptoRow : OpenClaim := { program := "ytpjacnialnlilaa", sum := "fd59c9154e88884dd98b5aaf0e2f10fec5e2581e4cd96fcc7194367d0fe7df85", func := "hanaper/hanaperlaw07.PrefixOrder", spec := "prefixOrder", unfollowed := true, recurses := true, apart := false, narrowed := true }
def PrefixOrderUptoSaid : Prop := prefixOrderUptoRow.holds Try.pinned (OpenSpec.upto prefixOrderSpec)

/-- 'hanaperlaw07.PrefixCodes', WHERE WHAT IT READS IS OF BULK AT MOST 1048576: true; the input reads as it did. -/
def prefixCodesUptoRow : OpenClaim := { program := "ytpjacnialnlilaa", sum := "fd59c9154e88884dd98b5aaf0e2f10fec5e2581e4cd96fcc7194367d0fe7df85", func := "hanaper/hanaperlaw07.PrefixCodes", spec := "prefixCodes", unfollowed := true, recurses := true, apart := false, narrowed := true }
def PrefixCodesUptoSaid : Prop := prefixCodesUptoRow.holds Try.pinned (OpenSpec.upto prefixCodesSpec)

/-- 'hanaperlaw07.PrefixWhole', WHERE WHAT IT READS IS OF BULK AT MOST 1048576: true; the input reads as it did. -/
def prefixWholeUptoRow : OpenClaim := { program := "ytpjacnialnlilaa", sum := "fd59c9154e88884dd98b5aaf0e2f10fec5e2581e4cd96fcc7194367d0fe7df85", func := "hanaper/hanaperlaw07.PrefixWhole", spec := "prefixWhole", unfollowed := true, recurses := true, apart := false, narrowed := true }
def PrefixWholeUptoSaid : Prop := prefixWholeUptoRow.holds Try.pinned (OpenSpec.upto prefixWholeSpec)

/-- 'hanaperlaw07.PrefixFree', WHERE WHAT IT READS IS OF BULK AT MOST 1048576: true; the input reads as it did. -/
def prefixFreeUptoRow : OpenClaim := { program := "ytpjacnialnlilaa", sum := "fd59c9154e88884dd98b5aaf0e2f10fec5e2581e4cd96fcc7194367d0fe7df85", func := "hanaper/hanaperlaw07.PrefixFree", spec := "prefixFree", unfollowed := true, recurses := true, apart := false, narrowed := true }
def PrefixFreeUptoSaid : Prop := prefixFreeUptoRow.holds Try.pinned (OpenSpec.upto prefixFreeSpec)

/-- 'hanaperlaw07.PrefixNext', WHERE WHAT IT READS IS OF BULK AT MOST 1048576: true; the input reads as it did. -/
def prefixNextUptoRow : OpenClaim := { program := "ytpjacnialnlilaa", sum := "fd59c9154e88884dd98b5aaf0e2f10fec5e2581e4cd96fcc7194367d0fe7df85", func := "hanaper/hanaperlaw07.PrefixNext", spec := "prefixNext", unfollowed := true, recurses := true, apart := false, narrowed := true }
def PrefixNextUptoSaid : Prop := prefixNextUptoRow.holds Try.pinned (OpenSpec.upto prefixNextSpec)

/-- 'hanaperlaw07.PrefixBack', WHERE WHAT IT READS IS OF BULK AT MOST 1048576: true; the input reads as it did. -/
def prefixBackUptoRow : OpenClaim := { program := "ytpjacnialnlilaa", sum := "fd59c9154e88884dd98b5aaf0e2f10fec5e2581e4cd96fcc7194367d0fe7df85", func := "hanaper/hanaperlaw07.PrefixBack", spec := "prefixBack", unfollowed := true, recurses := true, apart := false, narrowed := true }
def PrefixBackUptoSaid : Prop := prefixBackUptoRow.holds Try.pinned (OpenSpec.upto prefixBackSpec)

end Rows
end Go.Proofs.Ytpjacnialnlilaa
