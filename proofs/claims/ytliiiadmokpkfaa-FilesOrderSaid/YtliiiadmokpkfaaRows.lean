/-
  No cell of these rows narrows 'for every input' (looked for: loops, veiled, ifaces, maps, wideKeys, modest, calm, conditions, laid).
  DERIVED. THE GIVEN ROWS OF THIS SEAT. 5 by the template 'for every input the law returns true; each argument reads behind the call as it read before'; 0 by the template 'total and deterministic' (their statements: YtliiiadmokpkfaaTotals.lean).
  GIVEN WITH THE SEED: the statements are not yours to turn. If you find one false, say at which input.
  Laid BY PROGRAM, IN A SANDBOX (cutbox-rows.mjs): the forced cells as the released guide's own fill.sh prints them over the translation e552691cfcccc2c6… (all of the seat's roots in one cut). By AI agents, Wed Nov 11 2026. No macro, syntax, notation, axiom, sorry.
-/
import Derived.Test.YtliiiadmokpkfaaChecked
import GoSem.Claim
import GoSem.ClaimJoined
import GoSem.ClaimMapViews
import Derived.JoinedTies
import Derived.KernelRfl
namespace Go.Proofs.Ytliiiadmokpkfaa
/- THE CELL 'sum', in the pinned program and in every row, IS THE sha256 OF THE DUMP (.gsa) THAT YtliiiadmokpkfaaProg.lean LOADS. Nothing in Lean hashes anything: it is a label: what it is worth is what the hold of that sum in a sandbox is worth. -/
noncomputable def Try.pinned : Pinned := { name := "ytliiiadmokpkfaa", sum := "e552691cfcccc2c64db1cb855dbf58e45732f539266ad0d182f5825bfea181a0", checked := Try.checked }
namespace Rows
def none {H : Type} : Left H := { results := [], args := [] }

/-- 'hanaperlaw11.FilesOrder': WHATEVER THE INPUT: true; the input reads as it did. -/
def filesOrderSpec : ChangeSpec := { name := "filesOrder", fn := fun _ => fun
  | [d1, d2] => { results := [.lit (.bool true)], args := [d1, d2] }
  | _ => none }
def filesOrderRow : OpenClaim := { program := "ytliiiadmokpkfaa", sum := "e552691cfcccc2c64db1cb855dbf58e45732f539266ad0d182f5825bfea181a0", func := "hanaper/hanaperlaw11.FilesOrder", spec := "filesOrder", inPlace := ["internal/abi.NoEscape", "internal/bytealg.abigen_runtime_cmpstring"], unfollowed := true, recurses := true, apart := false }
def FilesOrderSaid : Prop := filesOrderRow.holds Try.pinned (OpenSpec.ofChange filesOrderSpec)

/-- ITS FALSE NEIGHBOUR: 'it returns false'. Refute it at one input. -/
def filesOrderWrong : ChangeSpec := { name := "filesOrder", fn := fun _ => fun
  | [d1, d2] => { results := [.lit (.bool false)], args := [d1, d2] }
  | _ => none }
def FilesOrderWrongFalsely : Prop := filesOrderRow.holds Try.pinned (OpenSpec.ofChange filesOrderWrong)

/-- 'hanaperlaw11.FilesCut': WHATEVER THE INPUT: true; the input reads as it did. -/
def filesCutSpec : ChangeSpec := { name := "filesCut", fn := fun _ => fun
  | [d] => { results := [.lit (.bool true)], args := [d] }
  | _ => none }
def filesCutRow : OpenClaim := { program := "ytliiiadmokpkfaa", sum := "e552691cfcccc2c64db1cb855dbf58e45732f539266ad0d182f5825bfea181a0", func := "hanaper/hanaperlaw11.FilesCut", spec := "filesCut", inPlace := ["internal/abi.NoEscape", "internal/bytealg.abigen_runtime_cmpstring"], unfollowed := true, recurses := true, apart := false }
def FilesCutSaid : Prop := filesCutRow.holds Try.pinned (OpenSpec.ofChange filesCutSpec)

/-- ITS FALSE NEIGHBOUR: 'it returns false'. Refute it at one input. -/
def filesCutWrong : ChangeSpec := { name := "filesCut", fn := fun _ => fun
  | [d] => { results := [.lit (.bool false)], args := [d] }
  | _ => none }
def FilesCutWrongFalsely : Prop := filesCutRow.holds Try.pinned (OpenSpec.ofChange filesCutWrong)

/-- 'hanaperlaw11.FilesTells': WHATEVER THE INPUT: true; the input reads as it did. -/
def filesTellsSpec : ChangeSpec := { name := "filesTells", fn := fun _ => fun
  | [d1, d2] => { results := [.lit (.bool true)], args := [d1, d2] }
  | _ => none }
def filesTellsRow : OpenClaim := { program := "ytliiiadmokpkfaa", sum := "e552691cfcccc2c64db1cb855dbf58e45732f539266ad0d182f5825bfea181a0", func := "hanaper/hanaperlaw11.FilesTells", spec := "filesTells", inPlace := ["internal/abi.NoEscape", "internal/bytealg.abigen_runtime_cmpstring"], unfollowed := true, recurses := true, apart := false }
def FilesTellsSaid : Prop := filesTellsRow.holds Try.pinned (OpenSpec.ofChange filesTellsSpec)

/-- ITS FALSE NEIGHBOUR: 'it returns false'. Refute it at one input. -/
def filesTellsWrong : ChangeSpec := { name := "filesTells", fn := fun _ => fun
  | [d1, d2] => { results := [.lit (.bool false)], args := [d1, d2] }
  | _ => none }
def FilesTellsWrongFalsely : Prop := filesTellsRow.holds Try.pinned (OpenSpec.ofChange filesTellsWrong)

/-- 'hanaperlaw11.FilesParts': WHATEVER THE INPUT: true; the input reads as it did. -/
def filesPartsSpec : ChangeSpec := { name := "filesParts", fn := fun _ => fun
  | [d1, d2, d3] => { results := [.lit (.bool true)], args := [d1, d2, d3] }
  | _ => none }
def filesPartsRow : OpenClaim := { program := "ytliiiadmokpkfaa", sum := "e552691cfcccc2c64db1cb855dbf58e45732f539266ad0d182f5825bfea181a0", func := "hanaper/hanaperlaw11.FilesParts", spec := "filesParts", inPlace := ["internal/abi.NoEscape", "internal/bytealg.abigen_runtime_cmpstring"], unfollowed := true, recurses := true, apart := false }
def FilesPartsSaid : Prop := filesPartsRow.holds Try.pinned (OpenSpec.ofChange filesPartsSpec)

/-- ITS FALSE NEIGHBOUR: 'it returns false'. Refute it at one input. -/
def filesPartsWrong : ChangeSpec := { name := "filesParts", fn := fun _ => fun
  | [d1, d2, d3] => { results := [.lit (.bool false)], args := [d1, d2, d3] }
  | _ => none }
def FilesPartsWrongFalsely : Prop := filesPartsRow.holds Try.pinned (OpenSpec.ofChange filesPartsWrong)

/-- 'hanaperlaw11.FilesBack': WHATEVER THE INPUT: true; the input reads as it did. -/
def filesBackSpec : ChangeSpec := { name := "filesBack", fn := fun _ => fun
  | [d] => { results := [.lit (.bool true)], args := [d] }
  | _ => none }
def filesBackRow : OpenClaim := { program := "ytliiiadmokpkfaa", sum := "e552691cfcccc2c64db1cb855dbf58e45732f539266ad0d182f5825bfea181a0", func := "hanaper/hanaperlaw11.FilesBack", spec := "filesBack", inPlace := ["internal/abi.NoEscape", "internal/bytealg.abigen_runtime_cmpstring"], unfollowed := true, recurses := true, apart := false }
def FilesBackSaid : Prop := filesBackRow.holds Try.pinned (OpenSpec.ofChange filesBackSpec)

/-- ITS FALSE NEIGHBOUR: 'it returns false'. Refute it at one input. -/
def filesBackWrong : ChangeSpec := { name := "filesBack", fn := fun _ => fun
  | [d] => { results := [.lit (.bool false)], args := [d] }
  | _ => none }
def FilesBackWrongFalsely : Prop := filesBackRow.holds Try.pinned (OpenSpec.ofChange filesBackWrong)

/- THE SECOND FORM. 'bulk': how many values and letters a reading holds, each counted each time it is reached (what is shared counts as often as it is met; a slice's spare places count too). A statement '..UptoSaid' is the law's where the arguments, and the package variables that the reading takes, are together of bulk at most 1048576: NARROWER than '..Said'. Prove '..Said' where nothing that the law and all that it calls make is longer than what came in: it says more and counts as full. Else prove '..UptoSaid'. A law counts once. -/
mutual
def uptoBulk {H : Type} : DataW H → Nat
  | .lit (.string bytes) => bytes.length + 1
  | .lit _ => 1
  | .nil => 1
  | .ptr d => uptoBulk d + 1
  | .slice elems spare => uptoBulkAll elems + uptoBulkAll spare + 1
  | .agg parts => uptoBulkAll parts + 1
  | .iface _ d => uptoBulk d + 1
  | .map entries => uptoBulkEntries entries + 1
  | .held _ => 1
def uptoBulkAll {H : Type} : List (DataW H) → Nat
  | [] => 0
  | d :: r => uptoBulk d + uptoBulkAll r
def uptoBulkEntries {H : Type} : List (Lit × DataW H) → Nat
  | [] => 0
  | x :: r => uptoBulkEntry x + uptoBulkEntries r
def uptoBulkEntry {H : Type} : Lit × DataW H → Nat
  | (.string bytes, d) => bytes.length + uptoBulk d + 1
  | (_, d) => uptoBulk d + 1
 end
def uptoSmall : (H : Type) → List (DataW H) → Bool := fun _ ds => decide (uptoBulkAll ds ≤ 1048576)
def OpenSpec.upto (s : _root_.Go.ChangeSpec) : _root_.Go.OpenSpec := { _root_.Go.OpenSpec.ofChange s with cond := some uptoSmall }

/-- 'hanaperlaw11.FilesOrder', WHERE WHAT IT READS IS OF BULK AT MOST 1048576: true; the input reads as it did. -/
def filesOrderUptoRow : OpenClaim := { program := "ytliiiadmokpkfaa", sum := "e552691cfcccc2c64db1cb855dbf58e45732f539266ad0d182f5825bfea181a0", func := "hanaper/hanaperlaw11.FilesOrder", spec := "filesOrder", inPlace := ["internal/abi.NoEscape", "internal/bytealg.abigen_runtime_cmpstring"], unfollowed := true, recurses := true, apart := false, narrowed := true }
def FilesOrderUptoSaid : Prop := filesOrderUptoRow.holds Try.pinned (OpenSpec.upto filesOrderSpec)

/-- 'hanaperlaw11.FilesCut', WHERE WHAT IT READS IS OF BULK AT MOST 1048576: true; the input reads as it did. -/
def filesCutUptoRow : OpenClaim := { program := "ytliiiadmokpkfaa", sum := "e552691cfcccc2c64db1cb855dbf58e45732f539266ad0d182f5825bfea181a0", func := "hanaper/hanaperlaw11.FilesCut", spec := "filesCut", inPlace := ["internal/abi.NoEscape", "internal/bytealg.abigen_runtime_cmpstring"], unfollowed := true, recurses := true, apart := false, narrowed := true }
def FilesCutUptoSaid : Prop := filesCutUptoRow.holds Try.pinned (OpenSpec.upto filesCutSpec)

/-- 'hanaperlaw11.FilesTells', WHERE WHAT IT READS IS OF BULK AT MOST 1048576: true; the input reads as it did. -/
def filesTellsUptoRow : OpenClaim := { program := "ytliiiadmokpkfaa", sum := "e552691cfcccc2c64db1cb855dbf58e45732f539266ad0d182f5825bfea181a0", func := "hanaper/hanaperlaw11.FilesTells", spec := "filesTells", inPlace := ["internal/abi.NoEscape", "internal/bytealg.abigen_runtime_cmpstring"], unfollowed := true, recurses := true, apart := false, narrowed := true }
def FilesTellsUptoSaid : Prop := filesTellsUptoRow.holds Try.pinned (OpenSpec.upto filesTellsSpec)

/-- 'hanaperlaw11.FilesParts', WHERE WHAT IT READS IS OF BULK AT MOST 1048576: true; the input reads as it did. -/
def filesPartsUptoRow : OpenClaim := { program := "ytliiiadmokpkfaa", sum := "e552691cfcccc2c64db1cb855dbf58e45732f539266ad0d182f5825bfea181a0", func := "hanaper/hanaperlaw11.FilesParts", spec := "filesParts", inPlace := ["internal/abi.NoEscape", "internal/bytealg.abigen_runtime_cmpstring"], unfollowed := true, recurses := true, apart := false, narrowed := true }
def FilesPartsUptoSaid : Prop := filesPartsUptoRow.holds Try.pinned (OpenSpec.upto filesPartsSpec)

/-- 'hanaperlaw11.FilesBack', WHERE WHAT IT READS IS OF BULK AT MOST 1048576: true; the input reads as it did. -/
def filesBackUptoRow : OpenClaim := { program := "ytliiiadmokpkfaa", sum := "e552691cfcccc2c64db1cb855dbf58e45732f539266ad0d182f5825bfea181a0", func := "hanaper/hanaperlaw11.FilesBack", spec := "filesBack", inPlace := ["internal/abi.NoEscape", "internal/bytealg.abigen_runtime_cmpstring"], unfollowed := true, recurses := true, apart := false, narrowed := true }
def FilesBackUptoSaid : Prop := filesBackUptoRow.holds Try.pinned (OpenSpec.upto filesBackSpec)

end Rows
end Go.Proofs.Ytliiiadmokpkfaa
