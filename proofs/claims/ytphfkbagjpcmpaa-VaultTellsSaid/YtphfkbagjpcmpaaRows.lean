/-
  No cell of these rows narrows 'for every input' (looked for: loops, veiled, ifaces, maps, wideKeys, modest, calm, conditions, laid).
  DERIVED. THE GIVEN ROWS OF THIS SEAT. 7 by the template 'for every input the law returns true; each argument reads behind the call as it read before'; 0 by the template 'total and deterministic' (their statements: YtphfkbagjpcmpaaTotals.lean).
  GIVEN WITH THE SEED: the statements are not yours to turn. If you find one false, say at which input.
  Laid BY PROGRAM, IN A SANDBOX (cutbox-rows.mjs): the forced cells as the released guide's own fill.sh prints them over the translation 9759b90ff63f8bf7… (all of the seat's roots in one cut). By AI agents, Wed Nov 11 2026. No macro, syntax, notation, axiom, sorry.
-/
import Derived.Test.YtphfkbagjpcmpaaChecked
import GoSem.Claim
import GoSem.ClaimJoined
import GoSem.ClaimMapViews
import Derived.JoinedTies
import Derived.KernelRfl
namespace Go.Proofs.Ytphfkbagjpcmpaa
/- THE CELL 'sum', in the pinned program and in every row, IS THE sha256 OF THE DUMP (.gsa) THAT YtphfkbagjpcmpaaProg.lean LOADS. Nothing in Lean hashes anything: it is a label: what it is worth is what the hold of that sum in a sandbox is worth. -/
noncomputable def Try.pinned : Pinned := { name := "ytphfkbagjpcmpaa", sum := "9759b90ff63f8bf7c3647c6ba13f85fe445037128406ce6f98d36f7354adbbdb", checked := Try.checked }
namespace Rows
def none {H : Type} : Left H := { results := [], args := [] }

/-- 'hanaperlaw17.VaultTwice': WHATEVER THE INPUT: true; the input reads as it did. -/
def vaultTwiceSpec : ChangeSpec := { name := "vaultTwice", fn := fun _ => fun
  | [d1, d2] => { results := [.lit (.bool true)], args := [d1, d2] }
  | _ => none }
def vaultTwiceRow : OpenClaim := { program := "ytphfkbagjpcmpaa", sum := "9759b90ff63f8bf7c3647c6ba13f85fe445037128406ce6f98d36f7354adbbdb", func := "hanaper/hanaperlaw17.VaultTwice", spec := "vaultTwice", inPlace := ["internal/bytealg.abigen_runtime_cmpstring"], unfollowed := true, recurses := true, apart := false }
def VaultTwiceSaid : Prop := vaultTwiceRow.holds Try.pinned (OpenSpec.ofChange vaultTwiceSpec)

/-- ITS FALSE NEIGHBOUR: 'it returns false'. Refute it at one input. -/
def vaultTwiceWrong : ChangeSpec := { name := "vaultTwice", fn := fun _ => fun
  | [d1, d2] => { results := [.lit (.bool false)], args := [d1, d2] }
  | _ => none }
def VaultTwiceWrongFalsely : Prop := vaultTwiceRow.holds Try.pinned (OpenSpec.ofChange vaultTwiceWrong)

/-- 'hanaperlaw17.VaultErrors': WHATEVER THE INPUT: true; the input reads as it did. -/
def vaultErrorsSpec : ChangeSpec := { name := "vaultErrors", fn := fun _ => fun
  | [d1, d2] => { results := [.lit (.bool true)], args := [d1, d2] }
  | _ => none }
def vaultErrorsRow : OpenClaim := { program := "ytphfkbagjpcmpaa", sum := "9759b90ff63f8bf7c3647c6ba13f85fe445037128406ce6f98d36f7354adbbdb", func := "hanaper/hanaperlaw17.VaultErrors", spec := "vaultErrors", inPlace := ["internal/bytealg.abigen_runtime_cmpstring"], unfollowed := true, recurses := true, apart := false }
def VaultErrorsSaid : Prop := vaultErrorsRow.holds Try.pinned (OpenSpec.ofChange vaultErrorsSpec)

/-- ITS FALSE NEIGHBOUR: 'it returns false'. Refute it at one input. -/
def vaultErrorsWrong : ChangeSpec := { name := "vaultErrors", fn := fun _ => fun
  | [d1, d2] => { results := [.lit (.bool false)], args := [d1, d2] }
  | _ => none }
def VaultErrorsWrongFalsely : Prop := vaultErrorsRow.holds Try.pinned (OpenSpec.ofChange vaultErrorsWrong)

/-- 'hanaperlaw17.VaultPuts': WHATEVER THE INPUT: true; the input reads as it did. -/
def vaultPutsSpec : ChangeSpec := { name := "vaultPuts", fn := fun _ => fun
  | [d1, d2] => { results := [.lit (.bool true)], args := [d1, d2] }
  | _ => none }
def vaultPutsRow : OpenClaim := { program := "ytphfkbagjpcmpaa", sum := "9759b90ff63f8bf7c3647c6ba13f85fe445037128406ce6f98d36f7354adbbdb", func := "hanaper/hanaperlaw17.VaultPuts", spec := "vaultPuts", inPlace := ["internal/bytealg.abigen_runtime_cmpstring"], unfollowed := true, recurses := true, apart := false }
def VaultPutsSaid : Prop := vaultPutsRow.holds Try.pinned (OpenSpec.ofChange vaultPutsSpec)

/-- ITS FALSE NEIGHBOUR: 'it returns false'. Refute it at one input. -/
def vaultPutsWrong : ChangeSpec := { name := "vaultPuts", fn := fun _ => fun
  | [d1, d2] => { results := [.lit (.bool false)], args := [d1, d2] }
  | _ => none }
def VaultPutsWrongFalsely : Prop := vaultPutsRow.holds Try.pinned (OpenSpec.ofChange vaultPutsWrong)

/-- 'hanaperlaw17.VaultPrunes': WHATEVER THE INPUT: true; the input reads as it did. -/
def vaultPrunesSpec : ChangeSpec := { name := "vaultPrunes", fn := fun _ => fun
  | [d1, d2] => { results := [.lit (.bool true)], args := [d1, d2] }
  | _ => none }
def vaultPrunesRow : OpenClaim := { program := "ytphfkbagjpcmpaa", sum := "9759b90ff63f8bf7c3647c6ba13f85fe445037128406ce6f98d36f7354adbbdb", func := "hanaper/hanaperlaw17.VaultPrunes", spec := "vaultPrunes", inPlace := ["internal/bytealg.abigen_runtime_cmpstring"], unfollowed := true, recurses := true, apart := false }
def VaultPrunesSaid : Prop := vaultPrunesRow.holds Try.pinned (OpenSpec.ofChange vaultPrunesSpec)

/-- ITS FALSE NEIGHBOUR: 'it returns false'. Refute it at one input. -/
def vaultPrunesWrong : ChangeSpec := { name := "vaultPrunes", fn := fun _ => fun
  | [d1, d2] => { results := [.lit (.bool false)], args := [d1, d2] }
  | _ => none }
def VaultPrunesWrongFalsely : Prop := vaultPrunesRow.holds Try.pinned (OpenSpec.ofChange vaultPrunesWrong)

/-- 'hanaperlaw17.VaultParts': WHATEVER THE INPUT: true; the input reads as it did. -/
def vaultPartsSpec : ChangeSpec := { name := "vaultParts", fn := fun _ => fun
  | [d1, d2] => { results := [.lit (.bool true)], args := [d1, d2] }
  | _ => none }
def vaultPartsRow : OpenClaim := { program := "ytphfkbagjpcmpaa", sum := "9759b90ff63f8bf7c3647c6ba13f85fe445037128406ce6f98d36f7354adbbdb", func := "hanaper/hanaperlaw17.VaultParts", spec := "vaultParts", inPlace := ["internal/bytealg.abigen_runtime_cmpstring"], unfollowed := true, recurses := true, apart := false }
def VaultPartsSaid : Prop := vaultPartsRow.holds Try.pinned (OpenSpec.ofChange vaultPartsSpec)

/-- ITS FALSE NEIGHBOUR: 'it returns false'. Refute it at one input. -/
def vaultPartsWrong : ChangeSpec := { name := "vaultParts", fn := fun _ => fun
  | [d1, d2] => { results := [.lit (.bool false)], args := [d1, d2] }
  | _ => none }
def VaultPartsWrongFalsely : Prop := vaultPartsRow.holds Try.pinned (OpenSpec.ofChange vaultPartsWrong)

/-- 'hanaperlaw17.VaultOnce': WHATEVER THE INPUT: true; the input reads as it did. -/
def vaultOnceSpec : ChangeSpec := { name := "vaultOnce", fn := fun _ => fun
  | [d] => { results := [.lit (.bool true)], args := [d] }
  | _ => none }
def vaultOnceRow : OpenClaim := { program := "ytphfkbagjpcmpaa", sum := "9759b90ff63f8bf7c3647c6ba13f85fe445037128406ce6f98d36f7354adbbdb", func := "hanaper/hanaperlaw17.VaultOnce", spec := "vaultOnce", inPlace := ["internal/bytealg.abigen_runtime_cmpstring"], unfollowed := true, recurses := true, apart := false }
def VaultOnceSaid : Prop := vaultOnceRow.holds Try.pinned (OpenSpec.ofChange vaultOnceSpec)

/-- ITS FALSE NEIGHBOUR: 'it returns false'. Refute it at one input. -/
def vaultOnceWrong : ChangeSpec := { name := "vaultOnce", fn := fun _ => fun
  | [d] => { results := [.lit (.bool false)], args := [d] }
  | _ => none }
def VaultOnceWrongFalsely : Prop := vaultOnceRow.holds Try.pinned (OpenSpec.ofChange vaultOnceWrong)

/-- 'hanaperlaw17.VaultTells': WHATEVER THE INPUT: true; the input reads as it did. -/
def vaultTellsSpec : ChangeSpec := { name := "vaultTells", fn := fun _ => fun
  | [d1, d2] => { results := [.lit (.bool true)], args := [d1, d2] }
  | _ => none }
def vaultTellsRow : OpenClaim := { program := "ytphfkbagjpcmpaa", sum := "9759b90ff63f8bf7c3647c6ba13f85fe445037128406ce6f98d36f7354adbbdb", func := "hanaper/hanaperlaw17.VaultTells", spec := "vaultTells", inPlace := ["internal/bytealg.abigen_runtime_cmpstring"], unfollowed := true, recurses := true, apart := false }
def VaultTellsSaid : Prop := vaultTellsRow.holds Try.pinned (OpenSpec.ofChange vaultTellsSpec)

/-- ITS FALSE NEIGHBOUR: 'it returns false'. Refute it at one input. -/
def vaultTellsWrong : ChangeSpec := { name := "vaultTells", fn := fun _ => fun
  | [d1, d2] => { results := [.lit (.bool false)], args := [d1, d2] }
  | _ => none }
def VaultTellsWrongFalsely : Prop := vaultTellsRow.holds Try.pinned (OpenSpec.ofChange vaultTellsWrong)

/- THE SECOND FORM. 'bulk': how many values and letters a reading holds, each counted each time it is reached (what is shared counts as often as it is met; a slice's spare places count too). A statement '..UptoSaid' is the law's where the arguments, and the package variables that the reading takes, are together of bulk at most 1048576: NARROWER than '..Said'. Prove '..Said' where nothing that the law and all that it calls make is longer than what came in: it says more and counts as full. Else prove '..UptoSaid'. A law counts once. -/
mutual
def uptoBulk {H : Type} : DataW H → Nat
  | .lit (.string bytes) => bytes.length + 1
  | .lit _ => 1
  | .nil => 1
  | .ptr d => uptoBulk d + 1
  | .slice elems spare => uptoBulkAll elems + uptoBulkAll spare + 1
  | .agg parts => uptoBulkAll parts + 1
  | .iface _ d => uptoBulk d + 1
  | .map entries => uptoBulkEntries entries + 1
  | .held _ => 1
def uptoBulkAll {H : Type} : List (DataW H) → Nat
  | [] => 0
  | d :: r => uptoBulk d + uptoBulkAll r
def uptoBulkEntries {H : Type} : List (Lit × DataW H) → Nat
  | [] => 0
  | x :: r => uptoBulkEntry x + uptoBulkEntries r
def uptoBulkEntry {H : Type} : Lit × DataW H → Nat
  | (.string bytes, d) => bytes.length + uptoBulk d + 1
  | (_, d) => uptoBulk d + 1
 end
def uptoSmall : (H : Type) → List (DataW H) → Bool := fun _ ds => decide (uptoBulkAll ds ≤ 1048576)
def OpenSpec.upto (s : _root_.Go.ChangeSpec) : _root_.Go.OpenSpec := { _root_.Go.OpenSpec.ofChange s with cond := some uptoSmall }

/-- 'hanaperlaw17.VaultTwice', WHERE WHAT IT READS IS OF BULK AT MOST 1048576: true; the input reads as it did. -/
def vaultTwiceUptoRow : OpenClaim := { program := "ytphfkbagjpcmpaa", sum := "9759b90ff63f8bf7c3647c6ba13f85fe445037128406ce6f98d36f7354adbbdb", func := "hanaper/hanaperlaw17.VaultTwice", spec := "vaultTwice", inPlace := ["internal/bytealg.abigen_runtime_cmpstring"], unfollowed := true, recurses := true, apart := false, narrowed := true }
def VaultTwiceUptoSaid : Prop := vaultTwiceUptoRow.holds Try.pinned (OpenSpec.upto vaultTwiceSpec)

/-- 'hanaperlaw17.VaultErrors', WHERE WHAT IT READS IS OF BULK AT MOST 1048576: true; the input reads as it did. -/
def vaultErrorsUptoRow : OpenClaim := { program := "ytphfkbagjpcmpaa", sum := "9759b90ff63f8bf7c3647c6ba13f85fe445037128406ce6f98d36f7354adbbdb", func := "hanaper/hanaperlaw17.VaultErrors", spec := "vaultErrors", inPlace := ["internal/bytealg.abigen_runtime_cmpstring"], unfollowed := true, recurses := true, apart := false, narrowed := true }
def VaultErrorsUptoSaid : Prop := vaultErrorsUptoRow.holds Try.pinned (OpenSpec.upto vaultErrorsSpec)

/-- 'hanaperlaw17.VaultPuts', WHERE WHAT IT READS IS OF BULK AT MOST 1048576: true; the input reads as it did. -/
def vaultPutsUptoRow : OpenClaim := { program := "ytphfkbagjpcmpaa", sum := "9759b90ff63f8bf7c3647c6ba13f85fe445037128406ce6f98d36f7354adbbdb", func := "hanaper/hanaperlaw17.VaultPuts", spec := "vaultPuts", inPlace := ["internal/bytealg.abigen_runtime_cmpstring"], unfollowed := true, recurses := true, apart := false, narrowed := true }
def VaultPutsUptoSaid : Prop := vaultPutsUptoRow.holds Try.pinned (OpenSpec.upto vaultPutsSpec)

/-- 'hanaperlaw17.VaultPrunes', WHERE WHAT IT READS IS OF BULK AT MOST 1048576: true; the input reads as it did. -/
def vaultPrunesUptoRow : OpenClaim := { program := "ytphfkbagjpcmpaa", sum := "9759b90ff63f8bf7c3647c6ba13f85fe445037128406ce6f98d36f7354adbbdb", func := "hanaper/hanaperlaw17.VaultPrunes", spec := "vaultPrunes", inPlace := ["internal/bytealg.abigen_runtime_cmpstring"], unfollowed := true, recurses := true, apart := false, narrowed := true }
def VaultPrunesUptoSaid : Prop := vaultPrunesUptoRow.holds Try.pinned (OpenSpec.upto vaultPrunesSpec)

/-- 'hanaperlaw17.VaultParts', WHERE WHAT IT READS IS OF BULK AT MOST 1048576: true; the input reads as it did. -/
def vaultPartsUptoRow : OpenClaim := { program := "ytphfkbagjpcmpaa", sum := "9759b90ff63f8bf7c3647c6ba13f85fe445037128406ce6f98d36f7354adbbdb", func := "hanaper/hanaperlaw17.VaultParts", spec := "vaultParts", inPlace := ["internal/bytealg.abigen_runtime_cmpstring"], unfollowed := true, recurses := true, apart := false, narrowed := true }
def VaultPartsUptoSaid : Prop := vaultPartsUptoRow.holds Try.pinned (OpenSpec.upto vaultPartsSpec)

/-- 'hanaperlaw17.VaultOnce', WHERE WHAT IT READS IS OF BULK AT MOST 1048576: true; the input reads as it did. -/
def vaultOnceUptoRow : OpenClaim := { program := "ytphfkbagjpcmpaa", sum := "9759b90ff63f8bf7c3647c6ba13f85fe445037128406ce6f98d36f7354adbbdb", func := "hanaper/hanaperlaw17.VaultOnce", spec := "vaultOnce", inPlace := ["internal/bytealg.abigen_runtime_cmpstring"], unfollowed := true, recurses := true, apart := false, narrowed := true }
def VaultOnceUptoSaid : Prop := vaultOnceUptoRow.holds Try.pinned (OpenSpec.upto vaultOnceSpec)

/-- 'hanaperlaw17.VaultTells', WHERE WHAT IT READS IS OF BULK AT MOST 1048576: true; the input reads as it did. -/
def vaultTellsUptoRow : OpenClaim := { program := "ytphfkbagjpcmpaa", sum := "9759b90ff63f8bf7c3647c6ba13f85fe445037128406ce6f98d36f7354adbbdb", func := "hanaper/hanaperlaw17.VaultTells", spec := "vaultTells", inPlace := ["internal/bytealg.abigen_runtime_cmpstring"], unfollowed := true, recurses := true, apart := false, narrowed := true }
def VaultTellsUptoSaid : Prop := vaultTellsUptoRow.holds Try.pinned (OpenSpec.upto vaultTellsSpec)

end Rows
end Go.Proofs.Ytphfkbagjpcmpaa
