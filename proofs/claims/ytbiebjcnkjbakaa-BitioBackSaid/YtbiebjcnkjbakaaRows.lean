/-
  No cell of these rows narrows 'for every input' (looked for: loops, veiled, ifaces, maps, wideKeys, modest, calm, conditions, laid).
  DERIVED. THE GIVEN ROWS OF THIS SEAT. 5 by the template 'for every input the law returns true; each argument reads behind the call as it read before'; 0 by the template 'total and deterministic' (their statements: YtbiebjcnkjbakaaTotals.lean).
  GIVEN WITH THE SEED: the statements are not yours to turn. If you find one false, say at which input.
  Laid BY PROGRAM, IN A SANDBOX (cutbox-rows.mjs): the forced cells as the released guide's own fill.sh prints them over the translation eae6dd0c5de3af6e… (all of the seat's roots in one cut). By AI agents, Wed Nov 11 2026. No macro, syntax, notation, axiom, sorry.
-/
import Derived.Test.YtbiebjcnkjbakaaChecked
import GoSem.Claim
import GoSem.ClaimJoined
import GoSem.ClaimMapViews
import Derived.JoinedTies
import Derived.KernelRfl
namespace Go.Proofs.Ytbiebjcnkjbakaa
/- THE CELL 'sum', in the pinned program and in every row, IS THE sha256 OF THE DUMP (.gsa) THAT YtbiebjcnkjbakaaProg.lean LOADS. Nothing in Lean hashes anything: it is a label: what it is worth is what the hold of that sum in a sandbox is worth. -/
noncomputable def Try.pinned : Pinned := { name := "ytbiebjcnkjbakaa", sum := "eae6dd0c5de3af6e26606f4c7dc1ae80c0565b69c0a6acabd6260f0a3675ad28", checked := Try.checked }
namespace Rows
def none {H : Type} : Left H := { results := [], args := [] }

/-- 'hanaperlaw06.BitioPacks': WHATEVER THE INPUT: true; the input reads as it did. -/
def bitioPacksSpec : ChangeSpec := { name := "bitioPacks", fn := fun _ => fun
  | [d] => { results := [.lit (.bool true)], args := [d] }
  | _ => none }
def bitioPacksRow : OpenClaim := { program := "ytbiebjcnkjbakaa", sum := "eae6dd0c5de3af6e26606f4c7dc1ae80c0565b69c0a6acabd6260f0a3675ad28", func := "hanaper/hanaperlaw06.BitioPacks", spec := "bitioPacks", unfollowed := true, recurses := true, apart := false }
def BitioPacksSaid : Prop := bitioPacksRow.holds Try.pinned (OpenSpec.ofChange bitioPacksSpec)

/-- ITS FALSE NEIGHBOUR: 'it returns false'. Refute it at one input. -/
def bitioPacksWrong : ChangeSpec := { name := "bitioPacks", fn := fun _ => fun
  | [d] => { results := [.lit (.bool false)], args := [d] }
  | _ => none }
def BitioPacksWrongFalsely : Prop := bitioPacksRow.holds Try.pinned (OpenSpec.ofChange bitioPacksWrong)

/-- 'hanaperlaw06.BitioParts': WHATEVER THE INPUT: true; the input reads as it did. -/
def bitioPartsSpec : ChangeSpec := { name := "bitioParts", fn := fun _ => fun
  | [d1, d2] => { results := [.lit (.bool true)], args := [d1, d2] }
  | _ => none }
def bitioPartsRow : OpenClaim := { program := "ytbiebjcnkjbakaa", sum := "eae6dd0c5de3af6e26606f4c7dc1ae80c0565b69c0a6acabd6260f0a3675ad28", func := "hanaper/hanaperlaw06.BitioParts", spec := "bitioParts", unfollowed := true, recurses := true, apart := false }
def BitioPartsSaid : Prop := bitioPartsRow.holds Try.pinned (OpenSpec.ofChange bitioPartsSpec)

/-- ITS FALSE NEIGHBOUR: 'it returns false'. Refute it at one input. -/
def bitioPartsWrong : ChangeSpec := { name := "bitioParts", fn := fun _ => fun
  | [d1, d2] => { results := [.lit (.bool false)], args := [d1, d2] }
  | _ => none }
def BitioPartsWrongFalsely : Prop := bitioPartsRow.holds Try.pinned (OpenSpec.ofChange bitioPartsWrong)

/-- 'hanaperlaw06.BitioBits': WHATEVER THE INPUT: true; the input reads as it did. -/
def bitioBitsSpec : ChangeSpec := { name := "bitioBits", fn := fun _ => fun
  | [d1, d2, d3] => { results := [.lit (.bool true)], args := [d1, d2, d3] }
  | _ => none }
def bitioBitsRow : OpenClaim := { program := "ytbiebjcnkjbakaa", sum := "eae6dd0c5de3af6e26606f4c7dc1ae80c0565b69c0a6acabd6260f0a3675ad28", func := "hanaper/hanaperlaw06.BitioBits", spec := "bitioBits", unfollowed := true, recurses := true, apart := false }
def BitioBitsSaid : Prop := bitioBitsRow.holds Try.pinned (OpenSpec.ofChange bitioBitsSpec)

/-- ITS FALSE NEIGHBOUR: 'it returns false'. Refute it at one input. -/
def bitioBitsWrong : ChangeSpec := { name := "bitioBits", fn := fun _ => fun
  | [d1, d2, d3] => { results := [.lit (.bool false)], args := [d1, d2, d3] }
  | _ => none }
def BitioBitsWrongFalsely : Prop := bitioBitsRow.holds Try.pinned (OpenSpec.ofChange bitioBitsWrong)

/-- 'hanaperlaw06.BitioTakes': WHATEVER THE INPUT: true; the input reads as it did. -/
def bitioTakesSpec : ChangeSpec := { name := "bitioTakes", fn := fun _ => fun
  | [d1, d2] => { results := [.lit (.bool true)], args := [d1, d2] }
  | _ => none }
def bitioTakesRow : OpenClaim := { program := "ytbiebjcnkjbakaa", sum := "eae6dd0c5de3af6e26606f4c7dc1ae80c0565b69c0a6acabd6260f0a3675ad28", func := "hanaper/hanaperlaw06.BitioTakes", spec := "bitioTakes", unfollowed := true, recurses := true, apart := false }
def BitioTakesSaid : Prop := bitioTakesRow.holds Try.pinned (OpenSpec.ofChange bitioTakesSpec)

/-- ITS FALSE NEIGHBOUR: 'it returns false'. Refute it at one input. -/
def bitioTakesWrong : ChangeSpec := { name := "bitioTakes", fn := fun _ => fun
  | [d1, d2] => { results := [.lit (.bool false)], args := [d1, d2] }
  | _ => none }
def BitioTakesWrongFalsely : Prop := bitioTakesRow.holds Try.pinned (OpenSpec.ofChange bitioTakesWrong)

/-- 'hanaperlaw06.BitioBack': WHATEVER THE INPUT: true; the input reads as it did. -/
def bitioBackSpec : ChangeSpec := { name := "bitioBack", fn := fun _ => fun
  | [d] => { results := [.lit (.bool true)], args := [d] }
  | _ => none }
def bitioBackRow : OpenClaim := { program := "ytbiebjcnkjbakaa", sum := "eae6dd0c5de3af6e26606f4c7dc1ae80c0565b69c0a6acabd6260f0a3675ad28", func := "hanaper/hanaperlaw06.BitioBack", spec := "bitioBack", unfollowed := true, recurses := true, apart := false }
def BitioBackSaid : Prop := bitioBackRow.holds Try.pinned (OpenSpec.ofChange bitioBackSpec)

/-- ITS FALSE NEIGHBOUR: 'it returns false'. Refute it at one input. -/
def bitioBackWrong : ChangeSpec := { name := "bitioBack", fn := fun _ => fun
  | [d] => { results := [.lit (.bool false)], args := [d] }
  | _ => none }
def BitioBackWrongFalsely : Prop := bitioBackRow.holds Try.pinned (OpenSpec.ofChange bitioBackWrong)

/- THE SECOND FORM. 'bulk': how many values and letters a reading holds, each counted each time it is reached (what is shared counts as often as it is met; a slice's spare places count too). A statement '..UptoSaid' is the law's where the arguments, and the package variables that the reading takes, are together of bulk at most 1048576: NARROWER than '..Said'. Prove '..Said' where nothing that the law and all that it calls make is longer than what came in: it says more and counts as full. Else prove '..UptoSaid'. A law counts once. -/
mutual
def uptoBulk {H : Type} : DataW H → Nat
  | .lit (.string bytes) => bytes.length + 1
  | .lit _ => 1
  | .nil => 1
  | .ptr d => uptoBulk d + 1
  | .slice elems spare => uptoBulkAll elems + uptoBulkAll spare + 1
  | .agg parts => uptoBulkAll parts + 1
  | .iface _ d => uptoBulk d + 1
  | .map entries => uptoBulkEntries entries + 1
  | .held _ => 1
def uptoBulkAll {H : Type} : List (DataW H) → Nat
  | [] => 0
  | d :: r => uptoBulk d + uptoBulkAll r
def uptoBulkEntries {H : Type} : List (Lit × DataW H) → Nat
  | [] => 0
  | x :: r => uptoBulkEntry x + uptoBulkEntries r
def uptoBulkEntry {H : Type} : Lit × DataW H → Nat
  | (.string bytes, d) => bytes.length + uptoBulk d + 1
  | (_, d) => uptoBulk d + 1
 end
def uptoSmall : (H : Type) → List (DataW H) → Bool := fun _ ds => decide (uptoBulkAll ds ≤ 1048576)
def OpenSpec.upto (s : _root_.Go.ChangeSpec) : _root_.Go.OpenSpec := { _root_.Go.OpenSpec.ofChange s with cond := some uptoSmall }

/-- 'hanaperlaw06.BitioPacks', WHERE WHAT IT READS IS OF BULK AT MOST 1048576: true; the input reads as it did. -/
def bitioPacksUptoRow : OpenClaim := { program := "ytbiebjcnkjbakaa", sum := "eae6dd0c5de3af6e26606f4c7dc1ae80c0565b69c0a6acabd6260f0a3675ad28", func := "hanaper/hanaperlaw06.BitioPacks", spec := "bitioPacks", unfollowed := true, recurses := true, apart := false, narrowed := true }
def BitioPacksUptoSaid : Prop := bitioPacksUptoRow.holds Try.pinned (OpenSpec.upto bitioPacksSpec)

/-- 'hanaperlaw06.BitioParts', WHERE WHAT IT READS IS OF BULK AT MOST 1048576: true; the input reads as it did. -/
def bitioPartsUptoRow : OpenClaim := { program := "ytbiebjcnkjbakaa", sum := "eae6dd0c5de3af6e26606f4c7dc1ae80c0565b69c0a6acabd6260f0a3675ad28", func := "hanaper/hanaperlaw06.BitioParts", spec := "bitioParts", unfollowed := true, recurses := true, apart := false, narrowed := true }
def BitioPartsUptoSaid : Prop := bitioPartsUptoRow.holds Try.pinned (OpenSpec.upto bitioPartsSpec)

/-- 'hanaperlaw06.BitioBits', WHERE WHAT IT READS IS OF BULK AT MOST 1048576: true; the input reads as it did. -/
def bitioBitsUptoRow : OpenClaim := { program := "ytbiebjcnkjbakaa", sum := "eae6dd0c5de3af6e26606f4c7dc1ae80c0565b69c0a6acabd6260f0a3675ad28", func := "hanaper/hanaperlaw06.BitioBits", spec := "bitioBits", unfollowed := true, recurses := true, apart := false, narrowed := true }
def BitioBitsUptoSaid : Prop := bitioBitsUptoRow.holds Try.pinned (OpenSpec.upto bitioBitsSpec)

/-- 'hanaperlaw06.BitioTakes', WHERE WHAT IT READS IS OF BULK AT MOST 1048576: true; the input reads as it did. -/
def bitioTakesUptoRow : OpenClaim := { program := "ytbiebjcnkjbakaa", sum := "eae6dd0c5de3af6e26606f4c7dc1ae80c0565b69c0a6acabd6260f0a3675ad28", func := "hanaper/hanaperlaw06.BitioTakes", spec := "bitioTakes", unfollowed := true, recurses := true, apart := false, narrowed := true }
def BitioTakesUptoSaid : Prop := bitioTakesUptoRow.holds Try.pinned (OpenSpec.upto bitioTakesSpec)

/-- 'hanaperlaw06.BitioBack', WHERE WHAT IT READS IS OF BULK AT MOST 1048576: true; the input reads as it did. -/
def bitioBackUptoRow : OpenClaim := { program := "ytbiebjcnkjbakaa", sum := "eae6dd0c5de3af6e26606f4c7dc1ae80c0565b69c0a6acabd6260f0a3675ad28", func := "hanaper/hanaperlaw06.BitioBack", spec := "bitioBack", unfollowed := true, recurses := true, apart := false, narrowed := true }
def BitioBackUptoSaid : Prop := bitioBackUptoRow.holds Try.pinned (OpenSpec.upto bitioBackSpec)

end Rows
end Go.Proofs.Ytbiebjcnkjbakaa
