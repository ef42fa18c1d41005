import Derived.Test.YtmfccnnkolegmaaFw36
/-! Drawn regions whose heavy operations have guards: these must hold. -/
set_option linter.unusedSimpArgs false
set_option linter.unusedVariables false
namespace Go.Fw
open Go.RowKit
section
variable {P : Program} {w0 : World} {n0 n N : Nat} {nr : Bool} {Q : Exit → Act → St → Prop} {ops : Array Oper} {cs : List Cert} {ρ : Nat → Value} {ds : List Deferred} {H : List St} {X : List (Nat × Nat)}
structure CertG (X : List (Nat × Nat)) (ops : Array Oper) (cs : List Cert) (i : Nat) (o : Oper) (c : Cert) : Prop where
  anc : ancGo X ops i o [] c.anc = true
  lev : ∀ k, loC cs i ≤ k → k ≤ hiC cs i → k ∈ c.lev
  heavy : c.heavy = true → loC cs i = hiC cs i ∧ c.lev = [loC cs i]
end
end Go.Fw
