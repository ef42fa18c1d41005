import Derived.Test.YtpjacnialnlilaaFwPre21
set_option linter.unusedSimpArgs false
set_option linter.unusedVariables false
set_option maxRecDepth 4000
namespace Go.Fw
open Go.Proofs Go.RowKit
/-! Small numbers as arguments; lengths without an error. -/
def u16E (i : Int) : List Value := [.int .u16 i]
theorem u16E_len (i : Int) : (u16E i).length = 1 := rfl
theorem u16E_pl (i : Int) : (u16E i).all plainV = true := rfl
def u16Ok (i : Int) : Prop := 0 ≤ i ∧ i ≤ 65535
theorem u16E_dec {H : Type} {enc : TypeId × Value → H} {w : World} {held : Bool} (n : Nat) (cs : List Value) (y : DataW H × List MemPlace) (h : DataW.trod enc Try.prog w 0 (fun _ => true) held n 30 cs = some y) : ∃ a, cs = u16E a ∧ u16Ok a := by
  obtain ⟨a, e0, _, w0⟩ := DataW.trod_int Try.underlying30 h
  refine ⟨a, e0, ?_⟩
  have := w0
  simp [Lit.wf, IntKind.min, IntKind.max, IntKind.bits, IntKind.signed] at this
  unfold u16Ok
  omega
theorem u16E_at (l : List Int) (i : Nat) (x : Int) (h : l[i]? = some x) : (l.flatMap u16E)[i]? = some (.int .u16 x) := by
  have := flatMap_at (encE := u16E) (sz := 1) l (fun y _ => rfl) i 0 (by decide)
  rw [Nat.mul_one, Nat.add_zero, h] at this
  exact this
theorem hok_of {f : List Int} {L : Nat} (hf : ∀ x ∈ f, 0 ≤ x ∧ x ≤ 1048576) (hu : usedN f ≤ 2 ^ L) : HOk 20 f L := ⟨fun x hx => (hf x hx).1, fun x hx => (hf x hx).2, hu⟩
theorem lengthsP_of {f : List Int} {L : Nat} (hf : ∀ x ∈ f, 0 ≤ x ∧ x ≤ 1048576) (hn : f.length ≤ 300) (h1 : 1 ≤ L) (h15 : L ≤ 15) (hu : usedN f ≤ 2 ^ L) : lengthsP f L = (lenF 20 f L, 0) := by
  unfold lengthsP
  rw [if_neg (by omega), if_neg (no_bad hf), Int.toNat_natCast, if_neg (by omega)]
end Go.Fw
