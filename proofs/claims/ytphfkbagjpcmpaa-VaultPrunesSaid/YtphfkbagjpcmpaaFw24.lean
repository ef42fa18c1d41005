import Derived.Test.YtphfkbagjpcmpaaFw23
/-! Deferred Go functions, in the walk's form. -/
set_option linter.unusedSimpArgs false
set_option linter.unusedVariables false
namespace Go.Fw
open Go.RowKit
section
variable {P : Program} {w0 : World} {A : St}
def leaveK (P : Program) (w0 : World) (fn : Func) (t : Array Value) (R : Ending → St → Prop) (ds : List Deferred) (A' : St) : Prop := aleave P w0 fn t R ds A'
theorem leaveK_eq (fn : Func) (t : Array Value) (R : Ending → St → Prop) (ds : List Deferred) (A' : St) : leaveK P w0 fn t R ds A' = aleave P w0 fn t R ds A' := Eq.trans rfl rfl
def leaveF (P : Program) (w0 : World) (g : Nat) (args : Array Value) (A : St) (K : St → Prop) : Prop := Enters P g ∧ ADef P w0 g args A K
theorem aleave_fn (fn : Func) (t : Array Value) (R : Ending → St → Prop) (g : Nat) (cap args : Array Value) (ds : List Deferred) : aleave P w0 fn t R (⟨.fn (.func g) cap, args⟩ :: ds) A = leaveF P w0 g (args ++ cap) A (leaveK P w0 fn t R ds) := Eq.trans rfl rfl
def deferV (nr b : Bool) (v : Value) (args : Array Value) (a : Act) (A : St) (d : Option Tmp) (next : Act → St → Prop) : Prop :=
  nr = true ∧ b = true ∧ match v with
    | .func (.func g) first cap => next ({ a with defers := ⟨.fn (.func g) cap, first ++ args⟩ :: a.defers }.put d undef) A
    | _ => False
theorem op_defer (nr : Bool) (d : Option Tmp) (ty : TypeId) (pos : String) (aft : Array Edge) (g : Option (Nat × Bool)) (a : Act) (next : Act → St → Prop) (Q : Exit → Act → St → Prop) (f : Operand) (args : Array Operand) (ts : Array TypeId) :
    aoper P w0 nr ⟨d, .defer { callee := .value f, args, argTypes := ts }, ty, pos, aft, g⟩ a A next Q = deferV nr (okO f && args.all okO) (a.eval f) (args.map a.eval) a A d next := Eq.trans rfl rfl
theorem deferV_func (n : Nat) (ρ : Nat → Value) (ds : List Deferred) (g : Nat) (fs cs args : Array Value) (next : Act → St → Prop) (d : Option Tmp) : deferV true true (.func (.func g) fs cs) args (E n ρ ds) A d next = next ((E n ρ (⟨.fn (.func g) cs, fs ++ args⟩ :: ds)).put d undef) A := by
  simp [deferV]; rfl
def defQ (P : Program) (fn : Func) (R : St → Prop) (e : Exit) (a' : Act) (A' : St) : Prop := (e = .normal ∨ e = .ret) ∧ a'.defers = [] ∧ ∃ v, aresults P fn A' a'.tmps = some v ∧ R A'
def resK (o : Option Value) (R : St → Prop) (A' : St) : Prop := ∃ v, o = some v ∧ R A'
theorem resK_some (v : Value) (R : St → Prop) (A' : St) : resK (some v) R A' = R A' := by simp [resK]
theorem defQ_ret (fn : Func) (R : St → Prop) (n : Nat) (ρ : Nat → Value) (A' : St) : defQ P fn R .ret (E n ρ []) A' = resK (finR (aresL P A' (tm n ρ) fn.results.toList)) R A' := by
  unfold defQ resK
  simp only [or_true, true_and, E_defers, E_tmps]
  rfl
theorem defQ_normal (fn : Func) (R : St → Prop) (n : Nat) (ρ : Nat → Value) (A' : St) : defQ P fn R .normal (E n ρ []) A' = resK (finR (aresL P A' (tm n ρ) fn.results.toList)) R A' := by
  unfold defQ resK
  simp only [true_or, true_and, E_defers, E_tmps]
  rfl
theorem adef_E {f : Nat} {fn : Func} {c : Code} {l : List Value} {R : St → Prop} (hf : P.funcs[f]? = some fn) (hb : fn.body = some c) (hl : l.length ≤ fn.ntmps)
    (h : WF A → BndA A.next l.toArray → wpA P w0 A.next true c (defQ P fn R) (E fn.ntmps (ar l) []) A) : ADef P w0 f l.toArray A R :=
  adef_of hf hb fun hw hbd => by rw [ent_E _ _ hl]; exact aw_of (h hw hbd)
end
end Go.Fw
