import Derived.Test.YtphfkbagjpcmpaaFwVault6
import Derived.Test.YtphfkbagjpcmpaaFw36
set_option linter.unusedSimpArgs false
set_option linter.unusedVariables false
namespace Go.Fw
open Go.Proofs Go.RowKit
def VOp.okA (o : VOp) : Prop := 0 ≤ o.id ∧ o.id < 4294967296 ∧ o.v.ok
def ReqT.okA (r : ReqT) : Prop := 0 ≤ r.seq ∧ r.seq < 4294967296 ∧ r.op.okA
theorem vrl_of {φ : Nat → Option Loc} {n : Nat} {ac cs : List Value} (h : VR φ n (.agg ac.toArray) (.agg cs.toArray)) : VRL φ n ac cs := by
  generalize h1 : ac.toArray = a at h
  generalize h2 : cs.toArray = c at h
  cases h with
  | agg _ _ hc hc' =>
    subst h1; subst h2
    exact ⟨by simpa using hc, fun i x y hx hy => hc' i x y (by simpa using hx) (by simpa using hy)⟩
theorem vrl_two {φ : Nat → Option Loc} {n : Nat} {a b : Value} {ac cs : List Value} (ha : VR φ n a a) (hb : VR φ n b b) (h : VRL φ n ac cs) : VRL φ n (a :: b :: ac) (a :: b :: cs) := by
  refine ⟨by simp [h.1], fun i x y hx hy => ?_⟩
  match i with
  | 0 => cases hx; cases hy; exact ha
  | 1 => cases hx; cases hy; exact hb
  | i + 2 => exact h.2 i x y (by simpa using hx) (by simpa using hy)
theorem start_op {w : World} {H : Type} {enc : TypeId × Value → H} {held : Bool} {φ : Nat → Option Loc} {A : St} (cs : List Value) (fuel : Nat) (x : DataW H × List MemPlace) (h : Start w φ A) (ht : DataW.trod enc Try.prog w 0 (fun _ => true) held fuel 30 cs = some x) :
    ∃ (φ' : Nat → Option Loc) (A' : St) (ac : List Value) (o : VOp), Start w φ' A' ∧ Ext A.next φ φ' ∧ Over A A' ∧ VRL φ' A'.next ac cs ∧ VOpC A' o ac ∧ ac.length = 6 ∧ o.okA := by
  obtain ⟨xs, m, _, _, hl, hxl, hf⟩ := DataW.trod_struct Try.underlying30 ht
  rw [show Try.prog.cellsOf 30 = 6 by kernel_rfl] at hl
  match cs, hl, xs, hxl with
  | [a, b, c, d, e, f], _, [y0, y1, y2], _ =>
    have h0 := hf 0 _ rfl
    have h1 := hf 1 _ rfl
    have h2 := hf 2 _ rfl
    change DataW.trod enc Try.prog w 0 (fun _ => true) held m 3 (([a, b, c, d, e, f].drop 0).take (Try.prog.cellsOf 3)) = _ at h0
    change DataW.trod enc Try.prog w 0 (fun _ => true) held m 23 (([a, b, c, d, e, f].drop 1).take (Try.prog.cellsOf 23)) = _ at h1
    change DataW.trod enc Try.prog w 0 (fun _ => true) held m 28 (([a, b, c, d, e, f].drop 2).take (Try.prog.cellsOf 28)) = _ at h2
    rw [show Try.prog.cellsOf 3 = 1 by kernel_rfl] at h0
    rw [show Try.prog.cellsOf 23 = 1 by kernel_rfl] at h1
    rw [show Try.prog.cellsOf 28 = 4 by kernel_rfl] at h2
    obtain ⟨i0, e0, _, w0⟩ := DataW.trod_int Try.underlying3 h0
    obtain ⟨i1, e1, _, w1⟩ := DataW.trod_int Try.underlying23 h1
    injection e0 with e0
    injection e1 with e1
    subst e0; subst e1
    obtain ⟨φ1, A1, v1, V, s1, x1, o1, r1, view1, ok1⟩ := start_ver h (enc := enc) h2
    obtain ⟨vc, rfl, hvc⟩ := view1.cells
    exact ⟨φ1, A1, .int .i64 i0 :: .int .u32 i1 :: vc, ⟨i0, i1, V⟩, s1, x1, o1, vrl_two (.int _ _) (.int _ _) (vrl_of r1), ⟨vc, rfl, hvc⟩, by rw [List.length_cons, List.length_cons, hvc.len], (wf_u32 w1).1, (wf_u32 w1).2, ok1⟩
theorem start_reqC {w : World} {H : Type} {enc : TypeId × Value → H} {held : Bool} {φ : Nat → Option Loc} {A : St} (cs : List Value) (fuel : Nat) (x : DataW H × List MemPlace) (h : Start w φ A) (ht : DataW.trod enc Try.prog w 0 (fun _ => true) held fuel 32 cs = some x) :
    ∃ (φ' : Nat → Option Loc) (A' : St) (ac : List Value) (r : ReqT), Start w φ' A' ∧ Ext A.next φ φ' ∧ Over A A' ∧ VRL φ' A'.next ac cs ∧ ReqC A' r ac ∧ ac.length = 8 ∧ r.okA := by
  obtain ⟨xs, m, _, _, hl, hxl, hf⟩ := DataW.trod_struct Try.underlying32 ht
  rw [show Try.prog.cellsOf 32 = 8 by kernel_rfl] at hl
  match cs, hl, xs, hxl with
  | [a, b, c, d, e, f, g, k], _, [y0, y1, y2], _ =>
    have h0 := hf 0 _ rfl
    have h1 := hf 1 _ rfl
    have h2 := hf 2 _ rfl
    change DataW.trod enc Try.prog w 0 (fun _ => true) held m 3 (([a, b, c, d, e, f, g, k].drop 0).take (Try.prog.cellsOf 3)) = _ at h0
    change DataW.trod enc Try.prog w 0 (fun _ => true) held m 23 (([a, b, c, d, e, f, g, k].drop 1).take (Try.prog.cellsOf 23)) = _ at h1
    change DataW.trod enc Try.prog w 0 (fun _ => true) held m 30 (([a, b, c, d, e, f, g, k].drop 2).take (Try.prog.cellsOf 30)) = _ at h2
    rw [show Try.prog.cellsOf 3 = 1 by kernel_rfl] at h0
    rw [show Try.prog.cellsOf 23 = 1 by kernel_rfl] at h1
    rw [show Try.prog.cellsOf 30 = 6 by kernel_rfl] at h2
    obtain ⟨i0, e0, _, w0⟩ := DataW.trod_int Try.underlying3 h0
    obtain ⟨i1, e1, _, w1⟩ := DataW.trod_int Try.underlying23 h1
    injection e0 with e0
    injection e1 with e1
    subst e0; subst e1
    obtain ⟨φ1, A1, oc, o, s1, x1, o1, r1, view1, l1, ok1⟩ := start_op _ _ _ h h2
    exact ⟨φ1, A1, .int .i64 i0 :: .int .u32 i1 :: oc, ⟨i0, i1, o⟩, s1, x1, o1, vrl_two (.int _ _) (.int _ _) r1, ⟨oc, rfl, view1⟩, by rw [List.length_cons, List.length_cons, l1], (wf_u32 w1).1, (wf_u32 w1).2, ok1⟩
def VOpV (A : St) (o : VOp) (v : Value) : Prop := ∃ oc, v = .agg oc.toArray ∧ VOpC A o oc
def ReqV (A : St) (r : ReqT) (v : Value) : Prop := ∃ rc, v = .agg rc.toArray ∧ ReqC A r rc
def RqA (A : St) (l : List ReqT) (v : Value) : Prop := RqV A l v ∧ SlOk 8 v
theorem start_vop {w : World} {φ : Nat → Option Loc} {A : St} (h : Start w φ A) {H : Type} {enc : TypeId × Value → H} {held : Bool} {fuel : Nat} {cs : List Value} {x : DataW H × List MemPlace} (ht : DataW.trod enc Try.prog w 0 (fun _ => true) held fuel 30 cs = some x) :
    ∃ (φ' : Nat → Option Loc) (A' : St) (v' : Value) (o : VOp), Start w φ' A' ∧ Ext A.next φ φ' ∧ Over A A' ∧ VR φ' A'.next v' (.agg cs.toArray) ∧ VOpV A' o v' ∧ o.okA := by
  obtain ⟨φ1, A1, oc, o, s1, x1, o1, r1, view1, l1, ok1⟩ := start_op cs fuel x h ht
  exact ⟨φ1, A1, _, o, s1, x1, o1, r1.agg, ⟨oc, rfl, view1⟩, ok1⟩
theorem start_req {w : World} {φ : Nat → Option Loc} {A : St} (h : Start w φ A) {H : Type} {enc : TypeId × Value → H} {held : Bool} {fuel : Nat} {cs : List Value} {x : DataW H × List MemPlace} (ht : DataW.trod enc Try.prog w 0 (fun _ => true) held fuel 32 cs = some x) :
    ∃ (φ' : Nat → Option Loc) (A' : St) (v' : Value) (r : ReqT), Start w φ' A' ∧ Ext A.next φ φ' ∧ Over A A' ∧ VR φ' A'.next v' (.agg cs.toArray) ∧ ReqV A' r v' ∧ r.okA := by
  obtain ⟨φ1, A1, oc, o, s1, x1, o1, r1, view1, l1, ok1⟩ := start_reqC cs fuel x h ht
  exact ⟨φ1, A1, _, o, s1, x1, o1, r1.agg, ⟨oc, rfl, view1⟩, ok1⟩
theorem start_reqs {w : World} {φ : Nat → Option Loc} {A : St} (h : Start w φ A) {H : Type} {enc : TypeId × Value → H} {held : Bool} {fuel : Nat} {v : Value} {x : DataW H × List MemPlace} (ht : DataW.trod enc Try.prog w 0 (fun _ => true) held fuel 22 [v] = some x) :
    ∃ (φ' : Nat → Option Loc) (A' : St) (v' : Value) (l : List ReqT), Start w φ' A' ∧ Ext A.next φ φ' ∧ Over A A' ∧ VR φ' A'.next v' v ∧ RqA A' l v' ∧ ((∀ r ∈ l, r.okA) ∧ l.length ≤ maxLen) := by
  obtain ⟨φ1, A1, v1, l, s1, x1, o1, r1, view1, ok1, len1, sl1⟩ := h.argN (enc := enc) (sz := 8) ReqC ReqT.okA (by kernel_rfl) (by decide) Try.underlying22 (fun A A' t cs h g => h.ge g)
    (fun n cs y hy => by
      obtain ⟨xs, m, _, _, hl, _⟩ := DataW.trod_struct Try.underlying32 hy
      exact hl.trans (by kernel_rfl))
    (fun φ A cs n y hs hy => start_reqC cs n y hs hy) ht
  exact ⟨φ1, A1, v1, l, s1, x1, o1, r1, ⟨view1, sl1⟩, ok1, len1⟩
end Go.Fw
