import Derived.Test.YtfmbflmknjlefaaFwWire20
import Derived.Test.YtfmbflmknjlefaaFw36
set_option linter.unusedSimpArgs false
set_option linter.unusedVariables false
set_option maxRecDepth 4000
namespace Go.Fw
open Go.Proofs Go.RowKit
def u32Ok (i : Int) : Prop := 0 ≤ i ∧ i < 4294967296
theorem u32E_len (i : Int) : (u32E i).length = 1 := rfl
theorem u32E_pl (i : Int) : (u32E i).all plainV = true := rfl
theorem u32E_dec {H : Type} {enc : TypeId × Value → H} {w : World} {held : Bool} (n : Nat) (cs : List Value) (y : DataW H × List MemPlace) (h : DataW.trod enc Try.prog w 0 (fun _ => true) held n 22 cs = some y) : ∃ a, cs = u32E a ∧ u32Ok a := by
  obtain ⟨i, hi, _, h1⟩ := DataW.trod_int Try.underlying22 h
  exact ⟨i, hi, wf_u32 h1⟩
theorem wf_i64 {i : Int} (h : (Lit.int .i64 i).wf = true) : i64Ok i := by
  simp [Lit.wf, IntKind.min, IntKind.max, IntKind.bits, IntKind.signed] at h
  exact ⟨by omega, by omega⟩
theorem cons_of {n : Nat} {cs : List Value} (h : cs.length = n + 1) : ∃ a r, cs = a :: r ∧ r.length = n := by
  match cs, h with
  | a :: r, h => exact ⟨a, r, rfl, by simpa using h⟩
theorem start_rqs {w : World} {φ : Nat → Option Loc} {A : St} (h : Start w φ A) {H : Type} {enc : TypeId × Value → H} {held : Bool} {fuel : Nat} {v : Value} {x : DataW H × List MemPlace} (ht : DataW.trod enc Try.prog w 0 (fun _ => true) held fuel 37 [v] = some x) :
    ∃ (φ' : Nat → Option Loc) (A' : St) (v' : Value) (l : List ReqT), Start w φ' A' ∧ Ext A.next φ φ' ∧ Over A A' ∧ VR φ' A'.next v' v ∧ RqV A' l v' ∧ (∀ r ∈ l, r.okA) := by
  obtain ⟨φ1, A1, v1, l, s1, x1, o1, r1, view1, ok1, len1, sl1⟩ := h.argN (enc := enc) (sz := 8) ReqC ReqT.okA (by kernel_rfl) (by decide) Try.underlying37 (fun A A' t cs h g => h.ge g)
    (fun n cs y hy => by
      obtain ⟨xs, m, _, _, hl, _⟩ := DataW.trod_struct Try.underlying31 hy
      exact hl.trans (by kernel_rfl))
    (fun φ A cs n y hs hy => start_reqC cs n y hs hy) ht
  exact ⟨φ1, A1, v1, l, s1, x1, o1, r1, view1, ok1⟩
theorem start_rep {w : World} {φ : Nat → Option Loc} {A : St} (h : Start w φ A) {H : Type} {enc : TypeId × Value → H} {held : Bool} {fuel : Nat} {a b c d e f : Value} {x : DataW H × List MemPlace} (ht : DataW.trod enc Try.prog w 0 (fun _ => true) held fuel 41 [a, b, c, d, e, f] = some x) :
    ∃ (φ' : Nat → Option Loc) (A' : St) (i : Int) (b' : Value) (vc : List Value) (R : ReplyT), Start w φ' A' ∧ Ext A.next φ φ' ∧ Over A A' ∧ a = .int .i64 i ∧ R.e = i ∧ VR φ' A'.next b' b ∧ VRL φ' A'.next vc [c, d, e, f] ∧ IdView A' R.ids b' ∧ VerC A' R.v vc ∧ (∀ i ∈ R.ids, u32Ok i) ∧ R.v.ok := by
  obtain ⟨xs, m, _, _, hl, hxl, hf⟩ := DataW.trod_struct Try.underlying41 ht
  match xs, hxl with
  | [y0, y1, y2], _ =>
    have h0 := hf 0 _ rfl
    have h1 := hf 1 _ rfl
    have h2 := hf 2 _ rfl
    change DataW.trod enc Try.prog w 0 (fun _ => true) held m 38 (([a, b, c, d, e, f].drop 0).take (Try.prog.cellsOf 38)) = _ at h0
    change DataW.trod enc Try.prog w 0 (fun _ => true) held m 39 (([a, b, c, d, e, f].drop 1).take (Try.prog.cellsOf 39)) = _ at h1
    change DataW.trod enc Try.prog w 0 (fun _ => true) held m 27 (([a, b, c, d, e, f].drop 2).take (Try.prog.cellsOf 27)) = _ at h2
    rw [show Try.prog.cellsOf 38 = 1 by kernel_rfl] at h0
    rw [show Try.prog.cellsOf 39 = 1 by kernel_rfl] at h1
    rw [show Try.prog.cellsOf 27 = 4 by kernel_rfl] at h2
    obtain ⟨i0, e0, _, w0⟩ := DataW.trod_int Try.underlying38 h0
    injection e0 with e0
    subst e0
    obtain ⟨φ1, A1, v1, l1, s1, x1, o1, r1, view1, ok1, _⟩ := h.arg (enc := enc) (v := b) u32E u32Ok (by kernel_rfl) (by decide) Try.underlying39 u32E_len u32E_pl u32E_dec h1
    obtain ⟨φ2, A2, v2, V, s2, x2, o2, r2, view2, ok2⟩ := start_ver s1 (enc := enc) h2
    obtain ⟨vc, rfl, hvc⟩ := view2.cells
    exact ⟨φ2, A2, i0, v1, vc, ⟨i0, l1, V⟩, s2, x1.trans x2 o1.next, o1.trans o2, rfl, rfl, r1.mono o2.next x2, vrl_of r2, View.over view1 o2, hvc, ok1, ok2⟩
set_option maxHeartbeats 8000000 in
theorem start_msgC {w : World} {H : Type} {enc : TypeId × Value → H} {held : Bool} {φ : Nat → Option Loc} {A : St} (cs : List Value) (fuel : Nat) (x : DataW H × List MemPlace) (h : Start w φ A) (ht : DataW.trod enc Try.prog w 0 (fun _ => true) held fuel 45 cs = some x) :
    ∃ (φ' : Nat → Option Loc) (A' : St) (ac : List Value) (m : MsgT), Start w φ' A' ∧ Ext A.next φ φ' ∧ Over A A' ∧ VRL φ' A'.next ac cs ∧ MsgC A' m ac ∧ m.okA := by
  obtain ⟨xs, mf, _, _, hl, hxl, hf⟩ := DataW.trod_struct Try.underlying45 ht
  rw [show Try.prog.cellsOf 45 = 49 by kernel_rfl] at hl
  obtain ⟨a0, c0, hc0, hl0⟩ := cons_of hl
  obtain ⟨a1, c1, hc1, hl1⟩ := cons_of hl0
  obtain ⟨a2, c2, hc2, hl2⟩ := cons_of hl1
  obtain ⟨a3, c3, hc3, hl3⟩ := cons_of hl2
  obtain ⟨a4, c4, hc4, hl4⟩ := cons_of hl3
  obtain ⟨a5, c5, hc5, hl5⟩ := cons_of hl4
  obtain ⟨a6, c6, hc6, hl6⟩ := cons_of hl5
  obtain ⟨a7, c7, hc7, hl7⟩ := cons_of hl6
  obtain ⟨a8, c8, hc8, hl8⟩ := cons_of hl7
  obtain ⟨a9, c9, hc9, hl9⟩ := cons_of hl8
  obtain ⟨a10, c10, hc10, hl10⟩ := cons_of hl9
  obtain ⟨a11, c11, hc11, hl11⟩ := cons_of hl10
  obtain ⟨a12, c12, hc12, hl12⟩ := cons_of hl11
  obtain ⟨a13, c13, hc13, hl13⟩ := cons_of hl12
  obtain ⟨a14, c14, hc14, hl14⟩ := cons_of hl13
  obtain ⟨a15, rest, hc15, hl15⟩ := cons_of hl14
  subst hc15 hc14 hc13 hc12 hc11 hc10 hc9 hc8 hc7 hc6 hc5 hc4 hc3 hc2 hc1 hc0
  match xs, hxl with
  | [y0, y1, y2, y3, y4, y5, y6, y7, y8, y9, y10, y11, y12], _ =>
    have h0 := hf 0 _ rfl
    change DataW.trod enc Try.prog w 0 (fun _ => true) held mf 3 (((a0 :: a1 :: a2 :: a3 :: a4 :: a5 :: a6 :: a7 :: a8 :: a9 :: a10 :: a11 :: a12 :: a13 :: a14 :: a15 :: rest).drop 0).take (Try.prog.cellsOf 3)) = _ at h0
    rw [show Try.prog.cellsOf 3 = 1 by kernel_rfl] at h0
    have h1 := hf 1 _ rfl
    change DataW.trod enc Try.prog w 0 (fun _ => true) held mf 3 (((a0 :: a1 :: a2 :: a3 :: a4 :: a5 :: a6 :: a7 :: a8 :: a9 :: a10 :: a11 :: a12 :: a13 :: a14 :: a15 :: rest).drop 1).take (Try.prog.cellsOf 3)) = _ at h1
    rw [show Try.prog.cellsOf 3 = 1 by kernel_rfl] at h1
    have h2 := hf 2 _ rfl
    change DataW.trod enc Try.prog w 0 (fun _ => true) held mf 3 (((a0 :: a1 :: a2 :: a3 :: a4 :: a5 :: a6 :: a7 :: a8 :: a9 :: a10 :: a11 :: a12 :: a13 :: a14 :: a15 :: rest).drop 2).take (Try.prog.cellsOf 3)) = _ at h2
    rw [show Try.prog.cellsOf 3 = 1 by kernel_rfl] at h2
    have h3 := hf 3 _ rfl
    change DataW.trod enc Try.prog w 0 (fun _ => true) held mf 22 (((a0 :: a1 :: a2 :: a3 :: a4 :: a5 :: a6 :: a7 :: a8 :: a9 :: a10 :: a11 :: a12 :: a13 :: a14 :: a15 :: rest).drop 3).take (Try.prog.cellsOf 22)) = _ at h3
    rw [show Try.prog.cellsOf 22 = 1 by kernel_rfl] at h3
    have h4 := hf 4 _ rfl
    change DataW.trod enc Try.prog w 0 (fun _ => true) held mf 22 (((a0 :: a1 :: a2 :: a3 :: a4 :: a5 :: a6 :: a7 :: a8 :: a9 :: a10 :: a11 :: a12 :: a13 :: a14 :: a15 :: rest).drop 4).take (Try.prog.cellsOf 22)) = _ at h4
    rw [show Try.prog.cellsOf 22 = 1 by kernel_rfl] at h4
    have h5 := hf 5 _ rfl
    change DataW.trod enc Try.prog w 0 (fun _ => true) held mf 3 (((a0 :: a1 :: a2 :: a3 :: a4 :: a5 :: a6 :: a7 :: a8 :: a9 :: a10 :: a11 :: a12 :: a13 :: a14 :: a15 :: rest).drop 5).take (Try.prog.cellsOf 3)) = _ at h5
    rw [show Try.prog.cellsOf 3 = 1 by kernel_rfl] at h5
    have h6 := hf 6 _ rfl
    change DataW.trod enc Try.prog w 0 (fun _ => true) held mf 3 (((a0 :: a1 :: a2 :: a3 :: a4 :: a5 :: a6 :: a7 :: a8 :: a9 :: a10 :: a11 :: a12 :: a13 :: a14 :: a15 :: rest).drop 6).take (Try.prog.cellsOf 3)) = _ at h6
    rw [show Try.prog.cellsOf 3 = 1 by kernel_rfl] at h6
    have h7 := hf 7 _ rfl
    change DataW.trod enc Try.prog w 0 (fun _ => true) held mf 37 (((a0 :: a1 :: a2 :: a3 :: a4 :: a5 :: a6 :: a7 :: a8 :: a9 :: a10 :: a11 :: a12 :: a13 :: a14 :: a15 :: rest).drop 7).take (Try.prog.cellsOf 37)) = _ at h7
    rw [show Try.prog.cellsOf 37 = 1 by kernel_rfl] at h7
    have h8 := hf 8 _ rfl
    change DataW.trod enc Try.prog w 0 (fun _ => true) held mf 3 (((a0 :: a1 :: a2 :: a3 :: a4 :: a5 :: a6 :: a7 :: a8 :: a9 :: a10 :: a11 :: a12 :: a13 :: a14 :: a15 :: rest).drop 8).take (Try.prog.cellsOf 3)) = _ at h8
    rw [show Try.prog.cellsOf 3 = 1 by kernel_rfl] at h8
    have h9 := hf 9 _ rfl
    change DataW.trod enc Try.prog w 0 (fun _ => true) held mf 22 (((a0 :: a1 :: a2 :: a3 :: a4 :: a5 :: a6 :: a7 :: a8 :: a9 :: a10 :: a11 :: a12 :: a13 :: a14 :: a15 :: rest).drop 9).take (Try.prog.cellsOf 22)) = _ at h9
    rw [show Try.prog.cellsOf 22 = 1 by kernel_rfl] at h9
    have h10 := hf 10 _ rfl
    change DataW.trod enc Try.prog w 0 (fun _ => true) held mf 41 (((a0 :: a1 :: a2 :: a3 :: a4 :: a5 :: a6 :: a7 :: a8 :: a9 :: a10 :: a11 :: a12 :: a13 :: a14 :: a15 :: rest).drop 10).take (Try.prog.cellsOf 41)) = _ at h10
    rw [show Try.prog.cellsOf 41 = 6 by kernel_rfl] at h10
    have h11 := hf 11 _ rfl
    change DataW.trod enc Try.prog w 0 (fun _ => true) held mf 43 (((a0 :: a1 :: a2 :: a3 :: a4 :: a5 :: a6 :: a7 :: a8 :: a9 :: a10 :: a11 :: a12 :: a13 :: a14 :: a15 :: rest).drop 16).take (Try.prog.cellsOf 43)) = _ at h11
    rw [show Try.prog.cellsOf 43 = 32 by kernel_rfl] at h11
    have h12 := hf 12 _ rfl
    change DataW.trod enc Try.prog w 0 (fun _ => true) held mf 9 (((a0 :: a1 :: a2 :: a3 :: a4 :: a5 :: a6 :: a7 :: a8 :: a9 :: a10 :: a11 :: a12 :: a13 :: a14 :: a15 :: rest).drop 48).take (Try.prog.cellsOf 9)) = _ at h12
    rw [show Try.prog.cellsOf 9 = 1 by kernel_rfl] at h12
    obtain ⟨i0, e0, _, w0⟩ := DataW.trod_int Try.underlying3 h0
    injection e0 with e0
    subst e0
    obtain ⟨i1, e1, _, w1⟩ := DataW.trod_int Try.underlying3 h1
    injection e1 with e1
    subst e1
    obtain ⟨i2, e2, _, w2⟩ := DataW.trod_int Try.underlying3 h2
    injection e2 with e2
    subst e2
    obtain ⟨i3, e3, _, w3⟩ := DataW.trod_int Try.underlying22 h3
    injection e3 with e3
    subst e3
    obtain ⟨i4, e4, _, w4⟩ := DataW.trod_int Try.underlying22 h4
    injection e4 with e4
    subst e4
    obtain ⟨i5, e5, _, w5⟩ := DataW.trod_int Try.underlying3 h5
    injection e5 with e5
    subst e5
    obtain ⟨i6, e6, _, w6⟩ := DataW.trod_int Try.underlying3 h6
    injection e6 with e6
    subst e6
    obtain ⟨i8, e8, _, w8⟩ := DataW.trod_int Try.underlying3 h8
    injection e8 with e8
    subst e8
    obtain ⟨i9, e9, _, w9⟩ := DataW.trod_int Try.underlying22 h9
    injection e9 with e9
    subst e9
    change DataW.trod enc Try.prog w 0 (fun _ => true) held mf 37 [a7] = _ at h7
    obtain ⟨φ1, A1, v1, lg, s1, x1, o1, r1, view1, ok1⟩ := start_rqs h (enc := enc) h7
    change DataW.trod enc Try.prog w 0 (fun _ => true) held mf 41 [a10, a11, a12, a13, a14, a15] = _ at h10
    obtain ⟨φ2, A2, ei, b', vc, R, s2, x2, o2, rfl, eR, rb, rv, idv, hvc, ok2, ok3⟩ := start_rep s1 (enc := enc) h10
    obtain ⟨hh, eh, okh⟩ := hs_dec _ _ _ h11
    obtain ⟨st, es, _⟩ := strE_dec _ _ _ h12
    change rest.take 32 = hsC hh at eh
    change (rest.drop 32).take 1 = strE st at es
    have hrl : rest.length = 33 := hl15
    have er : rest = hsC hh ++ [.string st] := by
      rw [← List.take_append_drop 32 rest, eh]
      congr 1
      exact (List.take_of_length_le (by rw [List.length_drop]; omega)).symm.trans es
    subst er
    have g12 : Ge A1 A2 := o2.ge
    obtain ⟨pb, pq, pu, rfl, hb, hn, hz⟩ := hvc
    have hR : R.e = ei := eR
    refine ⟨φ2, A2, .int .i64 i0 :: .int .i64 i1 :: .int .i64 i2 :: .int .u32 i3 :: .int .u32 i4 :: .int .i64 i5 :: .int .i64 i6 :: v1 :: .int .i64 i8 :: .int .u32 i9 :: .int .i64 ei :: b' :: .int .u32 R.v.id :: pb :: pq :: pu :: (hsC hh ++ [.string st]), ⟨i0, i1, i2, i3, i4, i5, i6, lg, i8, i9, R, hh, st⟩, s2, x1.trans x2 o1.next, o1.trans o2, ?_, ⟨v1, b', pb, pq, pu, by rw [← hR], view1.ge g12, idv, hb, hn, hz⟩, wf_i64 w0, wf_i64 w1, wf_i64 w2, wf_u32 w3, wf_u32 w4, wf_i64 w5, wf_i64 w6, ok1, wf_u32 w9, ok2, ok3, okh⟩
    have rp : ∀ {l : List Value}, l.all plainV = true → VRL φ2 A2.next l l := fun {l} hp => ⟨rfl, fun i a c ha hc => by rw [ha] at hc; cases hc; exact VR.plain (List.all_eq_true.1 hp a (List.mem_of_getElem? ha))⟩
    have one : ∀ {a c : Value}, VR φ2 A2.next a c → VRL φ2 A2.next [a] [c] := fun {a c} hv => ⟨rfl, fun i x y hx hy => by
      match i with
      | 0 => cases hx; cases hy; exact hv
      | i + 1 => cases hx⟩
    have q1 : VRL φ2 A2.next [.int .i64 i0, .int .i64 i1, .int .i64 i2, .int .u32 i3, .int .u32 i4, .int .i64 i5, .int .i64 i6] _ := rp rfl
    have q2 := one (r1.mono o2.next x2)
    have q3 : VRL φ2 A2.next [.int .i64 i8, .int .u32 i9, .int .i64 ei] _ := rp rfl
    have q4 : VRL φ2 A2.next (hsC hh ++ [.string st]) _ := rp (by rw [List.all_append, hsC_pl]; rfl)
    exact q1.app (q2.app (q3.app ((one rb).app (rv.app q4))))
def MsgV (A : St) (m : MsgT) (v : Value) : Prop := ∃ cs, v = .agg cs.toArray ∧ MsgC A m cs
theorem MsgV.over {A A' : St} {m : MsgT} {v : Value} (h : MsgV A m v) (o : Over A A') : MsgV A' m v := by
  obtain ⟨cs, rfl, h⟩ := h; exact ⟨cs, rfl, h.ge o.ge⟩
theorem start_msg {w : World} {φ : Nat → Option Loc} {A : St} (h : Start w φ A) {H : Type} {enc : TypeId × Value → H} {held : Bool} {fuel : Nat} {cs : List Value} {x : DataW H × List MemPlace} (ht : DataW.trod enc Try.prog w 0 (fun _ => true) held fuel 45 cs = some x) :
    ∃ (φ' : Nat → Option Loc) (A' : St) (v' : Value) (m : MsgT), Start w φ' A' ∧ Ext A.next φ φ' ∧ Over A A' ∧ VR φ' A'.next v' (.agg cs.toArray) ∧ MsgV A' m v' ∧ m.okA := by
  obtain ⟨φ1, A1, oc, o, s1, x1, o1, r1, view1, ok1⟩ := start_msgC cs fuel x h ht
  exact ⟨φ1, A1, _, o, s1, x1, o1, r1.agg, ⟨oc, rfl, view1⟩, ok1⟩
end Go.Fw
