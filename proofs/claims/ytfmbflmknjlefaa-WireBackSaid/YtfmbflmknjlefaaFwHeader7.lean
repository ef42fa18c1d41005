import Derived.Test.YtfmbflmknjlefaaFwHeader6
import Derived.OpenShut
set_option linter.unusedSimpArgs false
set_option linter.unusedVariables false
set_option maxRecDepth 4000
namespace Go.Fw
open Go.Proofs Go.RowKit
theorem map_of_all {f : Int → Value} {p : Int → Prop} : ∀ cs : List Value, (∀ c ∈ cs, ∃ n, c = f n ∧ p n) → ∃ l : List Int, cs = l.map f ∧ ∀ x ∈ l, p x
  | [], _ => ⟨[], rfl, fun x h => by cases h⟩
  | c :: cs, h => by
    obtain ⟨n, rfl, hn⟩ := h c (List.mem_cons_self ..)
    obtain ⟨l, rfl, hl⟩ := map_of_all cs fun c hc => h c (List.mem_cons_of_mem _ hc)
    exact ⟨n :: l, rfl, fun x hx => by
      rcases List.mem_cons.1 hx with rfl | hx
      · exact hn
      · exact hl x hx⟩
def hsOk (h : HashT) : Prop := ∀ x ∈ h.1, Byte x
theorem wf_u8 {i : Int} (h : (Lit.int .u8 i).wf = true) : Byte i := by
  simp [Lit.wf, IntKind.min, IntKind.max, IntKind.bits, IntKind.signed] at h
  exact ⟨by omega, by omega⟩
theorem wf_u32 {i : Int} (h : (Lit.int .u32 i).wf = true) : 0 ≤ i ∧ i < 4294967296 := by
  simp [Lit.wf, IntKind.min, IntKind.max, IntKind.bits, IntKind.signed] at h
  omega
theorem hs_dec {H : Type} {enc : TypeId × Value → H} {w : World} {held : Bool} (n : Nat) (cs : List Value) (y : DataW H × List MemPlace) (h : DataW.trod enc Try.prog w 0 (fun _ => true) held n 43 cs = some y) : ∃ a, cs = hsC a ∧ hsOk a := by
  obtain ⟨xs, m, _, _, hl, hxl, hf⟩ := DataW.trod_array Try.underlying43 h
  rw [show Try.prog.cellsOf 43 = 32 by kernel_rfl] at hl
  have c5 : Try.prog.cellsOf 5 = 1 := by kernel_rfl
  rw [c5] at hf
  obtain ⟨l, rfl, hb⟩ := map_of_all (f := fun i => .int .u8 i) (p := Byte) cs fun c hc => by
    obtain ⟨i, hi, rfl⟩ := List.getElem_of_mem hc
    have := hf i (by omega)
    rw [List.getElem?_eq_getElem (by omega), Nat.mul_one, List.drop_eq_getElem_cons hi, List.take_succ_cons, List.take_zero] at this
    obtain ⟨k, e0, _, hw⟩ := DataW.trod_int Try.underlying5 this
    injection e0 with e0
    exact ⟨k, e0, wf_u8 hw⟩
  rw [List.length_map] at hl
  exact ⟨⟨l, hl⟩, rfl, hb⟩
theorem i64E_dec {H : Type} {enc : TypeId × Value → H} {w : World} {held : Bool} (n : Nat) (cs : List Value) (y : DataW H × List MemPlace) (h : DataW.trod enc Try.prog w 0 (fun _ => true) held n 3 cs = some y) : ∃ a, cs = i64E a ∧ i64Ok a := i64_dec Try.underlying3 n cs y h
theorem strE_dec {H : Type} {enc : TypeId × Value → H} {w : World} {held : Bool} (n : Nat) (cs : List Value) (y : DataW H × List MemPlace) (h : DataW.trod enc Try.prog w 0 (fun _ => true) held n 9 cs = some y) : ∃ a, cs = strE a ∧ strOk a := str_dec Try.underlying9 n cs y h
/-- A version as an argument. -/
theorem start_ver {w : World} {φ : Nat → Option Loc} {A : St} (h : Start w φ A) {H : Type} {enc : TypeId × Value → H} {held : Bool} {fuel : Nat} {cs : List Value} {x : DataW H × List MemPlace} (ht : DataW.trod enc Try.prog w 0 (fun _ => true) held fuel 27 cs = some x) :
    ∃ (φ' : Nat → Option Loc) (A' : St) (v' : Value) (V : VerT), Start w φ' A' ∧ Ext A.next φ φ' ∧ Over A A' ∧ VR φ' A'.next v' (.agg cs.toArray) ∧ VerV A' V v' ∧ V.ok := by
  obtain ⟨xs, m, _, _, hl, hxl, hf⟩ := DataW.trod_struct Try.underlying27 ht
  rw [show Try.prog.cellsOf 27 = 4 by kernel_rfl] at hl
  match cs, hl, xs, hxl with
  | [a, b, c, d], _, [y0, y1, y2, y3], _ =>
    have h0 := hf 0 _ rfl
    have h1 := hf 1 _ rfl
    have h2 := hf 2 _ rfl
    have h3 := hf 3 _ rfl
    change DataW.trod enc Try.prog w 0 (fun _ => true) held m 22 (([a, b, c, d].drop 0).take (Try.prog.cellsOf 22)) = _ at h0
    change DataW.trod enc Try.prog w 0 (fun _ => true) held m 23 (([a, b, c, d].drop 1).take (Try.prog.cellsOf 23)) = _ at h1
    change DataW.trod enc Try.prog w 0 (fun _ => true) held m 24 (([a, b, c, d].drop 2).take (Try.prog.cellsOf 24)) = _ at h2
    change DataW.trod enc Try.prog w 0 (fun _ => true) held m 25 (([a, b, c, d].drop 3).take (Try.prog.cellsOf 25)) = _ at h3
    rw [show Try.prog.cellsOf 22 = 1 by kernel_rfl] at h0
    rw [show Try.prog.cellsOf 23 = 1 by kernel_rfl] at h1
    rw [show Try.prog.cellsOf 24 = 1 by kernel_rfl] at h2
    rw [show Try.prog.cellsOf 25 = 1 by kernel_rfl] at h3
    obtain ⟨i0, e0, _, w0⟩ := DataW.trod_int Try.underlying22 h0
    injection e0 with e0
    subst e0
    obtain ⟨φ1, A1, v1, l1, s1, x1, o1, r1, view1, ok1, _⟩ := h.arg (enc := enc) (v := b) hsC hsOk (by kernel_rfl) (by decide) Try.underlying23 hsC_len hsC_pl hs_dec h1
    obtain ⟨φ2, A2, v2, l2, s2, x2, o2, r2, view2, ok2, _⟩ := s1.arg (enc := enc) (v := c) strE strOk (by kernel_rfl) (by decide) Try.underlying24 strE_len strE_pl strE_dec h2
    obtain ⟨φ3, A3, v3, l3, s3, x3, o3, r3, view3, ok3, _⟩ := s2.arg (enc := enc) (v := d) i64E i64Ok (by kernel_rfl) (by decide) Try.underlying25 i64E_len i64E_pl i64E_dec h3
    refine ⟨φ3, A3, .agg #[.int .u32 i0, v1, v2, v3], ⟨i0, l1, l2, l3⟩, s3, ((x1.trans x2 o1.next).trans x3 (Nat.le_trans o1.next o2.next)), o1.trans (o2.trans o3), ?_, ⟨v1, v2, v3, rfl, View.over (View.over view1 o2) o3, View.over view2 o3, view3⟩, (wf_u32 w0).1, (wf_u32 w0).2, ok1⟩
    refine .agg _ _ rfl fun i v v' hv hv' => ?_
    match i with
    | 0 => cases hv; cases hv'; exact .int _ _
    | 1 => cases hv; cases hv'; exact (r1.mono o2.next x2).mono o3.next x3
    | 2 => cases hv; cases hv'; exact r2.mono o3.next x3
    | 3 => cases hv; cases hv'; exact r3
    | i + 4 => cases hv
end Go.Fw
