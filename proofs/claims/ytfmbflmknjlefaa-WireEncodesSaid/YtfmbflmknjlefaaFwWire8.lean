import Derived.Test.YtfmbflmknjlefaaFwWire7
set_option linter.unusedSimpArgs false
set_option linter.unusedVariables false
set_option maxRecDepth 4000
namespace Go.Fw
open Go.Proofs Go.RowKit
theorem Try.enters39 : Enters Try.prog 39 := enters_of Try.func39 rfl (by kernel_rfl)
theorem caught_none (w0 : World) (A : St) (b : Nat) (u : Value) : ADefR Try.prog w0 39 #[.pointer (some ⟨b, 0, none⟩), u] none A (fun A' => A' = A) := by
  refine adefR_E (l := [.pointer (some ⟨b, 0, none⟩), u]) Try.func39 rfl (Nat.le_of_ble_eq_true rfl) (fun v h => by cases h) fun hw hbd => ?_
  have he : abin Try.prog .eql 20 (.tmp 7) (.const .nilIface) .nilIface .nilIface = some (.bool true) := by kernel_rfl
  simp (maxSteps := 1000000) (disch := (first | omega | (simp only [nx_alloc, nx_upd, len_cons, len_nil, List.length_set, List.length_map, List.length_append] <;> omega) | fail)) only [go_sem, Try.ntmps39, Option.getD_none, he, Try.results39]
theorem caught_some (w0 : World) (A A2 : St) (b : Nat) (x y : Int) (e0 : TypeId) (f : Nat) (us : List Value) (hnb : noBody Try.prog f = false) (hb : A.get b = some (.cells [.int .i64 y] e0 (some 0))) (hu : ACalls Try.prog w0 f us.toArray (A.upd b (some (.cells [.int .i64 x] e0 (some 0)))) (fin (.tuple #[]) A2)) :
    ADefR Try.prog w0 39 #[.pointer (some ⟨b, 0, none⟩), .func (.func f) #[] us.toArray] (some (pE x)) A (fun A' => A' = A2) := by
  refine adefR_E (l := [.pointer (some ⟨b, 0, none⟩), .func (.func f) #[] us.toArray]) Try.func39 rfl (Nat.le_of_ble_eq_true rfl) (fun v h => by cases h; exact pE_bnd _ _) fun hw hbd => ?_
  unfold pE
  have he : uI (some (.interface #[])) (.bool false) = some (.bool false) := rfl
  simp (maxSteps := 1000000) (disch := (first | omega | (simp only [nx_alloc, nx_upd, len_cons, len_nil, List.length_set, List.length_map, List.length_append] <;> omega) | fail)) only [go_sem, Try.ntmps39, Option.getD_some, he]
  have ha : aassert Try.prog (.iface 38 (.int .i64 x)) 38 true = some (.tuple #[.int .i64 x, .bool true]) := by kernel_rfl
  simp (maxSteps := 1000000) (disch := (first | omega | (simp only [nx_alloc, nx_upd, len_cons, len_nil, List.length_set, List.length_map, List.length_append] <;> omega) | fail)) only [go_sem, ha, hb, hnb]
  refine call1 hu ?_
  simp (maxSteps := 1000000) (disch := (first | omega | (simp only [nx_alloc, nx_upd, len_cons, len_nil, List.length_set, List.length_map, List.length_append] <;> omega) | fail)) only [go_sem, Try.results39]
theorem leaveR_none {P : Program} {w0 : World} {g : Nat} {args : Array Value} {m : Option Value} {A A2 : St} {K : St → Prop} (he : Enters P g) (h : ADefR P w0 g args m A (fun A' => A' = A2)) (hk : K A2) : leaveFR P w0 g args m A K := ⟨he, h.mono fun A' e => by subst e; exact hk⟩
end Go.Fw
