import Derived.Test.YtfmbflmknjlefaaFwWire7
set_option linter.unusedSimpArgs false
set_option linter.unusedVariables false
set_option maxRecDepth 4000
namespace Go.Fw
open Go.Proofs Go.RowKit
theorem Try.enters39 : Enters Try.prog 39 := enters_of Try.func39 rfl (by kernel_rfl)
theorem Try.enters18 : Enters Try.prog 18 := enters_of Try.func18 rfl (by kernel_rfl)
theorem Try.enters58 : Enters Try.prog 58 := enters_of Try.func58 rfl (by kernel_rfl)
theorem caught_none (w0 : World) (A : St) (b : Nat) (u : Value) : ADefR Try.prog w0 39 #[.pointer (some ⟨b, 0, none⟩), u] none A (fun A' => A' = A) := by
  refine adefR_E (l := [.pointer (some ⟨b, 0, none⟩), u]) Try.func39 rfl (Nat.le_of_ble_eq_true rfl) (fun v h => by cases h) fun hw hbd => ?_
  have he : abin Try.prog .eql 20 (.tmp 7) (.const .nilIface) .nilIface .nilIface = some (.bool true) := by kernel_rfl
  simp (maxSteps := 1000000) (disch := (first | omega | (simp only [nx_alloc, nx_upd, len_cons, len_nil, List.length_set, List.length_map, List.length_append] <;> omega) | fail)) only [go_sem, Try.ntmps39, Option.getD_none, he, Try.results39]
theorem caught_some (w0 : World) (A A2 : St) (b : Nat) (x y : Int) (e0 : TypeId) (f : Nat) (us : List Value) (hnb : noBody Try.prog f = false) (hb : A.get b = some (.cells [.int .i64 y] e0 (some 0))) (hu : ACalls Try.prog w0 f us.toArray (A.upd b (some (.cells [.int .i64 x] e0 (some 0)))) (fin (.tuple #[]) A2)) :
    ADefR Try.prog w0 39 #[.pointer (some ⟨b, 0, none⟩), .func (.func f) #[] us.toArray] (some (pE x)) A (fun A' => A' = A2) := by
  refine adefR_E (l := [.pointer (some ⟨b, 0, none⟩), .func (.func f) #[] us.toArray]) Try.func39 rfl (Nat.le_of_ble_eq_true rfl) (fun v h => by cases h; exact pE_bnd _ _) fun hw hbd => ?_
  unfold pE
  have he : uI (some (.interface #[])) (.bool false) = some (.bool false) := rfl
  simp (maxSteps := 1000000) (disch := (first | omega | (simp only [nx_alloc, nx_upd, len_cons, len_nil, List.length_set, List.length_map, List.length_append] <;> omega) | fail)) only [go_sem, Try.ntmps39, Option.getD_some, he]
  have ha : aassert Try.prog (.iface 38 (.int .i64 x)) 38 true = some (.tuple #[.int .i64 x, .bool true]) := by kernel_rfl
  simp (maxSteps := 1000000) (disch := (first | omega | (simp only [nx_alloc, nx_upd, len_cons, len_nil, List.length_set, List.length_map, List.length_append] <;> omega) | fail)) only [go_sem, ha, hb, hnb]
  refine call1 hu ?_
  simp (maxSteps := 1000000) (disch := (first | omega | (simp only [nx_alloc, nx_upd, len_cons, len_nil, List.length_set, List.length_map, List.length_append] <;> omega) | fail)) only [go_sem, Try.results39]
theorem getreq1_ok (w0 : World) (A : St) (a b : Nat) (z : List Value) (y : ByteArray) (e1 e2 : TypeId) (hz : z.length = 8) (ha : A.get a = some (.cells z e1 (some 0))) (hb : A.get b = some (.cells [.string y] e2 (some 0))) (hab : a ≠ b) : ACalls Try.prog w0 58 #[.pointer (some ⟨a, 0, none⟩), .pointer (some ⟨b, 0, none⟩)] A (fin (.tuple #[]) ((A.upd a (some (.cells [.int .i64 0, .int .u32 0, .int .i64 0, .int .u32 0, .int .u32 0, .slice none 0 0, .slice none 0 0, .slice none 0 0] e1 (some 0)))).upd b (some (.cells [.string ByteArray.empty] e2 (some 0))))) := by
  refine call_E Try.enters58 Try.func58 rfl (Nat.le_of_ble_eq_true rfl) fun hw hbd => ?_
  have hbld : abuild Try.prog 31 #[] = some (.agg #[.int .i64 0, .int .u32 0, .int .i64 0, .int .u32 0, .int .u32 0, .slice none 0 0, .slice none 0 0, .slice none 0 0]) := by kernel_rfl
  have hst := stN (n := 8) (X := A) (b := a) (z := z) (cs := [.int .i64 0, .int .u32 0, .int .i64 0, .int .u32 0, .int .u32 0, .slice none 0 0, .slice none 0 0, .slice none 0 0]) (e := e1) hz rfl rfl
  simp (maxSteps := 1000000) (disch := (first | omega | (simp only [nx_alloc, nx_upd, len_cons, len_nil, List.length_set, List.length_map, List.length_append] <;> omega) | fail)) only [go_sem, Try.ntmps58, Try.results58, hbld, ha, hst, hb]
  exact gc_here ⟨rfl, rfl⟩
theorem reqP_err {r : List Int} {x : ReqT} {t : List Int} {e : Int} (h : reqP r = (x, t, e)) (he : e ≠ 0) : x = rq0 ∧ t = [] := by
  unfold reqP at h
  split at h
  split at h; · cases h; exact ⟨rfl, rfl⟩
  split at h; · cases h; exact ⟨rfl, rfl⟩
  split at h
  split at h; · cases h; exact ⟨rfl, rfl⟩
  split at h
  split at h; · cases h; exact ⟨rfl, rfl⟩
  split at h; · cases h; exact ⟨rfl, rfl⟩
  split at h
  split at h; · cases h; exact ⟨rfl, rfl⟩
  split at h
  split at h; · cases h; exact ⟨rfl, rfl⟩
  split at h; · cases h; exact ⟨rfl, rfl⟩
  cases h; exact absurd rfl he
def GetPost (A : St) (p : ReqT × List Int × Int) (e : Ending) (A' : St) : Prop := ∃ v, e = .returned (.tuple #[v, .string (strOfNums p.2.1), .int .i64 p.2.2]) ∧ Over A A' ∧ ReqRow A' A.next p.1 v
theorem leaveR_none {P : Program} {w0 : World} {g : Nat} {args : Array Value} {m : Option Value} {A A2 : St} {K : St → Prop} (he : Enters P g) (h : ADefR P w0 g args m A (fun A' => A' = A2)) (hk : K A2) : leaveFR P w0 g args m A K := ⟨he, h.mono fun A' e => by subst e; exact hk⟩
set_option maxHeartbeats 4000000 in
theorem getreq_ok (w0 : World) (A : St) (s : ByteArray) (hs : s.size ≤ 1048576) : ACalls Try.prog w0 18 #[.string s] A (GetPost A (reqP (nums s))) := by
  have hw0 : RW (nums s) := ⟨nums_byte s, by rw [nums_length]; exact hs⟩
  generalize hr : nums s = r at *
  have hst : s = strOfNums r := by rw [← hr, str_nums]
  subst hst
  refine call_ER (l := [.string (strOfNums r)]) Try.enters18 Try.func18 rfl (Nat.le_of_ble_eq_true rfl) fun hw hbd => ?_
  simp (maxSteps := 1000000) (disch := (first | omega | (simp only [nx_alloc, nx_upd, len_cons, len_nil, List.length_set, List.length_map, List.length_append] <;> omega) | fail)) only [go_sem, Try.ntmps18, Try.results18]
  obtain ⟨A1, hA1⟩ : ∃ A1, A1 = (((A.alloc (.cells [.int .i64 0, .int .u32 0, .int .i64 0, .int .u32 0, .int .u32 0, .slice none 0 0, .slice none 0 0, .slice none 0 0] 31 (some 0))).alloc (.cells [.string ByteArray.empty] 9 (some 0))).alloc (.cells [.int .i64 0] 38 (some 0))).alloc (.cells [.string (strOfNums r)] 78 (some 0)) := ⟨_, rfl⟩
  have o1 : Over A A1 := hA1 ▸ ((((Over.refl A).alloc _).alloc _).alloc _).alloc _
  have n1 : A1.next = A.next + 4 := by rw [hA1]; rfl
  have g0 : A1.get A.next = some (.cells [.int .i64 0, .int .u32 0, .int .i64 0, .int .u32 0, .int .u32 0, .slice none 0 0, .slice none 0 0, .slice none 0 0] 31 (some 0)) := by rw [hA1]; simp (disch := (first | omega | (simp only [nx_alloc, nx_upd, len_cons, len_nil, List.length_set, List.length_map, List.length_append] <;> omega) | fail)) only [St.get_upd, St.get_alloc, St.next_alloc, St.next_upd, ↓reduceIte, natF_lt, natF_gt, natF_ne, Nat.add_assoc, Nat.reduceAdd, Nat.reduceEqDiff, Nat.add_left_cancel_iff]
  have g1 : A1.get (A.next + 1) = some (.cells [.string ByteArray.empty] 9 (some 0)) := by rw [hA1]; simp (disch := (first | omega | (simp only [nx_alloc, nx_upd, len_cons, len_nil, List.length_set, List.length_map, List.length_append] <;> omega) | fail)) only [St.get_upd, St.get_alloc, St.next_alloc, St.next_upd, ↓reduceIte, natF_lt, natF_gt, natF_ne, Nat.add_assoc, Nat.reduceAdd, Nat.reduceEqDiff, Nat.add_left_cancel_iff]
  have g2 : A1.get (A.next + 2) = some (.cells [.int .i64 0] 38 (some 0)) := by rw [hA1]; simp (disch := (first | omega | (simp only [nx_alloc, nx_upd, len_cons, len_nil, List.length_set, List.length_map, List.length_append] <;> omega) | fail)) only [St.get_upd, St.get_alloc, St.next_alloc, St.next_upd, ↓reduceIte, natF_lt, natF_gt, natF_ne, Nat.add_assoc, Nat.reduceAdd, Nat.reduceEqDiff, Nat.add_left_cancel_iff]
  have g3 : A1.get (A.next + 3) = some (rdW r) := by rw [hA1]; simp (disch := (first | omega | (simp only [nx_alloc, nx_upd, len_cons, len_nil, List.length_set, List.length_map, List.length_append] <;> omega) | fail)) only [St.get_upd, St.get_alloc, St.next_alloc, St.next_upd, ↓reduceIte, natF_lt, natF_gt, natF_ne, Nat.add_assoc, Nat.reduceAdd, Nat.reduceEqDiff, Nat.add_left_cancel_iff]; rfl
  rw [← hA1]
  clear hA1
  refine (wreq_ok w0 A1 (A.next + 3) r g3 hw0).mono ?_
  rcases hp : reqP r with ⟨x, t, f⟩
  intro e A2 he
  by_cases hf : f = 0
  rotate_left
  · obtain ⟨rfl, s', rfl⟩ := rd_pan hf he
    obtain ⟨rfl, rfl⟩ : x = rq0 ∧ t = [] := reqP_err hp hf
    simp (maxSteps := 1000000) (disch := (first | omega | (simp only [nx_alloc, nx_upd, len_cons, len_nil, List.length_set, List.length_map, List.length_append] <;> omega) | fail)) only [go_sem, after_pan, funQR_panic, leaveKR_fn]
    refine leaveR_none Try.enters39 (caught_some w0 _ _ (A.next + 2) f 0 38 58 [.pointer (some ⟨A.next, 0, none⟩), .pointer (some ⟨A.next + 1, 0, none⟩)] (by kernel_rfl) (by rw [get_upd_old (by omega)]; exact g2) (getreq1_ok w0 _ A.next (A.next + 1) [.int .i64 0, .int .u32 0, .int .i64 0, .int .u32 0, .int .u32 0, .slice none 0 0, .slice none 0 0, .slice none 0 0] ByteArray.empty 31 9 rfl (by rw [get_upd_old (by omega), get_upd_old (by omega)]; exact g0) (by rw [get_upd_old (by omega), get_upd_old (by omega)]; exact g1) (by omega))) ?_
    have hld8 := ldN (n := 8) (cs := [.int .i64 0, .int .u32 0, .int .i64 0, .int .u32 0, .int .u32 0, .slice none 0 0, .slice none 0 0, .slice none 0 0]) (e := 31) (m := some 0) rfl
    simp (maxSteps := 1000000) (disch := (first | omega | (simp only [nx_alloc, nx_upd, len_cons, len_nil, List.length_set, List.length_map, List.length_append] <;> omega) | fail)) only [go_sem, leaveKR_nil, hld8, Try.results18]
    exact gc_here ⟨_, rfl, (((o1.upd (by omega) _).upd (by omega) _).upd (Nat.le_refl _) _).upd (by omega) _, _, _, _, rfl, Row.nil .., Row.nil .., Row.nil ..⟩
  subst hf
  obtain ⟨v2, rfl, o2, hx2⟩ := rd_ok he
  obtain ⟨p, q', u, rfl, v1, v2, v3⟩ := hx2
  have n2 := o2.next
  change A1.next ≤ A2.next at n2
  have k0 : A2.get A.next = _ := (o2.get _ (by show A.next < A1.next; omega)).trans ((get_upd_old (by omega)).trans g0)
  have k1 : A2.get (A.next + 1) = _ := (o2.get _ (by show A.next + 1 < A1.next; omega)).trans ((get_upd_old (by omega)).trans g1)
  have k2 : A2.get (A.next + 2) = _ := (o2.get _ (by show A.next + 2 < A1.next; omega)).trans ((get_upd_old (by omega)).trans g2)
  have k3 : A2.get (A.next + 3) = some (rdW t) := (o2.get _ (by show A.next + 3 < A1.next; omega)).trans (get_upd_same ..)
  unfold rdW at k3
  have hrq : ReqC A2 x [.int .i64 x.client, .int .u32 x.seq, .int .i64 x.op.kind, .int .u32 x.op.id, .int .u32 x.op.v.id, p, q', u] := ⟨_, rfl, _, rfl, _, _, _, rfl, Row.view v1, Row.view v2, Row.view v3⟩
  have hld8 := fun e' m => ldN (e := e') (m := m) hrq.len
  have hst8 := fun (X : St) z => stN (X := X) (z := z) (b := A.next) (e := 31) (h := hrq.len) (hc := hrq.cell)
  have hst0 := hst8 A2 [.int .i64 0, .int .u32 0, .int .i64 0, .int .u32 0, .int .u32 0, .slice none 0 0, .slice none 0 0, .slice none 0 0] rfl
  have hst1 := fun X => hst8 X _ hrq.len
  obtain ⟨A3, hA3⟩ : ∃ A3, A3 = A2.upd A.next (some (.cells [.int .i64 x.client, .int .u32 x.seq, .int .i64 x.op.kind, .int .u32 x.op.id, .int .u32 x.op.v.id, p, q', u] 31 (some 0))) := ⟨_, rfl⟩
  have m0 : A3.get A.next = some (.cells [.int .i64 x.client, .int .u32 x.seq, .int .i64 x.op.kind, .int .u32 x.op.id, .int .u32 x.op.v.id, p, q', u] 31 (some 0)) := by rw [hA3]; exact get_upd_same ..
  have m1 : A3.get (A.next + 1) = A2.get (A.next + 1) := by rw [hA3]; exact get_upd_old (by omega)
  rw [k1] at m1
  have m2 : A3.get (A.next + 2) = A2.get (A.next + 2) := by rw [hA3]; exact get_upd_old (by omega)
  rw [k2] at m2
  have m3 : A3.get (A.next + 3) = A2.get (A.next + 3) := by rw [hA3]; exact get_upd_old (by omega)
  rw [k3] at m3
  simp (maxSteps := 1000000) (disch := (first | omega | (simp only [nx_alloc, nx_upd, len_cons, len_nil, List.length_set, List.length_map, List.length_append] <;> omega) | fail)) only [go_sem, k0, hst0]
  rw [← hA3]
  refine aw_draw2 [⟨false, [], [0]⟩, ⟨false, [], [0, 1]⟩, ⟨false, [1], [0, 1]⟩, ⟨false, [1, 2], [0, 1]⟩, ⟨false, [1, 2, 3], [0, 1]⟩, ⟨true, [0], [0]⟩, ⟨true, [0, 1, 2, 3, 4, 5], [1]⟩, ⟨true, [0, 1, 2, 3, 4, 5, 6], [2]⟩] [A3, A3.upd A.next (some (.cells [.int .i64 x.client, .int .u32 x.seq, .int .i64 x.op.kind, .int .u32 x.op.id, .int .u32 x.op.v.id, p, q', u] 31 (some 0))), (A3.upd A.next (some (.cells [.int .i64 x.client, .int .u32 x.seq, .int .i64 x.op.kind, .int .u32 x.op.id, .int .u32 x.op.v.id, p, q', u] 31 (some 0)))).upd (A.next + 1) (some (.cells [.string (strOfNums t)] 9 (some 0))), ((A3.upd A.next (some (.cells [.int .i64 x.client, .int .u32 x.seq, .int .i64 x.op.kind, .int .u32 x.op.id, .int .u32 x.op.v.id, p, q', u] 31 (some 0)))).upd (A.next + 1) (some (.cells [.string (strOfNums t)] 9 (some 0)))).upd (A.next + 2) (some (.cells [.int .i64 0] 38 (some 0)))] 3 (by kernel_rfl) (by kernel_rfl) rfl ?_
  simp (maxSteps := 1000000) (disch := (first | omega | (simp only [nx_alloc, nx_upd, len_cons, len_nil, List.length_set, List.length_map, List.length_append] <;> omega) | fail)) only [go_sem, m0, m1, m2, m3, hld8, hst1]
  simp (maxSteps := 1000000) (disch := (first | omega | (simp only [nx_alloc, nx_upd, len_cons, len_nil, List.length_set, List.length_map, List.length_append] <;> omega) | fail)) only [go_sem, funQR_ret, leaveKR_fn]
  refine leaveR_none Try.enters39 (caught_none w0 _ (A.next + 2) _) ?_
  simp (maxSteps := 1000000) (disch := (first | omega | (simp only [nx_alloc, nx_upd, len_cons, len_nil, List.length_set, List.length_map, List.length_append] <;> omega) | fail)) only [go_sem, leaveKR_nil, hld8, Try.results18]
  have hk : ∀ b, A1.next ≤ b → b < A2.next → (((A3.upd A.next (some (.cells [.int .i64 x.client, .int .u32 x.seq, .int .i64 x.op.kind, .int .u32 x.op.id, .int .u32 x.op.v.id, p, q', u] 31 (some 0)))).upd (A.next + 1) (some (.cells [.string (strOfNums t)] 9 (some 0)))).upd (A.next + 2) (some (.cells [.int .i64 0] 38 (some 0)))).get b = A2.get b := fun b h1 h2 => by
    rw [get_upd_old (by omega), get_upd_old (by omega), get_upd_old (by omega), hA3, get_upd_old (by omega)]
  have hn : A2.next ≤ A3.next := by rw [hA3]; exact Nat.le_refl _
  have o3 : Over A A3 := by
    rw [hA3]
    refine Over.upd ⟨by omega, fun b hb => ?_⟩ (Nat.le_refl _) _
    rw [o2.get b (by show b < A1.next; omega), get_upd_old (by omega)]
    exact o1.get b hb
  refine gc_here ⟨_, rfl, ((o3.upd (Nat.le_refl _) _).upd (by omega) _).upd (by omega) _, _, _, _, rfl, Row.keep v1 hn (fun b _ => hk b) (by omega), Row.keep v2 hn (fun b _ => hk b) (by omega), Row.keep v3 hn (fun b _ => hk b) (by omega)⟩
end Go.Fw
