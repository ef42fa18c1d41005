import Derived.Test.YtfmbflmknjlefaaFwHeader7
import Derived.Test.YtfmbflmknjlefaaFw37
import Derived.Test.YtfmbflmknjlefaaFw38
set_option linter.unusedSimpArgs false
set_option linter.unusedVariables false
set_option maxRecDepth 4000
namespace Go.Fw
open Go.Proofs Go.RowKit
theorem Try.enters8 : Enters Try.prog 8 := enters_of Try.func8 rfl (by kernel_rfl)
theorem Try.enters62 : Enters Try.prog 62 := enters_of Try.func62 rfl (by kernel_rfl)
/-- A version's cells. -/
def VerC (A : St) (V : VerT) (cs : List Value) : Prop := ∃ p q u, cs = [.int .u32 V.id, p, q, u] ∧ HsView A V.blocks p ∧ StView A V.names q ∧ InView A V.sizes u
theorem VerC.ge {A A' : St} {V : VerT} {cs : List Value} (h : VerC A V cs) (g : Ge A A') : VerC A' V cs := by
  obtain ⟨p, q, u, rfl, h1, h2, h3⟩ := h
  exact ⟨p, q, u, rfl, View.ge h1 g, View.ge h2 g, View.ge h3 g⟩
theorem VerC.len {A : St} {V : VerT} {cs : List Value} (h : VerC A V cs) : cs.length = 4 := by
  obtain ⟨p, q, u, rfl, _⟩ := h; rfl
theorem VerC.ver {A : St} {V : VerT} {cs : List Value} (h : VerC A V cs) : VerV A V (.agg cs.toArray) := by
  obtain ⟨p, q, u, rfl, h1, h2, h3⟩ := h
  exact ⟨p, q, u, rfl, h1, h2, h3⟩
theorem VerV.cells {A : St} {V : VerT} {v : Value} (h : VerV A V v) : ∃ cs, v = .agg cs.toArray ∧ VerC A V cs := by
  obtain ⟨p, q, u, rfl, h1, h2, h3⟩ := h
  exact ⟨_, rfl, p, q, u, rfl, h1, h2, h3⟩
theorem VerC.cell {A : St} {V : VerT} {cs : List Value} (h : VerC A V cs) : cs.all cell1 = true := by
  obtain ⟨p, q, u, rfl, h1, h2, h3⟩ := h
  obtain ⟨_, _, rfl⟩ := View.sl0 h1
  obtain ⟨_, _, rfl⟩ := View.sl0 h2
  obtain ⟨_, _, rfl⟩ := View.sl0 h3
  rfl
/-- Elements that are things of sz cells. -/
def NV {α : Type} (A : St) (sz : Nat) (E : α → List Value → Prop) (l : List α) (v : Value) : Prop := ∃ css, All2 E l css ∧ (∀ cs ∈ css, cs.length = sz) ∧ View A sz css.flatten l.length v
theorem NV.view {α : Type} {A : St} {sz : Nat} {E : α → List Value → Prop} {l : List α} {v : Value} (h : NV A sz E l v) : ∃ cs, View A sz cs l.length v := by
  obtain ⟨css, _, _, h⟩ := h; exact ⟨_, h⟩
theorem NV.lenU {α : Type} {A : St} {sz : Nat} {e : TypeId} {E : α → List Value → Prop} {l : List α} {v : Value} (h : NV A sz E l v) : lenU A (some (.slice e)) v = some (.int .i64 l.length, A) := by
  obtain ⟨css, _, _, h⟩ := h; exact View.lenU h
theorem NV.ge {α : Type} {A A' : St} {sz : Nat} {E E' : α → List Value → Prop} {l : List α} {v : Value} (h : NV A sz E l v) (g : Ge A A') (he : ∀ a cs, E a cs → E' a cs) : NV A' sz E' l v := by
  obtain ⟨css, h1, h2, h3⟩ := h
  exact ⟨css, h1.imp he, h2, View.ge h3 g⟩
/-- An element: its address, its cells. -/
theorem NV.at {α : Type} {P : Program} {A : St} {sz e : Nat} {E : α → List Value → Prop} {l : List α} {v : Value} (h : NV A sz E l v) (hsz : tsz P e = some sz) {i : Nat} {a : α} (hi : l[i]? = some a) :
    ∃ b off cs, b < A.next ∧ (∀ k : IntKind, indexAddrU P (some (.slice e)) v (.int k i) = some (.pointer (some ⟨b, off, none⟩))) ∧ E a cs ∧ cs.length = sz ∧ ∃ cells e' m, A.get b = some (.cells cells e' m) ∧ off + sz ≤ cells.length ∧ (cells.drop off).take sz = cs := by
  obtain ⟨css, h1, h2, h3⟩ := h
  have hlt : i < l.length := (List.getElem?_eq_some_iff.1 hi).1
  obtain ⟨cs, hcs, he⟩ := h1.get hi
  obtain ⟨b, off, q1, q2, q3, cells, e', m, q4, q5, q6⟩ := h3.at (e := e) hsz hlt
  exact ⟨b, off, cs, q1, q3, he, h2 cs (List.mem_of_getElem? hcs), cells, e', m, q4, q5, by rw [q6]; exact flat_elem h2 hcs⟩
theorem ld_agg {sz off : Nat} {cells cs : List Value} {e' : TypeId} {m : Option Nat} (h1 : off + sz ≤ cells.length) (h2 : (cells.drop off).take sz = cs) : loadC (some true) (some sz) (some (.cells cells e' m)) off = some (.agg cs.toArray) := by
  rw [loadC_agg _ _ _ _ _ h1, h2]
def u32E (i : Int) : List Value := [.int .u32 i]
def IdView (A : St) (l : List Int) (v : Value) : Prop := View A 1 (l.flatMap u32E) l.length v
def IdRow (A : St) (lo : Nat) (l : List Int) (v : Value) : Prop := Row A 22 1 lo (l.flatMap u32E) l.length v
theorem id_push {A : St} {lo : Nat} {l : List Int} {v : Value} (h : IdRow A lo l v) (x : Int) (hlo : lo ≤ A.next) (hl : l.length ≤ 1073741824) :
    ∃ v' A', aappend Try.prog (A.alloc (.cells [.int .u32 x] 22 (some 0))) 39 39 v (.slice (some ⟨A.next, 0, none⟩) 1 1) = some (v', A') ∧ IdRow A' lo (l ++ [x]) v' ∧ A'.next = A.next + 2 ∧ rowB v' = some (A.next + 1) ∧ ∀ b, b < A.next → rowB v ≠ some b → A'.get b = A.get b := by
  obtain ⟨v', A2, hap, hr2, hn2, hrb, hf2⟩ := row_push (A := A) (sp := none) (c := 1) (xs := [.int .u32 x]) Try.el39 Try.underlying39 (by intro k; exact TypeDesc.noConfusion) Try.sz22 Try.byt22 Try.zero22 rfl h hlo (by omega) (by omega) rfl rfl
  refine ⟨v', A2, hap, ?_, hn2, hrb, hf2⟩
  unfold IdRow
  rw [List.flatMap_append, List.length_append]; exact hr2
structure ReplyT where
  e : Int
  ids : List Int
  v : VerT
structure VOp where
  kind : Int
  id : Int
  v : VerT
def verN : VerT := ⟨0, [], [], []⟩
def RepC (A : St) (R : ReplyT) (cs : List Value) : Prop := ∃ w vs, cs = .int .i64 R.e :: w :: vs ∧ IdView A R.ids w ∧ VerC A R.v vs
theorem RepC.ge {A A' : St} {R : ReplyT} {cs : List Value} (h : RepC A R cs) (g : Ge A A') : RepC A' R cs := by
  obtain ⟨w, vs, rfl, h1, h2⟩ := h
  exact ⟨w, vs, rfl, View.ge h1 g, h2.ge g⟩
theorem RepC.ex {A : St} {R : ReplyT} {cs : List Value} (h : RepC A R cs) : ∃ a n c p q u, cs = [.int .i64 R.e, .slice a n c, .int .u32 R.v.id, p, q, u] ∧ cell1 p = true ∧ cell1 q = true ∧ cell1 u = true := by
  obtain ⟨w, vs, rfl, h1, p, q, u, rfl, h2, h3, h4⟩ := h
  obtain ⟨_, _, rfl⟩ := View.sl0 h1
  obtain ⟨_, _, rfl⟩ := View.sl0 h2
  obtain ⟨_, _, rfl⟩ := View.sl0 h3
  obtain ⟨_, _, rfl⟩ := View.sl0 h4
  exact ⟨_, _, _, _, _, _, rfl, rfl, rfl, rfl⟩
theorem RepC.len {A : St} {R : ReplyT} {cs : List Value} (h : RepC A R cs) : cs.length = 6 := by
  obtain ⟨a, n, c, p, q, u, rfl, _⟩ := h.ex; rfl
theorem RepC.cell {A : St} {R : ReplyT} {cs : List Value} (h : RepC A R cs) : cs.all cell1 = true := by
  obtain ⟨a, n, c, p, q, u, rfl, h1, h2, h3⟩ := h.ex
  simp only [List.all_cons, List.all_nil, h1, h2, h3]; rfl
def VOpC (A : St) (o : VOp) (cs : List Value) : Prop := ∃ vs, cs = .int .i64 o.kind :: .int .u32 o.id :: vs ∧ VerC A o.v vs
theorem VOpC.ge {A A' : St} {o : VOp} {cs : List Value} (h : VOpC A o cs) (g : Ge A A') : VOpC A' o cs := by
  obtain ⟨vs, rfl, h1⟩ := h
  exact ⟨vs, rfl, h1.ge g⟩
theorem View.nil (A : St) (sz : Nat) : View A sz [] 0 (.slice none 0 0) := ⟨by simp, .inl ⟨rfl, _, _, rfl⟩⟩
theorem verN_c (A : St) : VerC A verN [.int .u32 0, .slice none 0 0, .slice none 0 0, .slice none 0 0] := ⟨_, _, _, rfl, View.nil .., View.nil .., View.nil ..⟩
theorem ldN {n : Nat} {cs : List Value} {e : TypeId} {m : Option Nat} (h : cs.length = n) : loadC (some true) (some n) (some (.cells cs e m)) 0 = some (.agg cs.toArray) := by
  rw [loadC_agg _ _ _ _ _ (by omega), List.drop_zero, ← h, List.take_length]
theorem stN {n : Nat} {X : St} {b : Nat} {z cs : List Value} {e : TypeId} (hz : z.length = n) (h : cs.length = n) (hc : cs.all cell1 = true) : storeC X (some n) (some (.cells z e (some 0))) b 0 (.agg cs.toArray) = some (X.upd b (some (.cells cs e (some 0)))) := by
  rw [storeC_aggS _ _ _ _ _ _ _ h.symm (Nat.le_refl _) (by omega), hc, guardO_true, set_all _ _ (by omega)]
theorem cellOf1 {v : Value} (h : one1 v = true) : cell1 v = true := by cases v <;> first | rfl | (simp [one1] at h)
structure ReqT where
  client : Int
  seq : Int
  op : VOp
def ReqC (A : St) (r : ReqT) (cs : List Value) : Prop := ∃ oc, cs = .int .i64 r.client :: .int .u32 r.seq :: oc ∧ VOpC A r.op oc
theorem ReqC.ge {A A' : St} {r : ReqT} {cs : List Value} (h : ReqC A r cs) (g : Ge A A') : ReqC A' r cs := by
  obtain ⟨oc, rfl, h⟩ := h; exact ⟨oc, rfl, h.ge g⟩
theorem VOpC.len {A : St} {o : VOp} {cs : List Value} (h : VOpC A o cs) : cs.length = 6 := by
  obtain ⟨vs, rfl, h⟩ := h; rw [List.length_cons, List.length_cons, h.len]
theorem VOpC.cell {A : St} {o : VOp} {cs : List Value} (h : VOpC A o cs) : cs.all cell1 = true := by
  obtain ⟨vs, rfl, h⟩ := h; rw [List.all_cons, List.all_cons, h.cell]; rfl
theorem ReqC.len {A : St} {r : ReqT} {cs : List Value} (h : ReqC A r cs) : cs.length = 8 := by
  obtain ⟨oc, rfl, h⟩ := h; rw [List.length_cons, List.length_cons, h.len]
theorem ReqC.cell {A : St} {r : ReqT} {cs : List Value} (h : ReqC A r cs) : cs.all cell1 = true := by
  obtain ⟨oc, rfl, h⟩ := h; rw [List.all_cons, List.all_cons, h.cell]; rfl
def RqV (A : St) (l : List ReqT) (v : Value) : Prop := NV A 8 (ReqC A) l v
theorem RqV.ge {A A' : St} {l : List ReqT} {v : Value} (h : RqV A l v) (g : Ge A A') : RqV A' l v := NV.ge h g (fun _ _ h => h.ge g)
def VOp.okA (o : VOp) : Prop := 0 ≤ o.id ∧ o.id < 4294967296 ∧ o.v.ok
def ReqT.okA (r : ReqT) : Prop := 0 ≤ r.seq ∧ r.seq < 4294967296 ∧ r.op.okA
theorem vrl_of {φ : Nat → Option Loc} {n : Nat} {ac cs : List Value} (h : VR φ n (.agg ac.toArray) (.agg cs.toArray)) : VRL φ n ac cs := by
  generalize h1 : ac.toArray = a at h
  generalize h2 : cs.toArray = c at h
  cases h with
  | agg _ _ hc hc' =>
    subst h1; subst h2
    exact ⟨by simpa using hc, fun i x y hx hy => hc' i x y (by simpa using hx) (by simpa using hy)⟩
theorem vrl_two {φ : Nat → Option Loc} {n : Nat} {a b : Value} {ac cs : List Value} (ha : VR φ n a a) (hb : VR φ n b b) (h : VRL φ n ac cs) : VRL φ n (a :: b :: ac) (a :: b :: cs) := by
  refine ⟨by simp [h.1], fun i x y hx hy => ?_⟩
  match i with
  | 0 => cases hx; cases hy; exact ha
  | 1 => cases hx; cases hy; exact hb
  | i + 2 => exact h.2 i x y (by simpa using hx) (by simpa using hy)
theorem start_op {w : World} {H : Type} {enc : TypeId × Value → H} {held : Bool} {φ : Nat → Option Loc} {A : St} (cs : List Value) (fuel : Nat) (x : DataW H × List MemPlace) (h : Start w φ A) (ht : DataW.trod enc Try.prog w 0 (fun _ => true) held fuel 29 cs = some x) :
    ∃ (φ' : Nat → Option Loc) (A' : St) (ac : List Value) (o : VOp), Start w φ' A' ∧ Ext A.next φ φ' ∧ Over A A' ∧ VRL φ' A'.next ac cs ∧ VOpC A' o ac ∧ ac.length = 6 ∧ o.okA := by
  obtain ⟨xs, m, _, _, hl, hxl, hf⟩ := DataW.trod_struct Try.underlying29 ht
  rw [show Try.prog.cellsOf 29 = 6 by kernel_rfl] at hl
  match cs, hl, xs, hxl with
  | [a, b, c, d, e, f], _, [y0, y1, y2], _ =>
    have h0 := hf 0 _ rfl
    have h1 := hf 1 _ rfl
    have h2 := hf 2 _ rfl
    change DataW.trod enc Try.prog w 0 (fun _ => true) held m 3 (([a, b, c, d, e, f].drop 0).take (Try.prog.cellsOf 3)) = _ at h0
    change DataW.trod enc Try.prog w 0 (fun _ => true) held m 22 (([a, b, c, d, e, f].drop 1).take (Try.prog.cellsOf 22)) = _ at h1
    change DataW.trod enc Try.prog w 0 (fun _ => true) held m 27 (([a, b, c, d, e, f].drop 2).take (Try.prog.cellsOf 27)) = _ at h2
    rw [show Try.prog.cellsOf 3 = 1 by kernel_rfl] at h0
    rw [show Try.prog.cellsOf 22 = 1 by kernel_rfl] at h1
    rw [show Try.prog.cellsOf 27 = 4 by kernel_rfl] at h2
    obtain ⟨i0, e0, _, w0⟩ := DataW.trod_int Try.underlying3 h0
    obtain ⟨i1, e1, _, w1⟩ := DataW.trod_int Try.underlying22 h1
    injection e0 with e0
    injection e1 with e1
    subst e0; subst e1
    obtain ⟨φ1, A1, v1, V, s1, x1, o1, r1, view1, ok1⟩ := start_ver h (enc := enc) h2
    obtain ⟨vc, rfl, hvc⟩ := view1.cells
    exact ⟨φ1, A1, .int .i64 i0 :: .int .u32 i1 :: vc, ⟨i0, i1, V⟩, s1, x1, o1, vrl_two (.int _ _) (.int _ _) (vrl_of r1), ⟨vc, rfl, hvc⟩, by rw [List.length_cons, List.length_cons, hvc.len], (wf_u32 w1).1, (wf_u32 w1).2, ok1⟩
theorem start_reqC {w : World} {H : Type} {enc : TypeId × Value → H} {held : Bool} {φ : Nat → Option Loc} {A : St} (cs : List Value) (fuel : Nat) (x : DataW H × List MemPlace) (h : Start w φ A) (ht : DataW.trod enc Try.prog w 0 (fun _ => true) held fuel 31 cs = some x) :
    ∃ (φ' : Nat → Option Loc) (A' : St) (ac : List Value) (r : ReqT), Start w φ' A' ∧ Ext A.next φ φ' ∧ Over A A' ∧ VRL φ' A'.next ac cs ∧ ReqC A' r ac ∧ ac.length = 8 ∧ r.okA := by
  obtain ⟨xs, m, _, _, hl, hxl, hf⟩ := DataW.trod_struct Try.underlying31 ht
  rw [show Try.prog.cellsOf 31 = 8 by kernel_rfl] at hl
  match cs, hl, xs, hxl with
  | [a, b, c, d, e, f, g, k], _, [y0, y1, y2], _ =>
    have h0 := hf 0 _ rfl
    have h1 := hf 1 _ rfl
    have h2 := hf 2 _ rfl
    change DataW.trod enc Try.prog w 0 (fun _ => true) held m 3 (([a, b, c, d, e, f, g, k].drop 0).take (Try.prog.cellsOf 3)) = _ at h0
    change DataW.trod enc Try.prog w 0 (fun _ => true) held m 22 (([a, b, c, d, e, f, g, k].drop 1).take (Try.prog.cellsOf 22)) = _ at h1
    change DataW.trod enc Try.prog w 0 (fun _ => true) held m 29 (([a, b, c, d, e, f, g, k].drop 2).take (Try.prog.cellsOf 29)) = _ at h2
    rw [show Try.prog.cellsOf 3 = 1 by kernel_rfl] at h0
    rw [show Try.prog.cellsOf 22 = 1 by kernel_rfl] at h1
    rw [show Try.prog.cellsOf 29 = 6 by kernel_rfl] at h2
    obtain ⟨i0, e0, _, w0⟩ := DataW.trod_int Try.underlying3 h0
    obtain ⟨i1, e1, _, w1⟩ := DataW.trod_int Try.underlying22 h1
    injection e0 with e0
    injection e1 with e1
    subst e0; subst e1
    obtain ⟨φ1, A1, oc, o, s1, x1, o1, r1, view1, l1, ok1⟩ := start_op _ _ _ h h2
    exact ⟨φ1, A1, .int .i64 i0 :: .int .u32 i1 :: oc, ⟨i0, i1, o⟩, s1, x1, o1, vrl_two (.int _ _) (.int _ _) r1, ⟨oc, rfl, view1⟩, by rw [List.length_cons, List.length_cons, l1], (wf_u32 w1).1, (wf_u32 w1).2, ok1⟩
def ReqV (A : St) (r : ReqT) (v : Value) : Prop := ∃ rc, v = .agg rc.toArray ∧ ReqC A r rc
theorem start_req {w : World} {φ : Nat → Option Loc} {A : St} (h : Start w φ A) {H : Type} {enc : TypeId × Value → H} {held : Bool} {fuel : Nat} {cs : List Value} {x : DataW H × List MemPlace} (ht : DataW.trod enc Try.prog w 0 (fun _ => true) held fuel 31 cs = some x) :
    ∃ (φ' : Nat → Option Loc) (A' : St) (v' : Value) (r : ReqT), Start w φ' A' ∧ Ext A.next φ φ' ∧ Over A A' ∧ VR φ' A'.next v' (.agg cs.toArray) ∧ ReqV A' r v' ∧ r.okA := by
  obtain ⟨φ1, A1, oc, o, s1, x1, o1, r1, view1, l1, ok1⟩ := start_reqC cs fuel x h ht
  exact ⟨φ1, A1, _, o, s1, x1, o1, r1.agg, ⟨oc, rfl, view1⟩, ok1⟩
def hvV (V : VerT) : Bool := decide (40 < V.blocks.length) || decide (40 < V.names.length) || decide (40 < V.sizes.length) || V.names.any fun n => decide (100 < n.size)
theorem hvV_small {V : VerT} (h : hvV V = false) : V.small := by
  unfold hvV at h
  simp only [Bool.or_eq_false_iff, decide_eq_false_iff_not] at h
  exact ⟨by omega, by omega, by omega⟩
theorem much_ok (w0 : World) (A : St) (V : VerT) (v : Value) (hv : VerV A V v) : ACalls Try.prog w0 8 #[v] A (fin (.bool (hvV V)) A) := by
  obtain ⟨b, n, s, rfl, vb, vn, vs⟩ := hv
  obtain ⟨ab, cb, rfl⟩ := View.sl0 vb
  obtain ⟨an, cn, rfl⟩ := View.sl0 vn
  obtain ⟨az, cs, rfl⟩ := View.sl0 vs
  obtain ⟨id, B, N, S⟩ := V
  simp only at vb vn vs ⊢
  refine call_E Try.enters8 Try.func8 rfl (Nat.le_of_ble_eq_true rfl) fun hw hbd => ?_
  obtain ⟨A1, hA1⟩ : ∃ A1, A1 = A.alloc (.cells [.int .u32 id, .slice ab B.length cb, .slice an N.length cn, .slice az S.length cs] 27 (some 0)) := ⟨_, rfl⟩
  have ov1 : Over A A1 := hA1 ▸ (Over.refl A).alloc _
  have hbx : A1.get A.next = some (.cells [.int .u32 id, .slice ab B.length cb, .slice an N.length cn, .slice az S.length cs] 27 (some 0)) := by rw [hA1]; exact get_alloc_same ..
  have vn1 : StView A1 N _ := View.over vn ov1
  by_cases a1 : 40 < B.length
  · have a1' : (B.length : Int) > 40 := by omega
    simp (maxSteps := 1000000) (disch := (first | omega | (simp only [nx_alloc, nx_upd, len_cons, len_nil, List.length_set, List.length_map, List.length_append] <;> omega) | fail)) only [go_sem, Try.ntmps8, Try.results8]
    rw [← hA1]
    exact gc_fin' hw ov1 (by simp [hvV, a1]) (.bool _)
  have a1' : ¬ (B.length : Int) > 40 := by omega
  by_cases a2 : 40 < N.length
  · have a2' : (N.length : Int) > 40 := by omega
    simp (maxSteps := 1000000) (disch := (first | omega | (simp only [nx_alloc, nx_upd, len_cons, len_nil, List.length_set, List.length_map, List.length_append] <;> omega) | fail)) only [go_sem, Try.ntmps8, Try.results8]
    rw [← hA1]
    exact gc_fin' hw ov1 (by simp [hvV, a2]) (.bool _)
  have a2' : ¬ (N.length : Int) > 40 := by omega
  by_cases a3 : 40 < S.length
  · have a3' : (S.length : Int) > 40 := by omega
    simp (maxSteps := 1000000) (disch := (first | omega | (simp only [nx_alloc, nx_upd, len_cons, len_nil, List.length_set, List.length_map, List.length_append] <;> omega) | fail)) only [go_sem, Try.ntmps8, Try.results8]
    rw [← hA1]
    exact gc_fin' hw ov1 (by simp [hvV, a3]) (.bool _)
  have a3' : ¬ (S.length : Int) > 40 := by omega
  have hhv : hvV ⟨id, B, N, S⟩ = N.any fun n => decide (100 < n.size) := by simp [hvV, a1, a2, a3]
  rw [hhv]
  simp (maxSteps := 1000000) (disch := (first | omega | (simp only [nx_alloc, nx_upd, len_cons, len_nil, List.length_set, List.length_map, List.length_append] <;> omega) | fail)) only [go_sem, Try.ntmps8, Try.results8]
  rw [← hA1]
  refine aw_loop (fun k x A' => ∃ (ρ : Nat → Value) (i : Nat), x = E 34 ρ [] ∧ A' = A1 ∧ k = N.length - i ∧ i ≤ N.length ∧ ((N.take i).any fun n => decide (100 < n.size)) = false ∧ ρ 1 = .pointer (some ⟨A.next, 0, none⟩) ∧ ρ 3 = .int .i64 i) N.length
    ⟨_, 0, rfl, rfl, rfl, Nat.zero_le _, rfl, rfl, rfl⟩ ?_
  rintro k x A' ⟨ρ, i, rfl, rfl, hk, hi, hno, g1, g3⟩
  refine aw_of ?_
  by_cases hend : i = N.length
  · have e1 : ¬ ((i : Int) < N.length) := by omega
    rw [hend, List.take_length] at hno
    simp (maxSteps := 1000000) (disch := (first | omega | (simp only [nx_alloc, nx_upd, len_cons, len_nil, List.length_set, List.length_map, List.length_append] <;> omega) | fail)) only [go_sem, g1, g3, hbx, Try.results8]
    exact gc_fin' hw ov1 (by rw [hno]) (.bool _)
  have e1 : ((i : Int) < N.length) := by omega
  obtain ⟨nm, hx⟩ : ∃ x, N[i]? = some x := ⟨_, List.getElem?_eq_getElem (by omega)⟩
  obtain ⟨pb, po, hb1, hb2, hb3, cells, e', md, hb4, hb5⟩ := View.at1 (P := Try.prog) (e := 9) vn1 Try.sz9 (strE_at _ i nm hx)
  by_cases a4 : 100 < nm.size
  · have a4' : (nm.size : Int) > 100 := by omega
    simp (maxSteps := 1000000) (disch := (first | omega | (simp only [nx_alloc, nx_upd, len_cons, len_nil, List.length_set, List.length_map, List.length_append] <;> omega) | fail)) only [go_sem, g1, g3, hbx, hb3, hb4, hb5, Try.results8]
    refine gc_fin' hw ov1 (congrArg Value.bool ?_) (.bool _)
    exact (List.any_eq_true.2 ⟨nm, List.mem_of_getElem? hx, by simp [a4]⟩).symm
  have a4' : ¬ (nm.size : Int) > 100 := by omega
  simp (maxSteps := 1000000) (disch := (first | omega | (simp only [nx_alloc, nx_upd, len_cons, len_nil, List.length_set, List.length_map, List.length_append] <;> omega) | fail)) only [go_sem, g1, g3, hbx, hb3, hb4, hb5]
  refine ⟨k - 1, by omega, _, i + 1, rfl, by omega, by omega, ?_, ?_, ?_⟩
  · rw [List.take_add_one, hx, List.any_append, hno]; simp [a4]
  · simp (maxSteps := 1000000) (disch := (first | omega | (simp only [nx_alloc, nx_upd, len_cons, len_nil, List.length_set, List.length_map, List.length_append] <;> omega) | fail)) only [go_sem, g1]
  · simp (maxSteps := 1000000) (disch := (first | omega | (simp only [nx_alloc, nx_upd, len_cons, len_nil, List.length_set, List.length_map, List.length_append] <;> omega) | fail)) only [go_sem]
    rfl
theorem u32E_at' (l : List Int) (i : Nat) (x : Int) (h : l[i]? = some x) : (l.flatMap u32E)[i]? = some (.int .u32 x) := by
  have := flatMap_at (encE := u32E) (sz := 1) l (fun y _ => rfl) i 0 (by decide)
  rw [Nat.mul_one, Nat.add_zero, h] at this
  exact this
/-- The same reply? -/
def sameR (R T : ReplyT) : Bool := decide (R.e = T.e) && decide (R.ids = T.ids) && eqV R.v T.v
theorem sameR_iff (R T : ReplyT) : sameR R T = true ↔ R = T := by
  obtain ⟨a, b, c⟩ := R
  obtain ⟨a', b', c'⟩ := T
  simp [sameR, eqV_iff, and_assoc]
theorem rsame17_ok (w0 : World) (A : St) (R T : ReplyT) (rc tc : List Value) (h : RepC A R rc) (h' : RepC A T tc) (s1 : R.v.small) (s2 : T.v.small) (hl : R.ids.length ≤ 1048576) :
    ACalls Try.prog w0 62 #[.agg rc.toArray, .agg tc.toArray] A (fin (.bool (sameR R T)) A) := by
  obtain ⟨wi, vs, rfl, hid, hvs⟩ := h
  obtain ⟨wi', vs', rfl, hid', hvs'⟩ := h'
  refine call_E Try.enters62 Try.func62 rfl (Nat.le_of_ble_eq_true rfl) fun hw hbd => ?_
  have hvl := hvs.len
  have hvl' := hvs'.len
  have htk : vs.take 4 = vs := List.take_of_length_le (by omega)
  have htk' : vs'.take 4 = vs' := List.take_of_length_le (by omega)
  obtain ⟨A1, hA1⟩ : ∃ A1, A1 = (A.alloc (.cells (.int .i64 R.e :: wi :: vs) 41 (some 0))).alloc (.cells (.int .i64 T.e :: wi' :: vs') 41 (some 0)) := ⟨_, rfl⟩
  have o1 : Over A A1 := by rw [hA1]; exact ((Over.refl A).alloc _).alloc _
  have g0 : A1.get A.next = some (.cells (.int .i64 R.e :: wi :: vs) 41 (some 0)) := by rw [hA1, get_alloc_old (by simp only [nx_alloc]; omega), get_alloc_same]
  have g1 : A1.get (A.next + 1) = some (.cells (.int .i64 T.e :: wi' :: vs') 41 (some 0)) := by rw [hA1]; exact get_alloc_same ..
  have hid1 : IdView A1 R.ids wi := View.over hid o1
  have hid1' : IdView A1 T.ids wi' := View.over hid' o1
  have hlen := View.lenU (e := 22) hid1
  have hlen' := View.lenU (e := 22) hid1'
  by_cases he : R.e = T.e
  rotate_left
  · have hs : sameR R T = false := by unfold sameR; rw [decide_eq_false he]; rfl
    rw [hs]
    simp (maxSteps := 1000000) (disch := (first | omega | (simp only [nx_alloc, nx_upd, len_cons, len_nil, List.length_set, List.length_map, List.length_append] <;> omega) | fail)) only [go_sem, Try.ntmps62, Try.results62, he]
    rw [← hA1]
    exact gc_fin' hw o1 rfl (.bool _)
  by_cases hn : R.ids.length = T.ids.length
  rotate_left
  · have hs : sameR R T = false := by unfold sameR; rw [decide_eq_false (fun e : R.ids = T.ids => hn (by rw [e]))]; simp
    have hn' : ¬ ((R.ids.length : Int) = T.ids.length) := by omega
    rw [hs]
    rw [he] at hA1
    simp (maxSteps := 1000000) (disch := (first | omega | (simp only [nx_alloc, nx_upd, len_cons, len_nil, List.length_set, List.length_map, List.length_append] <;> omega) | fail)) only [go_sem, Try.ntmps62, Try.results62, he]
    rw [← hA1]
    simp (maxSteps := 1000000) (disch := (first | omega | (simp only [nx_alloc, nx_upd, len_cons, len_nil, List.length_set, List.length_map, List.length_append] <;> omega) | fail)) only [go_sem, g0, g1, hlen, hlen', hn', Try.results62]
    exact gc_fin' hw o1 rfl (.bool _)
  have hn' : ((R.ids.length : Int) = T.ids.length) := by omega
  rw [he] at hA1
  simp (maxSteps := 1000000) (disch := (first | omega | (simp only [nx_alloc, nx_upd, len_cons, len_nil, List.length_set, List.length_map, List.length_append] <;> omega) | fail)) only [go_sem, Try.ntmps62, Try.results62, he]
  rw [← hA1]
  simp (maxSteps := 1000000) (disch := (first | omega | (simp only [nx_alloc, nx_upd, len_cons, len_nil, List.length_set, List.length_map, List.length_append] <;> omega) | fail)) only [go_sem, g0, g1, hlen, hlen', hn', htk, htk']
  refine call1 (rvsame_ok w0 A1 R.v T.v _ _ ((hvs.ge o1.ge).ver) ((hvs'.ge o1.ge).ver) s1 s2) ?_
  cases hv : eqV R.v T.v
  · have hs : sameR R T = false := by unfold sameR; rw [hv]; simp
    rw [hs]
    simp (maxSteps := 1000000) (disch := (first | omega | (simp only [nx_alloc, nx_upd, len_cons, len_nil, List.length_set, List.length_map, List.length_append] <;> omega) | fail)) only [go_sem, Try.results62]
    exact gc_fin' hw o1 rfl (.bool _)
  have hs : sameR R T = decide (R.ids = T.ids) := by unfold sameR; rw [hv, decide_eq_true he]; simp
  rw [hs]
  simp (maxSteps := 1000000) (disch := (first | omega | (simp only [nx_alloc, nx_upd, len_cons, len_nil, List.length_set, List.length_map, List.length_append] <;> omega) | fail)) only [go_sem]
  refine aw_loop (fun k x A' => ∃ (ρ : Nat → Value) (i : Nat), x = E 46 ρ [] ∧ A' = A1 ∧ k = R.ids.length - i ∧ i ≤ R.ids.length ∧ R.ids.take i = T.ids.take i ∧ ρ 2 = .pointer (some ⟨A.next, 0, none⟩) ∧ ρ 3 = .pointer (some ⟨A.next + 1, 0, none⟩) ∧ ρ 5 = .int .i64 i) R.ids.length
    ⟨_, 0, rfl, rfl, rfl, Nat.zero_le _, by simp, rfl, rfl, rfl⟩ ?_
  rintro k x A' ⟨ρ, i, rfl, rfl, hk, hi, heq, r2, r3, r5⟩
  refine aw_of ?_
  by_cases hend : i = R.ids.length
  · have e1 : ¬ ((i : Int) < R.ids.length) := by omega
    have hfin : R.ids = T.ids := by
      rw [hend, List.take_length, hn, List.take_length] at heq; exact heq
    simp (maxSteps := 1000000) (disch := (first | omega | (simp only [nx_alloc, nx_upd, len_cons, len_nil, List.length_set, List.length_map, List.length_append] <;> omega) | fail)) only [go_sem, r2, r3, r5, g0, hlen, Try.results62]
    exact gc_fin' hw o1 (congrArg Value.bool (decide_eq_true hfin).symm) (.bool _)
  have e1 : ((i : Int) < R.ids.length) := by omega
  obtain ⟨a, ha⟩ : ∃ a, R.ids[i]? = some a := ⟨R.ids[i]'(by omega), List.getElem?_eq_getElem (by omega)⟩
  obtain ⟨b, hb⟩ : ∃ a, T.ids[i]? = some a := ⟨T.ids[i]'(by omega), List.getElem?_eq_getElem (by omega)⟩
  obtain ⟨pb, po, q1, q2, q3, cells, e', md, q4, q5⟩ := View.at1 (P := Try.prog) (e := 22) hid1 Try.sz22 (u32E_at' _ i a ha)
  obtain ⟨pb', po', y1, y2, y3, cells', e'', md', y4, y5⟩ := View.at1 (P := Try.prog) (e := 22) hid1' Try.sz22 (u32E_at' _ i b hb)
  simp (maxSteps := 1000000) (disch := (first | omega | (simp only [nx_alloc, nx_upd, len_cons, len_nil, List.length_set, List.length_map, List.length_append] <;> omega) | fail)) only [go_sem, r2, r3, r5, g0, hlen]
  refine aw_draw2 [⟨false, [], [0]⟩, ⟨false, [0], [0]⟩, ⟨false, [], [0]⟩, ⟨false, [0, 1, 2], [0]⟩, ⟨false, [0, 1, 2, 3], [0]⟩, ⟨false, [], [0]⟩, ⟨false, [5], [0]⟩, ⟨false, [], [0]⟩, ⟨false, [5, 6, 7], [0]⟩, ⟨false, [5, 6, 7, 8], [0]⟩, ⟨false, [0, 1, 2, 3, 4, 5, 6, 7, 8, 9], [0]⟩] [A'] 0 (by kernel_rfl) (by kernel_rfl) rfl ?_
  by_cases hab : a = b
  · simp (maxSteps := 1000000) (disch := (first | omega | (simp only [nx_alloc, nx_upd, len_cons, len_nil, List.length_set, List.length_map, List.length_append] <;> omega) | fail)) only [go_sem, r2, r3, r5, g0, g1, q3, q4, q5, y3, y4, y5, hab]
    refine ⟨k - 1, by omega, _, i + 1, rfl, by omega, by omega, ?_, ?_, ?_, ?_⟩
    · rw [List.take_add_one, List.take_add_one, heq, ha, hb, hab]
    · simp (maxSteps := 1000000) (disch := (first | omega | (simp only [nx_alloc, nx_upd, len_cons, len_nil, List.length_set, List.length_map, List.length_append] <;> omega) | fail)) only [go_sem, r2]
    · simp (maxSteps := 1000000) (disch := (first | omega | (simp only [nx_alloc, nx_upd, len_cons, len_nil, List.length_set, List.length_map, List.length_append] <;> omega) | fail)) only [go_sem, r3]
    · simp (maxSteps := 1000000) (disch := (first | omega | (simp only [nx_alloc, nx_upd, len_cons, len_nil, List.length_set, List.length_map, List.length_append] <;> omega) | fail)) only [go_sem]
      rfl
  · simp (maxSteps := 1000000) (disch := (first | omega | (simp only [nx_alloc, nx_upd, len_cons, len_nil, List.length_set, List.length_map, List.length_append] <;> omega) | fail)) only [go_sem, r2, r3, r5, g0, g1, q3, q4, q5, y3, y4, y5, hab, Try.results62]
    refine gc_fin' hw o1 (congrArg Value.bool (decide_eq_false ?_).symm) (.bool _)
    intro e
    rw [e, hb] at ha
    cases ha; exact hab rfl
theorem verN_small : verN.small := ⟨Nat.zero_le _, Nat.zero_le _, Nat.zero_le _⟩
theorem NV.pre {α : Type} {P : Program} {A : St} {sz k e : Nat} {ik : IntKind} {E : α → List Value → Prop} {l : List α} {v : Value} (h : NV A sz E l v) (hs : SlOk sz v) (hsz : tsz P e = some sz) (h0 : 0 < sz) (hk : k ≤ l.length) : ∃ v', sliceU (some (.slice e)) (tsz P) v none (some (.int ik (k : Int))) none = some v' ∧ NV A sz E (l.take k) v' ∧ SlOk sz v' := by
  obtain ⟨css, ha, hl, hv⟩ := h
  obtain ⟨v', h1, h2, h3, _⟩ := View.pre (P := P) (e := e) (ik := ik) hv hs hsz h0 hk
  refine ⟨v', h1, ⟨css.take k, ha.take k, fun cs hc => hl cs (List.mem_of_mem_take hc), ?_⟩, h3⟩
  rw [← flat_take k hl, List.length_take, Nat.min_eq_left hk]; exact h2
theorem ReqV.over {A A' : St} {r : ReqT} {v : Value} (h : ReqV A r v) (o : Over A A') : ReqV A' r v := by
  obtain ⟨rc, rfl, h⟩ := h; exact ⟨rc, rfl, h.ge o.ge⟩
end Go.Fw
