import Derived.Test.YtphfkbagjpcmpaaFwHeader7
import Derived.Test.YtphfkbagjpcmpaaFw36
set_option linter.unusedSimpArgs false
set_option linter.unusedVariables false
namespace Go.Fw
open Go.Proofs Go.RowKit
theorem Try.enters56 : Enters Try.prog 56 := enters_of Try.func56 rfl (by kernel_rfl)
theorem Try.enters38 : Enters Try.prog 38 := enters_of Try.func38 rfl (by kernel_rfl)
theorem Try.enters55 : Enters Try.prog 55 := enters_of Try.func55 rfl (by kernel_rfl)
/-- A version's cells. -/
def VerC (A : St) (V : VerT) (cs : List Value) : Prop := ∃ p q u, cs = [.int .u32 V.id, p, q, u] ∧ HsView A V.blocks p ∧ StView A V.names q ∧ InView A V.sizes u
theorem VerC.ge {A A' : St} {V : VerT} {cs : List Value} (h : VerC A V cs) (g : Ge A A') : VerC A' V cs := by
  obtain ⟨p, q, u, rfl, h1, h2, h3⟩ := h
  exact ⟨p, q, u, rfl, View.ge h1 g, View.ge h2 g, View.ge h3 g⟩
theorem VerC.len {A : St} {V : VerT} {cs : List Value} (h : VerC A V cs) : cs.length = 4 := by
  obtain ⟨p, q, u, rfl, _⟩ := h; rfl
theorem VerC.ver {A : St} {V : VerT} {cs : List Value} (h : VerC A V cs) : VerV A V (.agg cs.toArray) := by
  obtain ⟨p, q, u, rfl, h1, h2, h3⟩ := h
  exact ⟨p, q, u, rfl, h1, h2, h3⟩
theorem VerV.cells {A : St} {V : VerT} {v : Value} (h : VerV A V v) : ∃ cs, v = .agg cs.toArray ∧ VerC A V cs := by
  obtain ⟨p, q, u, rfl, h1, h2, h3⟩ := h
  exact ⟨_, rfl, p, q, u, rfl, h1, h2, h3⟩
theorem VerC.cell {A : St} {V : VerT} {cs : List Value} (h : VerC A V cs) : cs.all cell1 = true := by
  obtain ⟨p, q, u, rfl, h1, h2, h3⟩ := h
  obtain ⟨_, _, rfl⟩ := View.sl0 h1
  obtain ⟨_, _, rfl⟩ := View.sl0 h2
  obtain ⟨_, _, rfl⟩ := View.sl0 h3
  rfl
/-- Elements that are things of sz cells. -/
def NV {α : Type} (A : St) (sz : Nat) (E : α → List Value → Prop) (l : List α) (v : Value) : Prop := ∃ css, All2 E l css ∧ (∀ cs ∈ css, cs.length = sz) ∧ View A sz css.flatten l.length v
theorem NV.view {α : Type} {A : St} {sz : Nat} {E : α → List Value → Prop} {l : List α} {v : Value} (h : NV A sz E l v) : ∃ cs, View A sz cs l.length v := by
  obtain ⟨css, _, _, h⟩ := h; exact ⟨_, h⟩
theorem NV.lenU {α : Type} {A : St} {sz : Nat} {e : TypeId} {E : α → List Value → Prop} {l : List α} {v : Value} (h : NV A sz E l v) : lenU A (some (.slice e)) v = some (.int .i64 l.length, A) := by
  obtain ⟨css, _, _, h⟩ := h; exact View.lenU h
theorem NV.ge {α : Type} {A A' : St} {sz : Nat} {E E' : α → List Value → Prop} {l : List α} {v : Value} (h : NV A sz E l v) (g : Ge A A') (he : ∀ a cs, E a cs → E' a cs) : NV A' sz E' l v := by
  obtain ⟨css, h1, h2, h3⟩ := h
  exact ⟨css, h1.imp he, h2, View.ge h3 g⟩
/-- An element: its address, its cells. -/
theorem NV.at {α : Type} {P : Program} {A : St} {sz e : Nat} {E : α → List Value → Prop} {l : List α} {v : Value} (h : NV A sz E l v) (hsz : tsz P e = some sz) {i : Nat} {a : α} (hi : l[i]? = some a) :
    ∃ b off cs, b < A.next ∧ (∀ k : IntKind, indexAddrU P (some (.slice e)) v (.int k i) = some (.pointer (some ⟨b, off, none⟩))) ∧ E a cs ∧ cs.length = sz ∧ ∃ cells e' m, A.get b = some (.cells cells e' m) ∧ off + sz ≤ cells.length ∧ (cells.drop off).take sz = cs := by
  obtain ⟨css, h1, h2, h3⟩ := h
  have hlt : i < l.length := (List.getElem?_eq_some_iff.1 hi).1
  obtain ⟨cs, hcs, he⟩ := h1.get hi
  obtain ⟨b, off, q1, q2, q3, cells, e', m, q4, q5, q6⟩ := h3.at (e := e) hsz hlt
  exact ⟨b, off, cs, q1, q3, he, h2 cs (List.mem_of_getElem? hcs), cells, e', m, q4, q5, by rw [q6]; exact flat_elem h2 hcs⟩
theorem ld_agg {sz off : Nat} {cells cs : List Value} {e' : TypeId} {m : Option Nat} (h1 : off + sz ≤ cells.length) (h2 : (cells.drop off).take sz = cs) : loadC (some true) (some sz) (some (.cells cells e' m)) off = some (.agg cs.toArray) := by
  rw [loadC_agg _ _ _ _ _ h1, h2]
theorem ld_one {sz off : Nat} {cells cs : List Value} (h2 : (cells.drop off).take sz = cs) (j : Nat) (hj : j < sz) : cells[off + j]? = cs[j]? := by
  rw [← h2, List.getElem?_take, if_pos hj, List.getElem?_drop]
/-- A slice that may be appended to, and sliced again. -/
def SlB (A : St) (sz : Nat) (v : Value) : Prop := ∃ ad n c, v = .slice ad n c ∧ n ≤ c ∧ (ad = none ∧ c = 0 ∨ ∃ b off sp cells e m, ad = some ⟨b, off, sp⟩ ∧ (sp = none ∨ sp = some sz) ∧ b < A.next ∧ A.get b = some (.cells cells e m) ∧ off ≤ cells.length)
theorem SlB.ge {A A' : St} {sz : Nat} {v : Value} (h : SlB A sz v) (g : Ge A A') : SlB A' sz v := by
  obtain ⟨ad, n, c, rfl, h1, h2⟩ := h
  refine ⟨ad, n, c, rfl, h1, ?_⟩
  rcases h2 with h2 | ⟨b, off, sp, cells, e, m, rfl, h3, h4, h5, h6⟩
  · exact .inl h2
  · exact .inr ⟨b, off, sp, cells, e, m, rfl, h3, Nat.lt_of_lt_of_le h4 g.next, g.get b _ h4 h5, h6⟩
theorem SlB.ok {A : St} {sz : Nat} {v : Value} (h : SlB A sz v) : SlOk sz v := by
  obtain ⟨ad, n, c, rfl, h1, h2⟩ := h
  refine ⟨ad, n, c, rfl, h1, ?_⟩
  rcases h2 with ⟨h2, _⟩ | ⟨b, off, sp, cells, e, m, rfl, h3, h4, h5, h6⟩
  · exact .inl h2
  · exact .inr ⟨b, off, sp, rfl, h3.elim .inl (fun h => .inr (.inr h))⟩
/-- A vault's versions. -/
def VsV (A : St) (l : List VerT) (v : Value) : Prop := NV A 4 (VerC A) l v ∧ SlB A 4 v
theorem VsV.ge {A A' : St} {l : List VerT} {v : Value} (h : VsV A l v) (g : Ge A A') : VsV A' l v := ⟨NV.ge h.1 g (fun _ _ h => h.ge g), h.2.ge g⟩
theorem VsV.nil (A : St) : VsV A [] (.slice none 0 0) := ⟨⟨[], .nil, fun cs h => (by cases h), by simp, .inl ⟨rfl, _, _, rfl⟩⟩, _, _, _, rfl, Nat.le_refl _, .inl ⟨rfl, rfl⟩⟩
theorem VsV.sl {A : St} {l : List VerT} {v : Value} (h : VsV A l v) : ∃ ad c, v = .slice ad l.length c := by
  obtain ⟨css, _, _, hv⟩ := h.1
  obtain ⟨ad, n, c, rfl, _⟩ := h.2
  rcases hv.2 with ⟨h0, _, _, e⟩ | ⟨_, _, _, _, _, _, _, e, _⟩
  · cases e; exact ⟨_, _, by rw [h0]⟩
  · cases e; exact ⟨_, _, rfl⟩
/-- Where a version stands. -/
def placeN (l : List VerT) (id : Int) : Nat → Int
  | i => if h : i < l.length then (if (l[i]'h).id = id then (i : Int) else placeN l id (i + 1)) else -1
termination_by i => l.length - i
def placeL (l : List VerT) (id : Int) : Int := placeN l id 0
theorem placeN_end {l : List VerT} {id : Int} {i : Nat} (h : l.length ≤ i) : placeN l id i = -1 := by rw [placeN, dif_neg (by omega)]
theorem placeN_at {l : List VerT} {id : Int} {i : Nat} {V : VerT} (h : l[i]? = some V) : placeN l id i = if V.id = id then (i : Int) else placeN l id (i + 1) := by
  obtain ⟨hlt, rfl⟩ := List.getElem?_eq_some_iff.1 h
  rw [placeN, dif_pos hlt]
set_option maxHeartbeats 1000000 in
theorem place1_ok (w0 : World) (A : St) (V : VerT) (cs : List Value) (h : VerC A V cs) (c : Nat) (id : Int) (hc : A.get c = some (.cells [.int .u32 id] 23 (some 0))) (hlt : c < A.next) :
    ACalls Try.prog w0 56 #[.agg cs.toArray, .pointer (some ⟨c, 0, none⟩)] A (fin (.bool (decide (V.id = id))) A) := by
  obtain ⟨p, q, u, rfl, _⟩ := h
  refine call_E Try.enters56 Try.func56 rfl (Nat.le_of_ble_eq_true rfl) fun hw hbd => ?_
  simp (maxSteps := 1000000) (disch := (first | omega | (simp only [nx_alloc, nx_upd, len_cons, len_nil, List.length_set, List.length_map, List.length_append] <;> omega) | fail)) only [Nat.reduceAdd, Nat.reduceSub, Nat.reduceMul, Nat.reduceLT, Nat.reduceLeDiff, Nat.reduceEqDiff, ↓reduceIte, reduceCtorEq, Int.reduceAdd, Int.reduceSub, Int.reduceMul, Int.reduceLT, Int.reduceLE, Int.reduceEq, Int.reduceNe, Int.reduceToNat, Int.reduceNeg, go_sem, Try.ntmps56, Try.results56, hc]
  exact gc_fin' hw ((Over.refl A).alloc _) rfl (.bool _)
set_option maxHeartbeats 2000000 in
theorem indexF_ok (w0 : World) (A : St) (l : List VerT) (v : Value) (h : VsV A l v) (hl : l.length ≤ 1048576) (c : Nat) (id : Int) (hc : A.get c = some (.cells [.int .u32 id] 23 (some 0))) (hlt : c < A.next) :
    ACalls Try.prog w0 55 #[v, .func (.func 56) #[] #[.pointer (some ⟨c, 0, none⟩)]] A (fin (.int .i64 (placeL l id)) A) := by
  refine call_E Try.enters55 Try.func55 rfl (Nat.le_of_ble_eq_true rfl) fun hw hbd => ?_
  have hlen := NV.lenU (e := 28) h.1
  simp (maxSteps := 1000000) (disch := (first | omega | (simp only [nx_alloc, nx_upd, len_cons, len_nil, List.length_set, List.length_map, List.length_append] <;> omega) | fail)) only [Nat.reduceAdd, Nat.reduceSub, Nat.reduceMul, Nat.reduceLT, Nat.reduceLeDiff, Nat.reduceEqDiff, ↓reduceIte, reduceCtorEq, Int.reduceAdd, Int.reduceSub, Int.reduceMul, Int.reduceLT, Int.reduceLE, Int.reduceEq, Int.reduceNe, Int.reduceToNat, Int.reduceNeg, go_sem, Try.ntmps55, Try.results55, hlen]
  refine aw_loop (fun k x A' => ∃ (ρ : Nat → Value) (i : Nat), x = E 19 ρ [] ∧ A' = A ∧ k = l.length - i ∧ i ≤ l.length ∧ placeN l id i = placeL l id ∧
      ρ 0 = v ∧ ρ 1 = .func (.func 56) #[] #[.pointer (some ⟨c, 0, none⟩)] ∧ ρ 7 = .int .i64 l.length ∧ ρ 8 = .int .i64 i) l.length
    ⟨_, 0, rfl, rfl, rfl, Nat.zero_le _, rfl, rfl, rfl, rfl, rfl⟩ ?_
  rintro k x A' ⟨ρ, i, rfl, rfl, hk, hi, hp, g0, g1, g7, g8⟩
  refine aw_of ?_
  by_cases hend : i = l.length
  · have e1 : ¬ ((i : Int) < l.length) := by omega
    have hm : placeL l id = -1 := by rw [← hp]; exact placeN_end (by omega)
    rw [hm]
    simp (maxSteps := 1000000) (disch := (first | omega | (simp only [nx_alloc, nx_upd, len_cons, len_nil, List.length_set, List.length_map, List.length_append] <;> omega) | fail)) only [Nat.reduceAdd, Nat.reduceSub, Nat.reduceMul, Nat.reduceLT, Nat.reduceLeDiff, Nat.reduceEqDiff, ↓reduceIte, reduceCtorEq, Int.reduceAdd, Int.reduceSub, Int.reduceMul, Int.reduceLT, Int.reduceLE, Int.reduceEq, Int.reduceNe, Int.reduceToNat, Int.reduceNeg, go_sem, g0, g1, g7, g8, Try.results55]
    exact gc_fin' hw (Over.refl _) rfl (.int _ _)
  have e1 : ((i : Int) < l.length) := by omega
  obtain ⟨V, hV⟩ : ∃ V, l[i]? = some V := ⟨l[i]'(by omega), List.getElem?_eq_getElem (by omega)⟩
  obtain ⟨b, off, cs, hb1, hb2, hb3, hb4, cells, e', m, hb5, hb6, hb7⟩ := h.1.at (P := Try.prog) (e := 28) Try.sz28 hV
  have hld := ld_agg (e' := e') (m := m) hb6 hb7
  have hpl := placeN_at (id := id) hV
  rw [hp] at hpl
  simp (maxSteps := 1000000) (disch := (first | omega | (simp only [nx_alloc, nx_upd, len_cons, len_nil, List.length_set, List.length_map, List.length_append] <;> omega) | fail)) only [Nat.reduceAdd, Nat.reduceSub, Nat.reduceMul, Nat.reduceLT, Nat.reduceLeDiff, Nat.reduceEqDiff, ↓reduceIte, reduceCtorEq, Int.reduceAdd, Int.reduceSub, Int.reduceMul, Int.reduceLT, Int.reduceLE, Int.reduceEq, Int.reduceNe, Int.reduceToNat, Int.reduceNeg, go_sem, g0, g1, g7, g8, hb2, hb5, hld]
  refine call1 (place1_ok w0 A' V cs hb3 c id hc hlt) ?_
  by_cases hid : V.id = id
  · rw [if_pos hid] at hpl
    rw [hpl]
    simp (maxSteps := 1000000) (disch := (first | omega | (simp only [nx_alloc, nx_upd, len_cons, len_nil, List.length_set, List.length_map, List.length_append] <;> omega) | fail)) only [Nat.reduceAdd, Nat.reduceSub, Nat.reduceMul, Nat.reduceLT, Nat.reduceLeDiff, Nat.reduceEqDiff, ↓reduceIte, reduceCtorEq, Int.reduceAdd, Int.reduceSub, Int.reduceMul, Int.reduceLT, Int.reduceLE, Int.reduceEq, Int.reduceNe, Int.reduceToNat, Int.reduceNeg, go_sem, hid, g8, Try.results55]
    exact gc_fin' hw (Over.refl _) rfl (.int _ _)
  · rw [if_neg hid] at hpl
    simp (maxSteps := 1000000) (disch := (first | omega | (simp only [nx_alloc, nx_upd, len_cons, len_nil, List.length_set, List.length_map, List.length_append] <;> omega) | fail)) only [Nat.reduceAdd, Nat.reduceSub, Nat.reduceMul, Nat.reduceLT, Nat.reduceLeDiff, Nat.reduceEqDiff, ↓reduceIte, reduceCtorEq, Int.reduceAdd, Int.reduceSub, Int.reduceMul, Int.reduceLT, Int.reduceLE, Int.reduceEq, Int.reduceNe, Int.reduceToNat, Int.reduceNeg, go_sem, hid, g8]
    refine ⟨k - 1, by omega, _, i + 1, rfl, by omega, by omega, hpl.symm, ?_, ?_, ?_, ?_⟩
    · simp (maxSteps := 1000000) (disch := (first | omega | (simp only [nx_alloc, nx_upd, len_cons, len_nil, List.length_set, List.length_map, List.length_append] <;> omega) | fail)) only [Nat.reduceAdd, Nat.reduceSub, Nat.reduceMul, Nat.reduceLT, Nat.reduceLeDiff, Nat.reduceEqDiff, ↓reduceIte, reduceCtorEq, Int.reduceAdd, Int.reduceSub, Int.reduceMul, Int.reduceLT, Int.reduceLE, Int.reduceEq, Int.reduceNe, Int.reduceToNat, Int.reduceNeg, go_sem, g0]
    · simp (maxSteps := 1000000) (disch := (first | omega | (simp only [nx_alloc, nx_upd, len_cons, len_nil, List.length_set, List.length_map, List.length_append] <;> omega) | fail)) only [Nat.reduceAdd, Nat.reduceSub, Nat.reduceMul, Nat.reduceLT, Nat.reduceLeDiff, Nat.reduceEqDiff, ↓reduceIte, reduceCtorEq, Int.reduceAdd, Int.reduceSub, Int.reduceMul, Int.reduceLT, Int.reduceLE, Int.reduceEq, Int.reduceNe, Int.reduceToNat, Int.reduceNeg, go_sem, g1]
    · simp (maxSteps := 1000000) (disch := (first | omega | (simp only [nx_alloc, nx_upd, len_cons, len_nil, List.length_set, List.length_map, List.length_append] <;> omega) | fail)) only [Nat.reduceAdd, Nat.reduceSub, Nat.reduceMul, Nat.reduceLT, Nat.reduceLeDiff, Nat.reduceEqDiff, ↓reduceIte, reduceCtorEq, Int.reduceAdd, Int.reduceSub, Int.reduceMul, Int.reduceLT, Int.reduceLE, Int.reduceEq, Int.reduceNe, Int.reduceToNat, Int.reduceNeg, go_sem, g7]
    · simp (maxSteps := 1000000) (disch := (first | omega | (simp only [nx_alloc, nx_upd, len_cons, len_nil, List.length_set, List.length_map, List.length_append] <;> omega) | fail)) only [Nat.reduceAdd, Nat.reduceSub, Nat.reduceMul, Nat.reduceLT, Nat.reduceLeDiff, Nat.reduceEqDiff, ↓reduceIte, reduceCtorEq, Int.reduceAdd, Int.reduceSub, Int.reduceMul, Int.reduceLT, Int.reduceLE, Int.reduceEq, Int.reduceNe, Int.reduceToNat, Int.reduceNeg, go_sem]
      rfl
theorem place_ok (w0 : World) (A : St) (l : List VerT) (v : Value) (h : VsV A l v) (hl : l.length ≤ 1048576) (id : Int) : ACalls Try.prog w0 38 #[v, .int .u32 id] A (fin (.int .i64 (placeL l id)) A) := by
  refine call_E Try.enters38 Try.func38 rfl (Nat.le_of_ble_eq_true rfl) fun hw hbd => ?_
  have o1 : Over A (A.alloc (.cells [.int .u32 id] 23 (some 0))) := (Over.refl A).alloc _
  simp (maxSteps := 1000000) (disch := (first | omega | (simp only [nx_alloc, nx_upd, len_cons, len_nil, List.length_set, List.length_map, List.length_append] <;> omega) | fail)) only [Nat.reduceAdd, Nat.reduceSub, Nat.reduceMul, Nat.reduceLT, Nat.reduceLeDiff, Nat.reduceEqDiff, ↓reduceIte, reduceCtorEq, Int.reduceAdd, Int.reduceSub, Int.reduceMul, Int.reduceLT, Int.reduceLE, Int.reduceEq, Int.reduceNe, Int.reduceToNat, Int.reduceNeg, go_sem, Try.ntmps38, Try.results38]
  refine call1 (indexF_ok w0 _ l v (h.ge o1.ge) hl A.next id (get_alloc_same ..) (by simp only [nx_alloc]; omega)) ?_
  simp (maxSteps := 1000000) (disch := (first | omega | (simp only [nx_alloc, nx_upd, len_cons, len_nil, List.length_set, List.length_map, List.length_append] <;> omega) | fail)) only [Nat.reduceAdd, Nat.reduceSub, Nat.reduceMul, Nat.reduceLT, Nat.reduceLeDiff, Nat.reduceEqDiff, ↓reduceIte, reduceCtorEq, Int.reduceAdd, Int.reduceSub, Int.reduceMul, Int.reduceLT, Int.reduceLE, Int.reduceEq, Int.reduceNe, Int.reduceToNat, Int.reduceNeg, go_sem, Try.results38]
  exact gc_fin' hw o1 rfl (.int _ _)
end Go.Fw
