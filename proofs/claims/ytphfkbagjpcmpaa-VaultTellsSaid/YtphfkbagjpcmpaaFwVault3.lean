import Derived.Test.YtphfkbagjpcmpaaFwVault2
set_option linter.unusedSimpArgs false
set_option linter.unusedVariables false
namespace Go.Fw
open Go.Proofs Go.RowKit
theorem Try.enters35 : Enters Try.prog 35 := enters_of Try.func35 rfl (by kernel_rfl)
theorem Try.enters36 : Enters Try.prog 36 := enters_of Try.func36 rfl (by kernel_rfl)
theorem Try.enters40 : Enters Try.prog 40 := enters_of Try.func40 rfl (by kernel_rfl)
theorem Try.enters43 : Enters Try.prog 43 := enters_of Try.func43 rfl (by kernel_rfl)
theorem Try.enters45 : Enters Try.prog 45 := enters_of Try.func45 rfl (by kernel_rfl)
theorem Try.enters46 : Enters Try.prog 46 := enters_of Try.func46 rfl (by kernel_rfl)
structure ReplyT where
  e : Int
  ids : List Int
  v : VerT
structure VOp where
  kind : Int
  id : Int
  v : VerT
def verN : VerT := ⟨0, [], [], []⟩
def errR (e : Int) : ReplyT := ⟨e, [], verN⟩
/-- What is done to versions. -/
def doL (l : List VerT) (o : VOp) : List VerT × ReplyT :=
  if o.kind = 1 then
    if mayB o.v = false then (l, errR 1) else if 0 ≤ placeL l o.v.id then (l, errR 4) else if 8 ≤ l.length then (l, errR 2) else (l ++ [o.v], errR 0)
  else if o.kind = 2 then
    if placeL l o.id < 0 then (l, errR 3) else (l.eraseIdx (placeL l o.id).toNat, errR 0)
  else if o.kind = 3 then
    (l.drop (l.length - min o.id.toNat l.length), ⟨0, (l.take (l.length - min o.id.toNat l.length)).map (·.id), verN⟩)
  else if o.kind = 4 then (l, ⟨0, l.map (·.id), verN⟩)
  else if o.kind = 5 then
    if placeL l o.id < 0 then (l, errR 3) else (l, ⟨0, [], l.getD (placeL l o.id).toNat verN⟩)
  else (l, errR 180)
def RepC (A : St) (R : ReplyT) (cs : List Value) : Prop := ∃ w vs, cs = .int .i64 R.e :: w :: vs ∧ IdView A R.ids w ∧ VerC A R.v vs
theorem RepC.ge {A A' : St} {R : ReplyT} {cs : List Value} (h : RepC A R cs) (g : Ge A A') : RepC A' R cs := by
  obtain ⟨w, vs, rfl, h1, h2⟩ := h
  exact ⟨w, vs, rfl, View.ge h1 g, h2.ge g⟩
theorem RepC.ex {A : St} {R : ReplyT} {cs : List Value} (h : RepC A R cs) : ∃ a n c p q u, cs = [.int .i64 R.e, .slice a n c, .int .u32 R.v.id, p, q, u] ∧ cell1 p = true ∧ cell1 q = true ∧ cell1 u = true := by
  obtain ⟨w, vs, rfl, h1, p, q, u, rfl, h2, h3, h4⟩ := h
  obtain ⟨_, _, rfl⟩ := View.sl0 h1
  obtain ⟨_, _, rfl⟩ := View.sl0 h2
  obtain ⟨_, _, rfl⟩ := View.sl0 h3
  obtain ⟨_, _, rfl⟩ := View.sl0 h4
  exact ⟨_, _, _, _, _, _, rfl, rfl, rfl, rfl⟩
theorem RepC.len {A : St} {R : ReplyT} {cs : List Value} (h : RepC A R cs) : cs.length = 6 := by
  obtain ⟨a, n, c, p, q, u, rfl, _⟩ := h.ex; rfl
theorem RepC.cell {A : St} {R : ReplyT} {cs : List Value} (h : RepC A R cs) : cs.all cell1 = true := by
  obtain ⟨a, n, c, p, q, u, rfl, h1, h2, h3⟩ := h.ex
  simp only [List.all_cons, List.all_nil, h1, h2, h3]; rfl
def VOpC (A : St) (o : VOp) (cs : List Value) : Prop := ∃ vs, cs = .int .i64 o.kind :: .int .u32 o.id :: vs ∧ VerC A o.v vs
theorem VOpC.ge {A A' : St} {o : VOp} {cs : List Value} (h : VOpC A o cs) (g : Ge A A') : VOpC A' o cs := by
  obtain ⟨vs, rfl, h1⟩ := h
  exact ⟨vs, rfl, h1.ge g⟩
def errC (e : Int) : List Value := [.int .i64 e, .slice none 0 0, .int .u32 0, .slice none 0 0, .slice none 0 0, .slice none 0 0]
theorem View.nil (A : St) (sz : Nat) : View A sz [] 0 (.slice none 0 0) := ⟨by simp, .inl ⟨rfl, _, _, rfl⟩⟩
theorem verN_c (A : St) : VerC A verN [.int .u32 0, .slice none 0 0, .slice none 0 0, .slice none 0 0] := ⟨_, _, _, rfl, View.nil .., View.nil .., View.nil ..⟩
theorem errC_rep (A : St) (e : Int) : RepC A (errR e) (errC e) := ⟨_, _, rfl, View.nil .., verN_c A⟩
theorem actwrong_ok (w0 : World) (A : St) (v : Value) (e : Int) : ACalls Try.prog w0 35 #[v, .int .i64 e] A (fin (.tuple #[v, .agg (errC e).toArray]) A) := by
  refine call_E Try.enters35 Try.func35 rfl (Nat.le_of_ble_eq_true rfl) fun hw hbd => ?_
  have hb : Bnd A.next v := hbd 0 v rfl
  simp (maxSteps := 1000000) (disch := (first | omega | (simp only [nx_alloc, nx_upd, len_cons, len_nil, List.length_set, List.length_map, List.length_append] <;> omega) | fail)) only [Nat.reduceAdd, Nat.reduceSub, Nat.reduceMul, Nat.reduceLT, Nat.reduceLeDiff, Nat.reduceEqDiff, ↓reduceIte, reduceCtorEq, Int.reduceAdd, Int.reduceSub, Int.reduceMul, Int.reduceLT, Int.reduceLE, Int.reduceEq, Int.reduceNe, Int.reduceToNat, Int.reduceNeg, go_sem, Try.ntmps35, Try.results35]
  refine gc_fin' hw (((Over.refl A).alloc _).upd (by omega) _) rfl ?_
  unfold errC
  simp only [bnd_tuple, bndL_cons, bndL_nil, bnd_agg, bnd_int, bnd_slice0, hb, and_self]
theorem IdRow.hideU {A : St} {lo : Nat} {l : List Int} {v : Value} (h : IdRow A lo l v) {c : Nat} (hc : c < lo) (B : Option Blk) {L : List Nat} (hL : ∀ b ∈ L, b < lo) : IdView ((A.upd c B).hide L) l v := by
  have r : IdRow (A.upd c B) lo l v := Row.keep h (Nat.le_refl _) (fun b _ hb _ => by rw [St.get_upd, if_neg (by omega)]) (Nat.le_refl _)
  exact Row.viewH r hL
set_option maxHeartbeats 2000000 in
theorem act4_ok (w0 : World) (A : St) (L : List Nat) (hL : ∀ b ∈ L, b < A.next) (l : List VerT) (v : Value) (o : VOp) (oc : List Value) (hv : VsV (A.hide L) l v) (ho : VOpC (A.hide L) o oc) (hl : l.length ≤ 1000000) (hk : o.kind = 4) :
    ∃ v' rc A', ACalls Try.prog w0 45 #[v, .agg oc.toArray] A (fin (.tuple #[v', .agg rc.toArray]) A') ∧ Over A A' ∧ VsV (A'.hide L) (doL l o).1 v' ∧ RepC (A'.hide L) (doL l o).2 rc := by
  have hd : doL l o = (l, ⟨0, l.map (·.id), verN⟩) := by unfold doL; rw [hk]; rfl
  rw [hd]
  obtain ⟨vs, rfl, p, q, u, rfl, hp, hq, hu⟩ := ho
  obtain ⟨x1, x2, rfl⟩ := View.sl0 hp
  obtain ⟨x3, x4, rfl⟩ := View.sl0 hq
  obtain ⟨x5, x6, rfl⟩ := View.sl0 hu
  rw [hk]
  generalize hA2 : (A.alloc (.cells [.int .i64 4, .int .u32 o.id, .int .u32 o.v.id, .slice x1 o.v.blocks.length x2, .slice x3 o.v.names.length x4, .slice x5 o.v.sizes.length x6] 30 (some 0))).alloc (.cells (errC 0) 40 (some 0)) = A2
  have o2 : Over A A2 := by rw [← hA2]; exact ((Over.refl A).alloc _).alloc _
  have n2 : A2.next = A.next + 2 := by rw [← hA2]; rfl
  have g2 : A2.get (A.next + 1) = some (.cells (errC 0) 40 (some 0)) := by rw [← hA2]; exact get_alloc_same ..
  obtain ⟨v', A3, hids, o3, r3⟩ := ids_ok w0 A2 l v (hv.ge (hide_out o2 L)) hl
  obtain ⟨ad, n, c, rfl, _⟩ := Row.sl r3
  have n3 := o3.next
  have o3' : Over A (A3.upd (A.next + 1) (some (.cells [.int .i64 0, .slice ad n c, .int .u32 0, .slice none 0 0, .slice none 0 0, .slice none 0 0] 40 (some 0)))) := (o2.trans o3).upd (by omega) _
  have g3 : A3.get (A.next + 1) = some (.cells (errC 0) 40 (some 0)) := by rw [o3.get _ (by omega)]; exact g2
  refine ⟨v, [.int .i64 0, .slice ad n c, .int .u32 0, .slice none 0 0, .slice none 0 0, .slice none 0 0], A3.upd (A.next + 1) (some (.cells [.int .i64 0, .slice ad n c, .int .u32 0, .slice none 0 0, .slice none 0 0, .slice none 0 0] 40 (some 0))), ?_, o3', hv.ge (hide_over o3' L), _, _, rfl, r3.hideU (by omega) _ (fun b hb => by have := hL b hb; omega), verN_c _⟩
  unfold errC at hA2 g3
  refine call_E Try.enters45 Try.func45 rfl (Nat.le_of_ble_eq_true rfl) fun hw hbd => ?_
  simp (maxSteps := 1000000) (disch := (first | omega | (simp only [nx_alloc, nx_upd, len_cons, len_nil, List.length_set, List.length_map, List.length_append] <;> omega) | fail)) only [Nat.reduceAdd, Nat.reduceSub, Nat.reduceMul, Nat.reduceLT, Nat.reduceLeDiff, Nat.reduceEqDiff, ↓reduceIte, reduceCtorEq, Int.reduceAdd, Int.reduceSub, Int.reduceMul, Int.reduceLT, Int.reduceLE, Int.reduceEq, Int.reduceNe, Int.reduceToNat, Int.reduceNeg, go_sem, Try.ntmps45, Try.results45]
  rw [hA2]
  refine call1 hids ?_
  simp (maxSteps := 1000000) (disch := (first | omega | (simp only [nx_alloc, nx_upd, len_cons, len_nil, List.length_set, List.length_map, List.length_append] <;> omega) | fail)) only [Nat.reduceAdd, Nat.reduceSub, Nat.reduceMul, Nat.reduceLT, Nat.reduceLeDiff, Nat.reduceEqDiff, ↓reduceIte, reduceCtorEq, Int.reduceAdd, Int.reduceSub, Int.reduceMul, Int.reduceLT, Int.reduceLE, Int.reduceEq, Int.reduceNe, Int.reduceToNat, Int.reduceNeg, go_sem, g3, Try.results45]
  exact gc_here ⟨rfl, rfl⟩
theorem placeN_lt {l : List VerT} {id : Int} : ∀ (m i : Nat), l.length - i ≤ m → placeN l id i < l.length ∧ (0 ≤ placeN l id i → ∃ V, l[(placeN l id i).toNat]? = some V ∧ V.id = id) ∧ -1 ≤ placeN l id i
  | m, i, hm => by
    by_cases h : i < l.length
    · have hi : l[i]? = some l[i] := List.getElem?_eq_getElem h
      rw [placeN_at hi]
      by_cases he : l[i].id = id
      · rw [if_pos he]
        exact ⟨by omega, fun _ => ⟨_, by rw [Int.toNat_natCast]; exact hi, he⟩, by omega⟩
      · rw [if_neg he]
        match m, hm with
        | m + 1, hm => exact placeN_lt m (i + 1) (by omega)
        | 0, hm => omega
    · rw [placeN_end (by omega)]
      exact ⟨by omega, fun h => absurd h (by decide), by omega⟩
theorem placeL_lt (l : List VerT) (id : Int) : placeL l id < l.length ∧ (0 ≤ placeL l id → ∃ V, l[(placeL l id).toNat]? = some V ∧ V.id = id) ∧ -1 ≤ placeL l id := placeN_lt _ 0 (Nat.le_refl _)
def wrongBk : Blk := .cells [.func (.func 35) #[] #[]] 83 (some 0)
set_option maxHeartbeats 2000000 in
theorem act5_ok (w0 : World) (A : St) (L : List Nat) (hL : ∀ b ∈ L, b < A.next) (l : List VerT) (v : Value) (o : VOp) (oc : List Value) (hv : VsV (A.hide L) l v) (ho : VOpC (A.hide L) o oc) (hl : l.length ≤ 1000000) (hk : o.kind = 5) (c : Nat) (hf : A.get c = some wrongBk) (hc : c < A.next) :
    ∃ v' rc A', ACalls Try.prog w0 46 #[v, .agg oc.toArray, .pointer (some ⟨c, 0, none⟩)] A (fin (.tuple #[v', .agg rc.toArray]) A') ∧ Over A A' ∧ VsV (A'.hide L) (doL l o).1 v' ∧ RepC (A'.hide L) (doL l o).2 rc := by
  have hd : doL l o = if placeL l o.id < 0 then (l, errR 3) else (l, ⟨0, [], l.getD (placeL l o.id).toNat verN⟩) := by unfold doL; rw [hk]; rfl
  obtain ⟨vs, rfl, p, q, u, rfl, hp, hq, hu⟩ := ho
  obtain ⟨x1, x2, rfl⟩ := View.sl0 hp
  obtain ⟨x3, x4, rfl⟩ := View.sl0 hq
  obtain ⟨x5, x6, rfl⟩ := View.sl0 hu
  rw [hk]
  generalize hA2 : (A.alloc (.cells [.int .i64 5, .int .u32 o.id, .int .u32 o.v.id, .slice x1 o.v.blocks.length x2, .slice x3 o.v.names.length x4, .slice x5 o.v.sizes.length x6] 30 (some 0))).alloc (.cells (errC 0) 40 (some 0)) = A2
  have o2 : Over A A2 := by rw [← hA2]; exact ((Over.refl A).alloc _).alloc _
  have n2 : A2.next = A.next + 2 := by rw [← hA2]; rfl
  have g2 : A2.get (A.next + 1) = some (.cells (errC 0) 40 (some 0)) := by rw [← hA2]; exact get_alloc_same ..
  have g1 : A2.get A.next = some (.cells [.int .i64 5, .int .u32 o.id, .int .u32 o.v.id, .slice x1 o.v.blocks.length x2, .slice x3 o.v.names.length x4, .slice x5 o.v.sizes.length x6] 30 (some 0)) := by rw [← hA2, get_alloc_old (by simp only [nx_alloc]; omega), get_alloc_same]
  have gf : A2.get c = some wrongBk := by rw [o2.get c hc]; exact hf
  have hv2 := hv.ge (hide_out o2 L)
  have hpl := place_ok w0 A2 l v hv2 (by omega) o.id
  obtain ⟨pl1, pl2, pl3⟩ := placeL_lt l o.id
  unfold errC at hA2 g2
  unfold wrongBk at gf
  by_cases hneg : placeL l o.id < 0
  · rw [hd, if_pos hneg]
    have o3 : Over A (A2.upd (A.next + 1) (some (.cells (errC 3) 40 (some 0)))) := o2.upd (by omega) _
    refine ⟨v, errC 3, A2.upd (A.next + 1) (some (.cells (errC 3) 40 (some 0))), ?_, o3, hv.ge (hide_over o3 L), errC_rep _ _⟩
    have hwr := actwrong_ok w0 A2 v 3
    unfold errC at hwr ⊢
    refine call_E Try.enters46 Try.func46 rfl (Nat.le_of_ble_eq_true rfl) fun hw hbd => ?_
    simp (maxSteps := 1000000) (disch := (first | omega | (simp only [nx_alloc, nx_upd, len_cons, len_nil, List.length_set, List.length_map, List.length_append] <;> omega) | fail)) only [Nat.reduceAdd, Nat.reduceSub, Nat.reduceMul, Nat.reduceLT, Nat.reduceLeDiff, Nat.reduceEqDiff, ↓reduceIte, reduceCtorEq, Int.reduceAdd, Int.reduceSub, Int.reduceMul, Int.reduceLT, Int.reduceLE, Int.reduceEq, Int.reduceNe, Int.reduceToNat, Int.reduceNeg, go_sem, Try.ntmps46, Try.results46]
    rw [hA2]
    refine call1 hpl ?_
    simp (maxSteps := 1000000) (disch := (first | omega | (simp only [nx_alloc, nx_upd, len_cons, len_nil, List.length_set, List.length_map, List.length_append] <;> omega) | fail)) only [Nat.reduceAdd, Nat.reduceSub, Nat.reduceMul, Nat.reduceLT, Nat.reduceLeDiff, Nat.reduceEqDiff, ↓reduceIte, reduceCtorEq, Int.reduceAdd, Int.reduceSub, Int.reduceMul, Int.reduceLT, Int.reduceLE, Int.reduceEq, Int.reduceNe, Int.reduceToNat, Int.reduceNeg, go_sem, hneg, gf]
    refine call1 hwr ?_
    simp (maxSteps := 1000000) (disch := (first | omega | (simp only [nx_alloc, nx_upd, len_cons, len_nil, List.length_set, List.length_map, List.length_append] <;> omega) | fail)) only [Nat.reduceAdd, Nat.reduceSub, Nat.reduceMul, Nat.reduceLT, Nat.reduceLeDiff, Nat.reduceEqDiff, ↓reduceIte, reduceCtorEq, Int.reduceAdd, Int.reduceSub, Int.reduceMul, Int.reduceLT, Int.reduceLE, Int.reduceEq, Int.reduceNe, Int.reduceToNat, Int.reduceNeg, go_sem, g2, Try.results46]
    exact gc_here ⟨rfl, rfl⟩
  · rw [hd, if_neg hneg]
    obtain ⟨V, hV, hVid⟩ := pl2 (by omega)
    obtain ⟨i, hi⟩ := Int.eq_ofNat_of_zero_le (show 0 ≤ placeL l o.id by omega)
    rw [hi] at hpl hV ⊢
    rw [Int.toNat_natCast] at hV ⊢
    have hgd : l.getD i verN = V := by rw [List.getD_eq_getElem?_getD, hV]; rfl
    rw [hgd]
    obtain ⟨b, off, cs, q1, q2, q3, q4, cells, e', m, q5, q6, q7⟩ := hv.1.at (P := Try.prog) (e := 28) Try.sz28 hV
    have hbs := (hide_out o2 L).get b _ q1 q5
    have hld := ld_agg (e' := e') (m := m) q6 q7
    obtain ⟨p', q', u', rfl, w1, w2, w3⟩ := q3
    obtain ⟨y1, y2, rfl⟩ := View.sl0 w1
    obtain ⟨y3, y4, rfl⟩ := View.sl0 w2
    obtain ⟨y5, y6, rfl⟩ := View.sl0 w3
    have o3 : Over A (A2.upd (A.next + 1) (some (.cells [.int .i64 0, .slice none 0 0, .int .u32 V.id, .slice y1 V.blocks.length y2, .slice y3 V.names.length y4, .slice y5 V.sizes.length y6] 40 (some 0)))) := o2.upd (by omega) _
    refine ⟨v, [.int .i64 0, .slice none 0 0, .int .u32 V.id, .slice y1 V.blocks.length y2, .slice y3 V.names.length y4, .slice y5 V.sizes.length y6], A2.upd (A.next + 1) (some (.cells [.int .i64 0, .slice none 0 0, .int .u32 V.id, .slice y1 V.blocks.length y2, .slice y3 V.names.length y4, .slice y5 V.sizes.length y6] 40 (some 0))), ?_, o3, hv.ge (hide_over o3 L), _, _, rfl, View.nil .., VerC.ge ⟨_, _, _, rfl, w1, w2, w3⟩ (hide_over o3 L)⟩
    have hbne : b ≠ A.next + 1 := by rw [hide_next] at q1; omega
    have hneg' : ¬ ((i : Int) < 0) := by omega
    refine call_E Try.enters46 Try.func46 rfl (Nat.le_of_ble_eq_true rfl) fun hw hbd => ?_
    simp (maxSteps := 1000000) (disch := (first | omega | (simp only [nx_alloc, nx_upd, len_cons, len_nil, List.length_set, List.length_map, List.length_append] <;> omega) | fail)) only [Nat.reduceAdd, Nat.reduceSub, Nat.reduceMul, Nat.reduceLT, Nat.reduceLeDiff, Nat.reduceEqDiff, ↓reduceIte, reduceCtorEq, Int.reduceAdd, Int.reduceSub, Int.reduceMul, Int.reduceLT, Int.reduceLE, Int.reduceEq, Int.reduceNe, Int.reduceToNat, Int.reduceNeg, go_sem, Try.ntmps46, Try.results46]
    rw [hA2]
    refine call1 hpl ?_
    simp (maxSteps := 1000000) (disch := (first | omega | (simp only [nx_alloc, nx_upd, len_cons, len_nil, List.length_set, List.length_map, List.length_append] <;> omega) | fail)) only [Nat.reduceAdd, Nat.reduceSub, Nat.reduceMul, Nat.reduceLT, Nat.reduceLeDiff, Nat.reduceEqDiff, ↓reduceIte, reduceCtorEq, Int.reduceAdd, Int.reduceSub, Int.reduceMul, Int.reduceLT, Int.reduceLE, Int.reduceEq, Int.reduceNe, Int.reduceToNat, Int.reduceNeg, go_sem, hneg']
    refine aw_draw2 [⟨false, [], [0]⟩, ⟨false, [], [0]⟩, ⟨false, [], [0]⟩, ⟨false, [1, 2], [0]⟩, ⟨false, [1, 2, 3], [0]⟩, ⟨false, [1, 2, 3, 4], [0]⟩, ⟨false, [0], [0]⟩, ⟨true, [0, 1, 2, 3, 4, 5, 6], [0]⟩] [A2, A2.upd (A.next + 1) (some (.cells [.int .i64 0, .slice none 0 0, .int .u32 V.id, .slice y1 V.blocks.length y2, .slice y3 V.names.length y4, .slice y5 V.sizes.length y6] 40 (some 0)))] 1 (by kernel_rfl) (by kernel_rfl) rfl ?_
    simp (maxSteps := 1000000) (disch := (first | omega | (simp only [nx_alloc, nx_upd, len_cons, len_nil, List.length_set, List.length_map, List.length_append] <;> omega) | fail)) only [Nat.reduceAdd, Nat.reduceSub, Nat.reduceMul, Nat.reduceLT, Nat.reduceLeDiff, Nat.reduceEqDiff, ↓reduceIte, reduceCtorEq, Int.reduceAdd, Int.reduceSub, Int.reduceMul, Int.reduceLT, Int.reduceLE, Int.reduceEq, Int.reduceNe, Int.reduceToNat, Int.reduceNeg, go_sem, q2, hbs, hld, g2, Try.results46]
    exact gc_here ⟨rfl, rfl⟩
theorem VsV.drop {A : St} {l : List VerT} {v : Value} (h : VsV A l v) {k : Nat} (hk : k ≤ l.length) : ∃ v', sliceU (some (.slice 28)) (tsz Try.prog) v (some (.int .i64 (k : Int))) none none = some v' ∧ VsV A (l.drop k) v' := by
  obtain ⟨⟨css, ha, hc, hv⟩, hs⟩ := h
  obtain ⟨ad, c, rfl⟩ := VsV.sl ⟨⟨css, ha, hc, hv⟩, hs⟩
  have hcs := ha.length
  obtain ⟨v', h1, h2, h3, h4⟩ := View.suf (P := Try.prog) (k := k) (e := 28) (ik := .i64) hv hs.ok Try.sz28 (by decide) hk
  refine ⟨v', h1, ⟨css.drop k, ha.drop k, fun cs hcs => hc cs (List.mem_of_mem_drop hcs), by rw [← flat_drop k hc, List.length_drop]; exact h2⟩, ?_⟩
  obtain ⟨ad', n', c', e, g1, g2⟩ := hs
  cases e
  have hb : abounds l.length c (some (.int .i64 (k : Int))) none none = some (k, l.length, c) := by
    have : (k : Int) ≤ l.length := by omega
    simp [abounds, abound1, this, hk]
  rw [sliceU_slice, Try.sz28, Option.bind_some, sliceL_eq, hb] at h1
  rcases g2 with ⟨rfl, rfl⟩ | ⟨b, off, sp, cells, e, m, rfl, g3, g4, g5, g6⟩
  · cases h1
    exact ⟨_, _, _, rfl, by omega, .inl ⟨rfl, by omega⟩⟩
  · have hle : off + k * 4 ≤ cells.length := by
      rcases hv.2 with ⟨h0, _⟩ | ⟨b', off', sp', c', cells', e', m', hv', q1, q2, q3, q4⟩
      · have : k = 0 := by omega
        subst this; omega
      · cases hv'
        rw [g5] at q2; cases q2
        omega
    have h5 : v' = .slice (some ⟨b, off + k * 4, sp⟩) (l.length - k) (c - k) := by
      rcases g3 with rfl | rfl
      · rw [show (none : Option Value).isSome = false from rfl, boundsL_exact] at h1; exact (Option.some.inj h1).symm
      · rw [show (none : Option Value).isSome = false from rfl, boundsL_ownN] at h1; exact (Option.some.inj h1).symm
    exact ⟨_, _, _, h5, by omega, .inr ⟨_, _, _, cells, e, m, rfl, g3, g4, g5, hle⟩⟩
theorem VsV.take {A : St} {l : List VerT} {v : Value} (h : VsV A l v) {k : Nat} (hk : k ≤ l.length) : ∃ v', sliceU (some (.slice 28)) (tsz Try.prog) v none (some (.int .i64 (k : Int))) none = some v' ∧ VsV A (l.take k) v' := by
  obtain ⟨⟨css, ha, hc, hv⟩, hs⟩ := h
  obtain ⟨ad, c, rfl⟩ := VsV.sl ⟨⟨css, ha, hc, hv⟩, hs⟩
  have hcs := ha.length
  have hlt : (l.take k).length = k := by rw [List.length_take]; omega
  obtain ⟨ad', n', c', e, g1, g2⟩ := hs
  cases e
  have hb : abounds l.length c none (some (.int .i64 (k : Int))) none = some (0, k, c) := by
    have : k ≤ c := by omega
    simp [abounds, abound1, this]
  have hfl : (css.take k).flatten.length = k * 4 := by rw [flat_len (fun cs h => hc cs (List.mem_of_mem_take h)), List.length_take, Nat.min_eq_left (by omega)]
  have hall : All2 (VerC A) (l.take k) (css.take k) := ha.take k
  have hcl : ∀ cs ∈ css.take k, cs.length = 4 := fun cs h => hc cs (List.mem_of_mem_take h)
  rcases g2 with ⟨rfl, rfl⟩ | ⟨b, off, sp, cells, e, m, rfl, g3, g4, g5, g6⟩
  · have h0 : k = 0 := by omega
    subst h0
    refine ⟨.slice none 0 0, ?_, ⟨css.take 0, hall, hcl, by simp, .inl ⟨by simp, _, _, rfl⟩⟩, _, _, _, rfl, Nat.le_refl _, .inl ⟨rfl, rfl⟩⟩
    rw [sliceU_slice, Try.sz28, Option.bind_some, sliceL_eq, hb]; rfl
  · refine ⟨.slice (some ⟨b, off, sp⟩) k c, ?_, ⟨css.take k, hall, hcl, by rw [hlt]; exact hfl, ?_⟩, _, _, _, rfl, by omega, .inr ⟨_, _, _, cells, e, m, rfl, g3, g4, g5, g6⟩⟩
    · rw [sliceU_slice, Try.sz28, Option.bind_some, sliceL_eq, hb]
      rcases g3 with rfl | rfl <;> simp [boundsL]
    · rw [hlt]
      rcases hv.2 with ⟨h0, _⟩ | ⟨b', off', sp', c', cells', e', m', hv', q1, q2, q3, q4⟩
      · exact .inl ⟨by omega, _, _, by rw [show k = 0 by omega]⟩
      · cases hv'
        refine .inr ⟨b, off, sp, c, cells', e', m', rfl, q1, q2, by omega, ?_⟩
        rw [← flat_take k hc, ← q4, List.take_take, Nat.min_eq_left (by omega)]
set_option maxHeartbeats 2000000 in
theorem act3_ok (w0 : World) (A : St) (L : List Nat) (hL : ∀ b ∈ L, b < A.next) (l : List VerT) (v : Value) (o : VOp) (oc : List Value) (hv : VsV (A.hide L) l v) (ho : VOpC (A.hide L) o oc) (hl : l.length ≤ 1000000) (hk : o.kind = 3) (hid : 0 ≤ o.id ∧ o.id < 4294967296) :
    ∃ v' rc A', ACalls Try.prog w0 43 #[v, .agg oc.toArray] A (fin (.tuple #[v', .agg rc.toArray]) A') ∧ Over A A' ∧ VsV (A'.hide L) (doL l o).1 v' ∧ RepC (A'.hide L) (doL l o).2 rc := by
  have hd : doL l o = (l.drop (l.length - min o.id.toNat l.length), ⟨0, (l.take (l.length - min o.id.toNat l.length)).map (·.id), verN⟩) := by unfold doL; rw [hk]; rfl
  rw [hd]
  obtain ⟨vs, rfl, p, q, u, rfl, hp, hq, hu⟩ := ho
  obtain ⟨x1, x2, rfl⟩ := View.sl0 hp
  obtain ⟨x3, x4, rfl⟩ := View.sl0 hq
  obtain ⟨x5, x6, rfl⟩ := View.sl0 hu
  rw [hk]
  generalize hA2 : (A.alloc (.cells [.int .i64 3, .int .u32 o.id, .int .u32 o.v.id, .slice x1 o.v.blocks.length x2, .slice x3 o.v.names.length x4, .slice x5 o.v.sizes.length x6] 30 (some 0))).alloc (.cells (errC 0) 40 (some 0)) = A2
  have o2 : Over A A2 := by rw [← hA2]; exact ((Over.refl A).alloc _).alloc _
  have n2 : A2.next = A.next + 2 := by rw [← hA2]; rfl
  have g2 : A2.get (A.next + 1) = some (.cells (errC 0) 40 (some 0)) := by rw [← hA2]; exact get_alloc_same ..
  have g1 : A2.get A.next = some (.cells [.int .i64 3, .int .u32 o.id, .int .u32 o.v.id, .slice x1 o.v.blocks.length x2, .slice x3 o.v.names.length x4, .slice x5 o.v.sizes.length x6] 30 (some 0)) := by rw [← hA2, get_alloc_old (by simp only [nx_alloc]; omega), get_alloc_same]
  have hv2 : VsV (A2.hide ((A.next + 1) :: L)) l v := hv.ge (Ge.hide o2.next (fun b hb hbL => ⟨by simp only [List.mem_cons, not_or]; exact ⟨by omega, hbL⟩, o2.get b hb⟩))
  generalize hn : l.length - min o.id.toNat l.length = n
  have hnl : n ≤ l.length := by omega
  obtain ⟨vd, hsd, hvd⟩ := hv2.drop hnl
  obtain ⟨vt, hst, hvt⟩ := hv2.take hnl
  obtain ⟨v3, A3, css, hcl, o3, ha3, hc3, r3⟩ := clone_ok w0 A2 ((A.next + 1) :: L) (l.drop n) vd hvd (by rw [List.length_drop]; omega)
  obtain ⟨v4, A4, hids, o4, r4⟩ := ids_ok w0 A3 (l.take n) vt (hvt.ge (hide_out o3 _)) (by rw [List.length_take]; omega)
  obtain ⟨ad, nn, c, rfl, _⟩ := Row.sl r4
  have n3 := o3.next
  have n4 := o4.next
  have g4 : A4.get (A.next + 1) = some (.cells (errC 0) 40 (some 0)) := by rw [o4.get _ (by omega), o3.get _ (by omega)]; exact g2
  have o5 : Over A (A4.upd (A.next + 1) (some (.cells [.int .i64 0, .slice ad nn c, .int .u32 0, .slice none 0 0, .slice none 0 0, .slice none 0 0] 40 (some 0)))) := ((o2.trans o3).trans o4).upd (by omega) _
  have r5 : VRow (A4.upd (A.next + 1) (some (.cells [.int .i64 0, .slice ad nn c, .int .u32 0, .slice none 0 0, .slice none 0 0, .slice none 0 0] 40 (some 0)))) A2.next css v3 := Row.keep r3 n4 (fun b _ h1 h2 => by rw [St.get_upd, if_neg (by omega)]; exact o4.get b h2) (Nat.le_refl _)
  refine ⟨v3, [.int .i64 0, .slice ad nn c, .int .u32 0, .slice none 0 0, .slice none 0 0, .slice none 0 0], A4.upd (A.next + 1) (some (.cells [.int .i64 0, .slice ad nn c, .int .u32 0, .slice none 0 0, .slice none 0 0, .slice none 0 0] 40 (some 0))), ?_, o5, r5.vs (ha3.imp fun a cs h => h.ge (Ge.hide (by simp only [nx_upd]; omega) (fun b hb hbL => ⟨fun h => hbL (List.mem_cons_of_mem _ h), ?_⟩))) hc3 (fun b hb => by have := hL b hb; omega), _, _, rfl, r4.hideU (by omega) _ (fun b hb => by have := hL b hb; omega), verN_c _⟩
  rotate_left
  · have hne : b ≠ A.next + 1 := fun e => hbL (by rw [e]; exact List.mem_cons_self ..)
    rw [St.get_upd, if_neg hne, o4.get b (by omega), o3.get b hb]
  unfold errC at hA2 g2 g4
  refine call_E Try.enters43 Try.func43 rfl (Nat.le_of_ble_eq_true rfl) fun hw hbd => ?_
  have hlen := NV.lenU (e := 28) (hv.ge (hide_out o2 L)).1
  simp (maxSteps := 1000000) (disch := (first | omega | (simp only [nx_alloc, nx_upd, len_cons, len_nil, List.length_set, List.length_map, List.length_append] <;> omega) | fail)) only [Nat.reduceAdd, Nat.reduceSub, Nat.reduceMul, Nat.reduceLT, Nat.reduceLeDiff, Nat.reduceEqDiff, ↓reduceIte, reduceCtorEq, Int.reduceAdd, Int.reduceSub, Int.reduceMul, Int.reduceLT, Int.reduceLE, Int.reduceEq, Int.reduceNe, Int.reduceToNat, Int.reduceNeg, go_sem, Try.ntmps43, Try.results43]
  rw [hA2]
  simp (maxSteps := 1000000) (disch := (first | omega | (simp only [nx_alloc, nx_upd, len_cons, len_nil, List.length_set, List.length_map, List.length_append] <;> omega) | fail)) only [Nat.reduceAdd, Nat.reduceSub, Nat.reduceMul, Nat.reduceLT, Nat.reduceLeDiff, Nat.reduceEqDiff, ↓reduceIte, reduceCtorEq, Int.reduceAdd, Int.reduceSub, Int.reduceMul, Int.reduceLT, Int.reduceLE, Int.reduceEq, Int.reduceNe, Int.reduceToNat, Int.reduceNeg, go_sem, g1, hlen]
  have hmin : ((l.length : Int) - if (l.length : Int) < o.id then (l.length : Int) else o.id) = (n : Int) := by
    rw [← hn]; split <;> omega
  refine aw_draw2 [⟨false, [], [0]⟩, ⟨false, [], [0]⟩, ⟨false, [0, 1], [0]⟩, ⟨true, [0, 1, 2], [0]⟩, ⟨false, [], [0, 1]⟩, ⟨false, [], [0, 1]⟩, ⟨false, [4, 5], [0, 1]⟩, ⟨true, [0, 1, 2, 3, 4, 5, 6], [1]⟩, ⟨false, [0, 1, 2, 3, 4, 5, 6, 7], [2]⟩, ⟨false, [0, 1, 2, 3, 4, 5, 6, 7], [2]⟩, ⟨true, [0, 1, 2, 3, 4, 5, 6, 7, 8, 9], [2]⟩] [A2, A3, A4, A4.upd (A.next + 1) (some (.cells [.int .i64 0, .slice ad nn c, .int .u32 0, .slice none 0 0, .slice none 0 0, .slice none 0 0] 40 (some 0)))] 3 (by kernel_rfl) (by kernel_rfl) rfl ?_
  simp (maxSteps := 1000000) (disch := (first | omega | (simp only [nx_alloc, nx_upd, len_cons, len_nil, List.length_set, List.length_map, List.length_append] <;> omega) | fail)) only [Nat.reduceAdd, Nat.reduceSub, Nat.reduceMul, Nat.reduceLT, Nat.reduceLeDiff, Nat.reduceEqDiff, ↓reduceIte, reduceCtorEq, Int.reduceAdd, Int.reduceSub, Int.reduceMul, Int.reduceLT, Int.reduceLE, Int.reduceEq, Int.reduceNe, Int.reduceToNat, Int.reduceNeg, go_sem, hmin, hsd, hst]
  refine ⟨_, hcl, ?_⟩
  refine ⟨_, hids, ?_⟩
  simp (maxSteps := 1000000) (disch := (first | omega | (simp only [nx_alloc, nx_upd, len_cons, len_nil, List.length_set, List.length_map, List.length_append] <;> omega) | fail)) only [Nat.reduceAdd, Nat.reduceSub, Nat.reduceMul, Nat.reduceLT, Nat.reduceLeDiff, Nat.reduceEqDiff, ↓reduceIte, reduceCtorEq, Int.reduceAdd, Int.reduceSub, Int.reduceMul, Int.reduceLT, Int.reduceLE, Int.reduceEq, Int.reduceNe, Int.reduceToNat, Int.reduceNeg, go_sem, g4, Try.results43]
  exact gc_here ⟨rfl, rfl⟩
set_option maxHeartbeats 4000000 in
theorem act2_ok (w0 : World) (A : St) (L : List Nat) (hL : ∀ b ∈ L, b < A.next) (l : List VerT) (v : Value) (o : VOp) (oc : List Value) (hv : VsV (A.hide L) l v) (ho : VOpC (A.hide L) o oc) (hl : l.length ≤ 1000000) (hk : o.kind = 2) (c : Nat) (hf : A.get c = some wrongBk) (hc : c < A.next) :
    ∃ v' rc A', ACalls Try.prog w0 40 #[v, .agg oc.toArray, .pointer (some ⟨c, 0, none⟩)] A (fin (.tuple #[v', .agg rc.toArray]) A') ∧ Over A A' ∧ VsV (A'.hide L) (doL l o).1 v' ∧ RepC (A'.hide L) (doL l o).2 rc := by
  have hd : doL l o = if placeL l o.id < 0 then (l, errR 3) else (l.eraseIdx (placeL l o.id).toNat, errR 0) := by unfold doL; rw [hk]; rfl
  obtain ⟨vs, rfl, p, q, u, rfl, hp, hq, hu⟩ := ho
  obtain ⟨x1, x2, rfl⟩ := View.sl0 hp
  obtain ⟨x3, x4, rfl⟩ := View.sl0 hq
  obtain ⟨x5, x6, rfl⟩ := View.sl0 hu
  rw [hk]
  generalize hA2 : (A.alloc (.cells [.int .i64 2, .int .u32 o.id, .int .u32 o.v.id, .slice x1 o.v.blocks.length x2, .slice x3 o.v.names.length x4, .slice x5 o.v.sizes.length x6] 30 (some 0))).alloc (.cells (errC 0) 40 (some 0)) = A2
  have o2 : Over A A2 := by rw [← hA2]; exact ((Over.refl A).alloc _).alloc _
  have n2 : A2.next = A.next + 2 := by rw [← hA2]; rfl
  have g2 : A2.get (A.next + 1) = some (.cells (errC 0) 40 (some 0)) := by rw [← hA2]; exact get_alloc_same ..
  have g1 : A2.get A.next = some (.cells [.int .i64 2, .int .u32 o.id, .int .u32 o.v.id, .slice x1 o.v.blocks.length x2, .slice x3 o.v.names.length x4, .slice x5 o.v.sizes.length x6] 30 (some 0)) := by rw [← hA2, get_alloc_old (by simp only [nx_alloc]; omega), get_alloc_same]
  have gf : A2.get c = some wrongBk := by rw [o2.get c hc]; exact hf
  have hv2 : VsV (A2.hide ((A.next + 1) :: L)) l v := hv.ge (Ge.hide o2.next (fun b hb hbL => ⟨by simp only [List.mem_cons, not_or]; exact ⟨by omega, hbL⟩, o2.get b hb⟩))
  have hv2' := hv2.ge (hide_ge A2 _)
  unfold errC at hA2 g2
  unfold wrongBk at gf
  have err : ∀ e : Int, Over A (A2.upd (A.next + 1) (some (.cells (errC e) 40 (some 0)))) := fun e => o2.upd (by omega) _
  have hpl := place_ok w0 A2 l v hv2' (by omega) o.id
  obtain ⟨pl1, pl2, pl3⟩ := placeL_lt l o.id
  by_cases hneg : placeL l o.id < 0
  · rw [hd, if_pos hneg]
    refine ⟨v, errC 3, A2.upd (A.next + 1) (some (.cells (errC 3) 40 (some 0))), ?_, err 3, hv.ge (hide_over (err 3) L), errC_rep _ _⟩
    have hwr := actwrong_ok w0 A2 v 3
    unfold errC at hwr ⊢
    refine call_E Try.enters40 Try.func40 rfl (Nat.le_of_ble_eq_true rfl) fun hw hbd => ?_
    simp (maxSteps := 1000000) (disch := (first | omega | (simp only [nx_alloc, nx_upd, len_cons, len_nil, List.length_set, List.length_map, List.length_append] <;> omega) | fail)) only [Nat.reduceAdd, Nat.reduceSub, Nat.reduceMul, Nat.reduceLT, Nat.reduceLeDiff, Nat.reduceEqDiff, ↓reduceIte, reduceCtorEq, Int.reduceAdd, Int.reduceSub, Int.reduceMul, Int.reduceLT, Int.reduceLE, Int.reduceEq, Int.reduceNe, Int.reduceToNat, Int.reduceNeg, go_sem, Try.ntmps40, Try.results40]
    rw [hA2]
    refine call1 hpl ?_
    simp (maxSteps := 1000000) (disch := (first | omega | (simp only [nx_alloc, nx_upd, len_cons, len_nil, List.length_set, List.length_map, List.length_append] <;> omega) | fail)) only [Nat.reduceAdd, Nat.reduceSub, Nat.reduceMul, Nat.reduceLT, Nat.reduceLeDiff, Nat.reduceEqDiff, ↓reduceIte, reduceCtorEq, Int.reduceAdd, Int.reduceSub, Int.reduceMul, Int.reduceLT, Int.reduceLE, Int.reduceEq, Int.reduceNe, Int.reduceToNat, Int.reduceNeg, go_sem, hneg, gf]
    refine call1 hwr ?_
    simp (maxSteps := 1000000) (disch := (first | omega | (simp only [nx_alloc, nx_upd, len_cons, len_nil, List.length_set, List.length_map, List.length_append] <;> omega) | fail)) only [Nat.reduceAdd, Nat.reduceSub, Nat.reduceMul, Nat.reduceLT, Nat.reduceLeDiff, Nat.reduceEqDiff, ↓reduceIte, reduceCtorEq, Int.reduceAdd, Int.reduceSub, Int.reduceMul, Int.reduceLT, Int.reduceLE, Int.reduceEq, Int.reduceNe, Int.reduceToNat, Int.reduceNeg, go_sem, g2, Try.results40]
    exact gc_here ⟨rfl, rfl⟩
  · rw [hd, if_neg hneg]
    obtain ⟨i, hi⟩ := Int.eq_ofNat_of_zero_le (show 0 ≤ placeL l o.id by omega)
    have hneg' : ¬ ((i : Int) < 0) := by omega
    rw [hi] at hpl pl1 ⊢
    rw [Int.toNat_natCast]
    obtain ⟨v3, A3, css, hcl, o3, ha3, hc3, r3⟩ := clone_ok w0 A2 ((A.next + 1) :: L) l v hv2 hl
    have hcs := ha3.length
    obtain ⟨b, cp, v4, A4, zl, hdel, hrb, hb1, hb2, n4, k4, g4b, sp, rfl, hcp, hsp⟩ := delete_ok w0 A3 A2.next css v3 r3 hc3 (css_cell ha3) i (by omega) (by omega)
    have n3 := o3.next
    have g3 : A3.get (A.next + 1) = some (.cells (errC 0) 40 (some 0)) := by rw [o3.get _ (by omega)]; exact g2
    have g4 : A4.get (A.next + 1) = some (.cells (errC 0) 40 (some 0)) := by rw [k4 _ (by omega)]; exact g3
    have o5 : Over A (A4.upd (A.next + 1) (some (.cells (errC 0) 40 (some 0)))) := ⟨by simp only [nx_upd]; omega, fun x hx => by rw [St.get_upd, if_neg (by omega), k4 x (by omega), o3.get x (by omega), o2.get x hx]⟩
    have hel : (css.eraseIdx i).length = css.length - 1 := List.length_eraseIdx_of_lt (by omega)
    have hec : ∀ cs ∈ css.eraseIdx i, cs.length = 4 := fun cs h => hc3 cs (List.mem_of_mem_eraseIdx h)
    have hef : (css.eraseIdx i).flatten.length = (css.length - 1) * 4 := by rw [flat_len hec, hel]
    have hae : All2 (VerC (A2.hide ((A.next + 1) :: L))) (l.eraseIdx i) (css.eraseIdx i) := by rw [List.eraseIdx_eq_take_drop_succ, List.eraseIdx_eq_take_drop_succ]; exact (ha3.take i).app (ha3.drop (i + 1))
    have hle : (l.eraseIdx i).length = css.length - 1 := by rw [List.length_eraseIdx_of_lt (by omega)]; omega
    have hbL : b ∉ L := fun h => by have := hL b h; omega
    have hgb : ((A4.upd (A.next + 1) (some (.cells (errC 0) 40 (some 0)))).hide L).get b = some (.cells ((css.eraseIdx i).flatten ++ zl) 28 (some 0)) := by rw [hide_get, if_neg hbL, St.get_upd, if_neg (by omega)]; exact g4b
    refine ⟨.slice (some ⟨b, 0, sp⟩) (css.length - 1) cp, errC 0, A4.upd (A.next + 1) (some (.cells (errC 0) 40 (some 0))), ?_, o5, ⟨⟨css.eraseIdx i, hae.imp (fun a cs h => h.ge (Ge.hide (by simp only [nx_upd]; omega) (fun x hx hxL => ⟨fun h => hxL (List.mem_cons_of_mem _ h), ?_⟩))), hec, ?_⟩, _, _, _, rfl, hcp, .inr ⟨b, 0, sp, _, _, _, rfl, hsp, by rw [hide_next]; simp only [nx_upd]; omega, hgb, Nat.zero_le _⟩⟩, errC_rep _ _⟩
    rotate_left
    · have hne : x ≠ A.next + 1 := fun e => hxL (by rw [e]; exact List.mem_cons_self ..)
      rw [St.get_upd, if_neg hne, k4 x (by omega), o3.get x hx]
    · rw [hle]
      exact ⟨by rw [hef], .inr ⟨b, 0, sp, cp, _, _, _, rfl, by rw [hide_next]; simp only [nx_upd]; omega, hgb, by rw [List.length_append, hef]; omega, by rw [List.drop_zero, ← hef, List.take_left]⟩⟩
    unfold errC at g4 ⊢
    refine call_E Try.enters40 Try.func40 rfl (Nat.le_of_ble_eq_true rfl) fun hw hbd => ?_
    simp (maxSteps := 1000000) (disch := (first | omega | (simp only [nx_alloc, nx_upd, len_cons, len_nil, List.length_set, List.length_map, List.length_append] <;> omega) | fail)) only [Nat.reduceAdd, Nat.reduceSub, Nat.reduceMul, Nat.reduceLT, Nat.reduceLeDiff, Nat.reduceEqDiff, ↓reduceIte, reduceCtorEq, Int.reduceAdd, Int.reduceSub, Int.reduceMul, Int.reduceLT, Int.reduceLE, Int.reduceEq, Int.reduceNe, Int.reduceToNat, Int.reduceNeg, go_sem, Try.ntmps40, Try.results40]
    rw [hA2]
    refine call1 hpl ?_
    simp (maxSteps := 1000000) (disch := (first | omega | (simp only [nx_alloc, nx_upd, len_cons, len_nil, List.length_set, List.length_map, List.length_append] <;> omega) | fail)) only [Nat.reduceAdd, Nat.reduceSub, Nat.reduceMul, Nat.reduceLT, Nat.reduceLeDiff, Nat.reduceEqDiff, ↓reduceIte, reduceCtorEq, Int.reduceAdd, Int.reduceSub, Int.reduceMul, Int.reduceLT, Int.reduceLE, Int.reduceEq, Int.reduceNe, Int.reduceToNat, Int.reduceNeg, go_sem, hneg']
    refine call1 hcl ?_
    simp (maxSteps := 1000000) (disch := (first | omega | (simp only [nx_alloc, nx_upd, len_cons, len_nil, List.length_set, List.length_map, List.length_append] <;> omega) | fail)) only [Nat.reduceAdd, Nat.reduceSub, Nat.reduceMul, Nat.reduceLT, Nat.reduceLeDiff, Nat.reduceEqDiff, ↓reduceIte, reduceCtorEq, Int.reduceAdd, Int.reduceSub, Int.reduceMul, Int.reduceLT, Int.reduceLE, Int.reduceEq, Int.reduceNe, Int.reduceToNat, Int.reduceNeg, go_sem]
    refine call1 hdel ?_
    simp (maxSteps := 1000000) (disch := (first | omega | (simp only [nx_alloc, nx_upd, len_cons, len_nil, List.length_set, List.length_map, List.length_append] <;> omega) | fail)) only [Nat.reduceAdd, Nat.reduceSub, Nat.reduceMul, Nat.reduceLT, Nat.reduceLeDiff, Nat.reduceEqDiff, ↓reduceIte, reduceCtorEq, Int.reduceAdd, Int.reduceSub, Int.reduceMul, Int.reduceLT, Int.reduceLE, Int.reduceEq, Int.reduceNe, Int.reduceToNat, Int.reduceNeg, go_sem, g4, Try.results40]
    exact gc_here ⟨rfl, rfl⟩
theorem append_clip {A : St} {L : List Nat} {l : List VerT} {v : Value} (h : VsV (A.hide L) l v) {cs : List Value} {bx : Nat} (hx : A.get bx = some (.cells cs 28 (some 0))) (hcs : cs.length = 4) (hl : l.length ≤ 1000000) :
    ∃ css, All2 (VerC (A.hide L)) l css ∧ (∀ c ∈ css, c.length = 4) ∧ aappend Try.prog A 35 35 (clipV v) (.slice (some ⟨bx, 0, none⟩) 1 1) = some (.slice (some ⟨A.next, 0, some 4⟩) (l.length + 1) (l.length + 1), A.alloc (.cells (css.flatten ++ cs) 28 (some 0))) := by
  have hux : ∀ k, (TypeDesc.slice 28) ≠ .int k := by intro k; exact TypeDesc.noConfusion
  have hsrc : srcCells A 4 (.slice (some ⟨bx, 0, none⟩) 1 1) = some (1, cs) := by
    rw [srcCells_slice (by decide) hx (by omega), List.drop_zero, Nat.one_mul, ← hcs, List.take_length]
  obtain ⟨ad, c, rfl⟩ := h.sl
  obtain ⟨⟨css, ha, hc, hv⟩, hs⟩ := h
  have hn := ha.length
  refine ⟨css, ha, hc, ?_⟩
  have hv' := View.ge hv (hide_ge A L)
  obtain ⟨ad', n', c', e, g1, g2⟩ := hs.ge (hide_ge A L)
  cases e
  rcases g2 with ⟨rfl, rfl⟩ | ⟨b, off, sp, cells, e, m, rfl, g3, g4, g5, g6⟩
  · have h0 : l.length = 0 := by omega
    have h1 : css = [] := List.eq_nil_of_length_eq_zero (by omega)
    subst h1
    rw [h0]
    exact append_nil Try.el35 Try.underlying35 hux Try.sz28 Try.byt28 Try.zero28 rfl (by decide) hsrc (by decide) (by decide) (by decide)
  · have hfl : css.flatten.length = l.length * 4 := by rw [flat_len hc, hn]
    have hk : off + l.length * 4 ≤ cells.length ∧ (cells.drop off).take (l.length * 4) = css.flatten := by
      rcases hv'.2 with ⟨h0, _⟩ | ⟨b', off', sp', c', cells', e', m', hv'', q1, q2, q3, q4⟩
      · have h1 : css = [] := List.eq_nil_of_length_eq_zero (by omega)
        rw [h0, h1]; exact ⟨by omega, by simp⟩
      · cases hv''
        rw [g5] at q2; cases q2
        exact ⟨q3, q4⟩
    have := append_exact (P := Try.prog) (A := A) (len := l.length) (off := off) (b := b) Try.el35 Try.underlying35 hux Try.sz28 (by decide) Try.byt28 Try.zero28 rfl hsrc (by decide) (by omega) (by omega) g5 hk.1
    rw [hk.2] at this
    exact this
set_option maxHeartbeats 4000000 in
theorem act1_ok (w0 : World) (A : St) (L : List Nat) (hL : ∀ b ∈ L, b < A.next) (l : List VerT) (v : Value) (o : VOp) (oc : List Value) (hv : VsV (A.hide L) l v) (ho : VOpC (A.hide L) o oc) (hl : l.length ≤ 1000000) (hk : o.kind = 1) (hsm : o.v.small) (c : Nat) (hf : A.get c = some wrongBk) (hc : c < A.next) :
    ∃ v' rc A', ACalls Try.prog w0 36 #[v, .agg oc.toArray, .pointer (some ⟨c, 0, none⟩)] A (fin (.tuple #[v', .agg rc.toArray]) A') ∧ Over A A' ∧ VsV (A'.hide L) (doL l o).1 v' ∧ RepC (A'.hide L) (doL l o).2 rc := by
  have hd : doL l o = if mayB o.v = false then (l, errR 1) else if 0 ≤ placeL l o.v.id then (l, errR 4) else if 8 ≤ l.length then (l, errR 2) else (l ++ [o.v], errR 0) := by unfold doL; rw [hk]; rfl
  obtain ⟨vs, rfl, hvc⟩ := ho
  have hvc0 := hvc
  obtain ⟨p, q, u, rfl, hp, hq, hu⟩ := hvc
  obtain ⟨x1, x2, rfl⟩ := View.sl0 hp
  obtain ⟨x3, x4, rfl⟩ := View.sl0 hq
  obtain ⟨x5, x6, rfl⟩ := View.sl0 hu
  rw [hk]
  generalize hA2 : (A.alloc (.cells [.int .i64 1, .int .u32 o.id, .int .u32 o.v.id, .slice x1 o.v.blocks.length x2, .slice x3 o.v.names.length x4, .slice x5 o.v.sizes.length x6] 30 (some 0))).alloc (.cells (errC 0) 40 (some 0)) = A2
  have o2 : Over A A2 := by rw [← hA2]; exact ((Over.refl A).alloc _).alloc _
  have n2 : A2.next = A.next + 2 := by rw [← hA2]; rfl
  have g2 : A2.get (A.next + 1) = some (.cells (errC 0) 40 (some 0)) := by rw [← hA2]; exact get_alloc_same ..
  have g1 : A2.get A.next = some (.cells [.int .i64 1, .int .u32 o.id, .int .u32 o.v.id, .slice x1 o.v.blocks.length x2, .slice x3 o.v.names.length x4, .slice x5 o.v.sizes.length x6] 30 (some 0)) := by rw [← hA2, get_alloc_old (by simp only [nx_alloc]; omega), get_alloc_same]
  have gf : A2.get c = some wrongBk := by rw [o2.get c hc]; exact hf
  have hv2 : VsV (A2.hide ((A.next + 1) :: L)) l v := hv.ge (Ge.hide o2.next (fun b hb hbL => ⟨by simp only [List.mem_cons, not_or]; exact ⟨by omega, hbL⟩, o2.get b hb⟩))
  have hv2' := hv2.ge (hide_ge A2 _)
  unfold errC at hA2 g2
  unfold wrongBk at gf
  have err : ∀ e : Int, Over A (A2.upd (A.next + 1) (some (.cells (errC e) 40 (some 0)))) := fun e => o2.upd (by omega) _
  have hmay := may_ok w0 A2 o.v _ (hvc0.ge (hide_out o2 L)).ver hsm
  cases hmb : mayB o.v
  · rw [hd, if_pos hmb]
    rw [hmb] at hmay
    refine ⟨v, errC 1, A2.upd (A.next + 1) (some (.cells (errC 1) 40 (some 0))), ?_, err 1, hv.ge (hide_over (err 1) L), errC_rep _ _⟩
    have hwr := actwrong_ok w0 A2 v 1
    unfold errC at hwr ⊢
    refine call_E Try.enters36 Try.func36 rfl (Nat.le_of_ble_eq_true rfl) fun hw hbd => ?_
    simp (maxSteps := 1000000) (disch := (first | omega | (simp only [nx_alloc, nx_upd, len_cons, len_nil, List.length_set, List.length_map, List.length_append] <;> omega) | fail)) only [Nat.reduceAdd, Nat.reduceSub, Nat.reduceMul, Nat.reduceLT, Nat.reduceLeDiff, Nat.reduceEqDiff, ↓reduceIte, reduceCtorEq, Int.reduceAdd, Int.reduceSub, Int.reduceMul, Int.reduceLT, Int.reduceLE, Int.reduceEq, Int.reduceNe, Int.reduceToNat, Int.reduceNeg, go_sem, Try.ntmps36, Try.results36]
    rw [hA2]
    refine call1 hmay ?_
    simp (maxSteps := 1000000) (disch := (first | omega | (simp only [nx_alloc, nx_upd, len_cons, len_nil, List.length_set, List.length_map, List.length_append] <;> omega) | fail)) only [Nat.reduceAdd, Nat.reduceSub, Nat.reduceMul, Nat.reduceLT, Nat.reduceLeDiff, Nat.reduceEqDiff, ↓reduceIte, reduceCtorEq, Int.reduceAdd, Int.reduceSub, Int.reduceMul, Int.reduceLT, Int.reduceLE, Int.reduceEq, Int.reduceNe, Int.reduceToNat, Int.reduceNeg, go_sem, gf]
    refine call1 hwr ?_
    simp (maxSteps := 1000000) (disch := (first | omega | (simp only [nx_alloc, nx_upd, len_cons, len_nil, List.length_set, List.length_map, List.length_append] <;> omega) | fail)) only [Nat.reduceAdd, Nat.reduceSub, Nat.reduceMul, Nat.reduceLT, Nat.reduceLeDiff, Nat.reduceEqDiff, ↓reduceIte, reduceCtorEq, Int.reduceAdd, Int.reduceSub, Int.reduceMul, Int.reduceLT, Int.reduceLE, Int.reduceEq, Int.reduceNe, Int.reduceToNat, Int.reduceNeg, go_sem, g2, Try.results36]
    exact gc_here ⟨rfl, rfl⟩
  rw [hd, if_neg (by rw [hmb]; decide)]
  rw [hmb] at hmay
  have hpl := place_ok w0 A2 l v hv2' (by omega) o.v.id
  by_cases hin : 0 ≤ placeL l o.v.id
  · rw [if_pos hin]
    have hin' : placeL l o.v.id ≥ 0 := hin
    refine ⟨v, errC 4, A2.upd (A.next + 1) (some (.cells (errC 4) 40 (some 0))), ?_, err 4, hv.ge (hide_over (err 4) L), errC_rep _ _⟩
    have hwr := actwrong_ok w0 A2 v 4
    unfold errC at hwr ⊢
    refine call_E Try.enters36 Try.func36 rfl (Nat.le_of_ble_eq_true rfl) fun hw hbd => ?_
    simp (maxSteps := 1000000) (disch := (first | omega | (simp only [nx_alloc, nx_upd, len_cons, len_nil, List.length_set, List.length_map, List.length_append] <;> omega) | fail)) only [Nat.reduceAdd, Nat.reduceSub, Nat.reduceMul, Nat.reduceLT, Nat.reduceLeDiff, Nat.reduceEqDiff, ↓reduceIte, reduceCtorEq, Int.reduceAdd, Int.reduceSub, Int.reduceMul, Int.reduceLT, Int.reduceLE, Int.reduceEq, Int.reduceNe, Int.reduceToNat, Int.reduceNeg, go_sem, Try.ntmps36, Try.results36]
    rw [hA2]
    refine call1 hmay ?_
    simp (maxSteps := 1000000) (disch := (first | omega | (simp only [nx_alloc, nx_upd, len_cons, len_nil, List.length_set, List.length_map, List.length_append] <;> omega) | fail)) only [Nat.reduceAdd, Nat.reduceSub, Nat.reduceMul, Nat.reduceLT, Nat.reduceLeDiff, Nat.reduceEqDiff, ↓reduceIte, reduceCtorEq, Int.reduceAdd, Int.reduceSub, Int.reduceMul, Int.reduceLT, Int.reduceLE, Int.reduceEq, Int.reduceNe, Int.reduceToNat, Int.reduceNeg, go_sem, g1]
    refine call1 hpl ?_
    simp (maxSteps := 1000000) (disch := (first | omega | (simp only [nx_alloc, nx_upd, len_cons, len_nil, List.length_set, List.length_map, List.length_append] <;> omega) | fail)) only [Nat.reduceAdd, Nat.reduceSub, Nat.reduceMul, Nat.reduceLT, Nat.reduceLeDiff, Nat.reduceEqDiff, ↓reduceIte, reduceCtorEq, Int.reduceAdd, Int.reduceSub, Int.reduceMul, Int.reduceLT, Int.reduceLE, Int.reduceEq, Int.reduceNe, Int.reduceToNat, Int.reduceNeg, go_sem, hin', gf]
    refine call1 hwr ?_
    simp (maxSteps := 1000000) (disch := (first | omega | (simp only [nx_alloc, nx_upd, len_cons, len_nil, List.length_set, List.length_map, List.length_append] <;> omega) | fail)) only [Nat.reduceAdd, Nat.reduceSub, Nat.reduceMul, Nat.reduceLT, Nat.reduceLeDiff, Nat.reduceEqDiff, ↓reduceIte, reduceCtorEq, Int.reduceAdd, Int.reduceSub, Int.reduceMul, Int.reduceLT, Int.reduceLE, Int.reduceEq, Int.reduceNe, Int.reduceToNat, Int.reduceNeg, go_sem, g2, Try.results36]
    exact gc_here ⟨rfl, rfl⟩
  rw [if_neg hin]
  have hin' : ¬ (placeL l o.v.id ≥ 0) := hin
  have hlen := NV.lenU (e := 28) hv2'.1
  by_cases h8 : 8 ≤ l.length
  · rw [if_pos h8]
    have h8' : (l.length : Int) ≥ 8 := by omega
    refine ⟨v, errC 2, A2.upd (A.next + 1) (some (.cells (errC 2) 40 (some 0))), ?_, err 2, hv.ge (hide_over (err 2) L), errC_rep _ _⟩
    have hwr := actwrong_ok w0 A2 v 2
    unfold errC at hwr ⊢
    refine call_E Try.enters36 Try.func36 rfl (Nat.le_of_ble_eq_true rfl) fun hw hbd => ?_
    simp (maxSteps := 1000000) (disch := (first | omega | (simp only [nx_alloc, nx_upd, len_cons, len_nil, List.length_set, List.length_map, List.length_append] <;> omega) | fail)) only [Nat.reduceAdd, Nat.reduceSub, Nat.reduceMul, Nat.reduceLT, Nat.reduceLeDiff, Nat.reduceEqDiff, ↓reduceIte, reduceCtorEq, Int.reduceAdd, Int.reduceSub, Int.reduceMul, Int.reduceLT, Int.reduceLE, Int.reduceEq, Int.reduceNe, Int.reduceToNat, Int.reduceNeg, go_sem, Try.ntmps36, Try.results36]
    rw [hA2]
    refine call1 hmay ?_
    simp (maxSteps := 1000000) (disch := (first | omega | (simp only [nx_alloc, nx_upd, len_cons, len_nil, List.length_set, List.length_map, List.length_append] <;> omega) | fail)) only [Nat.reduceAdd, Nat.reduceSub, Nat.reduceMul, Nat.reduceLT, Nat.reduceLeDiff, Nat.reduceEqDiff, ↓reduceIte, reduceCtorEq, Int.reduceAdd, Int.reduceSub, Int.reduceMul, Int.reduceLT, Int.reduceLE, Int.reduceEq, Int.reduceNe, Int.reduceToNat, Int.reduceNeg, go_sem, g1]
    refine call1 hpl ?_
    simp (maxSteps := 1000000) (disch := (first | omega | (simp only [nx_alloc, nx_upd, len_cons, len_nil, List.length_set, List.length_map, List.length_append] <;> omega) | fail)) only [Nat.reduceAdd, Nat.reduceSub, Nat.reduceMul, Nat.reduceLT, Nat.reduceLeDiff, Nat.reduceEqDiff, ↓reduceIte, reduceCtorEq, Int.reduceAdd, Int.reduceSub, Int.reduceMul, Int.reduceLT, Int.reduceLE, Int.reduceEq, Int.reduceNe, Int.reduceToNat, Int.reduceNeg, go_sem, hin', hlen, h8', gf]
    refine call1 hwr ?_
    simp (maxSteps := 1000000) (disch := (first | omega | (simp only [nx_alloc, nx_upd, len_cons, len_nil, List.length_set, List.length_map, List.length_append] <;> omega) | fail)) only [Nat.reduceAdd, Nat.reduceSub, Nat.reduceMul, Nat.reduceLT, Nat.reduceLeDiff, Nat.reduceEqDiff, ↓reduceIte, reduceCtorEq, Int.reduceAdd, Int.reduceSub, Int.reduceMul, Int.reduceLT, Int.reduceLE, Int.reduceEq, Int.reduceNe, Int.reduceToNat, Int.reduceNeg, go_sem, g2, Try.results36]
    exact gc_here ⟨rfl, rfl⟩
  rw [if_neg h8]
  have h8' : ¬ ((l.length : Int) ≥ 8) := by omega
  have o3 : Over A2 (A2.alloc (.cells [.int .u32 o.v.id, .slice x1 o.v.blocks.length x2, .slice x3 o.v.names.length x4, .slice x5 o.v.sizes.length x6] 28 (some 0))) := (Over.refl A2).alloc _
  have hv3 : VsV ((A2.alloc (.cells [.int .u32 o.v.id, .slice x1 o.v.blocks.length x2, .slice x3 o.v.names.length x4, .slice x5 o.v.sizes.length x6] 28 (some 0))).hide ((A.next + 1) :: L)) l v := hv2.ge (hide_over o3 _)
  obtain ⟨css, ha, hcl, hap⟩ := append_clip hv3 (get_alloc_same ..) rfl hl
  have hcl2 := clip_ok w0 A2 l v hv2'
  have hcl3 := clip_ok w0 (A2.alloc (.cells [.int .u32 o.v.id, .slice x1 o.v.blocks.length x2, .slice x3 o.v.names.length x4, .slice x5 o.v.sizes.length x6] 28 (some 0))) l v (hv3.ge (hide_ge _ _))
  generalize hA3 : A2.alloc (.cells [.int .u32 o.v.id, .slice x1 o.v.blocks.length x2, .slice x3 o.v.names.length x4, .slice x5 o.v.sizes.length x6] 28 (some 0)) = A3 at *
  have n3 : A3.next = A2.next + 1 := by rw [← hA3]; rfl
  generalize hA4 : A3.alloc (.cells (css.flatten ++ [.int .u32 o.v.id, .slice x1 o.v.blocks.length x2, .slice x3 o.v.names.length x4, .slice x5 o.v.sizes.length x6]) 28 (some 0)) = A4 at *
  have o4 : Over A3 A4 := by rw [← hA4]; exact (Over.refl A3).alloc _
  have n4 : A4.next = A3.next + 1 := by rw [← hA4]; rfl
  have g4 : A4.get (A.next + 1) = some (.cells (errC 0) 40 (some 0)) := by rw [o4.get _ (by omega), o3.get _ (by omega)]; exact g2
  have o5 : Over A (A4.upd (A.next + 1) (some (.cells (errC 0) 40 (some 0)))) := ((o2.trans o3).trans o4).upd (by omega) _
  have r5 : VRow (A4.upd (A.next + 1) (some (.cells (errC 0) 40 (some 0)))) A3.next (css ++ [[.int .u32 o.v.id, .slice x1 o.v.blocks.length x2, .slice x3 o.v.names.length x4, .slice x5 o.v.sizes.length x6]]) (.slice (some ⟨A3.next, 0, some 4⟩) (l.length + 1) (l.length + 1)) := by
    have hln := ha.length
    refine ⟨?_, .inr ⟨A3.next, some 4, by rw [List.length_append, hln]; rfl, .inr rfl, Nat.le_refl _, by simp only [nx_upd]; omega, ?_⟩⟩
    · rw [List.flatten_append, List.length_append, flat_len hcl, List.length_append]; simp; omega
    · rw [St.get_upd, if_neg (by omega), ← hA4, get_alloc_same, List.flatten_append]; simp
  refine ⟨.slice (some ⟨A3.next, 0, some 4⟩) (l.length + 1) (l.length + 1), errC 0, A4.upd (A.next + 1) (some (.cells (errC 0) 40 (some 0))), ?_, o5, r5.vs (All2.app (ha.imp (fun a cs h => h.ge (Ge.hide (by simp only [nx_upd]; omega) (fun x hx hxL => ⟨fun h => hxL (List.mem_cons_of_mem _ h), ?_⟩)))) (.cons (hvc0.ge (hide_over o5 L)) .nil)) (fun cs h => ?_) (fun b hb => by have := hL b hb; omega), errC_rep _ _⟩
  rotate_left
  · have hne : x ≠ A.next + 1 := fun e => hxL (by rw [e]; exact List.mem_cons_self ..)
    rw [St.get_upd, if_neg hne, o4.get x hx]
  · rcases List.mem_append.1 h with h | h
    · exact hcl cs h
    · simp at h; subst h; rfl
  unfold errC at g4 ⊢
  refine call_E Try.enters36 Try.func36 rfl (Nat.le_of_ble_eq_true rfl) fun hw hbd => ?_
  simp (maxSteps := 1000000) (disch := (first | omega | (simp only [nx_alloc, nx_upd, len_cons, len_nil, List.length_set, List.length_map, List.length_append] <;> omega) | fail)) only [Nat.reduceAdd, Nat.reduceSub, Nat.reduceMul, Nat.reduceLT, Nat.reduceLeDiff, Nat.reduceEqDiff, ↓reduceIte, reduceCtorEq, Int.reduceAdd, Int.reduceSub, Int.reduceMul, Int.reduceLT, Int.reduceLE, Int.reduceEq, Int.reduceNe, Int.reduceToNat, Int.reduceNeg, go_sem, Try.ntmps36, Try.results36]
  rw [hA2]
  refine call1 hmay ?_
  simp (maxSteps := 1000000) (disch := (first | omega | (simp only [nx_alloc, nx_upd, len_cons, len_nil, List.length_set, List.length_map, List.length_append] <;> omega) | fail)) only [Nat.reduceAdd, Nat.reduceSub, Nat.reduceMul, Nat.reduceLT, Nat.reduceLeDiff, Nat.reduceEqDiff, ↓reduceIte, reduceCtorEq, Int.reduceAdd, Int.reduceSub, Int.reduceMul, Int.reduceLT, Int.reduceLE, Int.reduceEq, Int.reduceNe, Int.reduceToNat, Int.reduceNeg, go_sem, g1]
  refine call1 hpl ?_
  simp (maxSteps := 1000000) (disch := (first | omega | (simp only [nx_alloc, nx_upd, len_cons, len_nil, List.length_set, List.length_map, List.length_append] <;> omega) | fail)) only [Nat.reduceAdd, Nat.reduceSub, Nat.reduceMul, Nat.reduceLT, Nat.reduceLeDiff, Nat.reduceEqDiff, ↓reduceIte, reduceCtorEq, Int.reduceAdd, Int.reduceSub, Int.reduceMul, Int.reduceLT, Int.reduceLE, Int.reduceEq, Int.reduceNe, Int.reduceToNat, Int.reduceNeg, go_sem, hin', hlen, h8']
  refine aw_draw2 [⟨false, [], [0, 1]⟩, ⟨false, [0], [0, 1]⟩, ⟨false, [], [0]⟩, ⟨false, [2], [0]⟩, ⟨true, [2, 3], [0]⟩, ⟨true, [0, 1, 2, 3, 4], [1]⟩, ⟨false, [], [0, 1, 2]⟩, ⟨false, [0, 1, 2, 3, 4, 5], [2]⟩, ⟨true, [0, 1, 2, 3, 4, 5, 6, 7], [2]⟩] [A2, A3, A4, A4.upd (A.next + 1) (some (.cells [.int .i64 0, .slice none 0 0, .int .u32 0, .slice none 0 0, .slice none 0 0, .slice none 0 0] 40 (some 0)))] 3 (by kernel_rfl) (by kernel_rfl) rfl ?_
  simp (maxSteps := 1000000) (disch := (first | omega | (simp only [nx_alloc, nx_upd, len_cons, len_nil, List.length_set, List.length_map, List.length_append] <;> omega) | fail)) only [Nat.reduceAdd, Nat.reduceSub, Nat.reduceMul, Nat.reduceLT, Nat.reduceLeDiff, Nat.reduceEqDiff, ↓reduceIte, reduceCtorEq, Int.reduceAdd, Int.reduceSub, Int.reduceMul, Int.reduceLT, Int.reduceLE, Int.reduceEq, Int.reduceNe, Int.reduceToNat, Int.reduceNeg, go_sem, g1]
  refine ⟨_, hcl2, ⟨_, hcl3, rfl⟩, ?_⟩
  simp (maxSteps := 1000000) (disch := (first | omega | (simp only [nx_alloc, nx_upd, len_cons, len_nil, List.length_set, List.length_map, List.length_append] <;> omega) | fail)) only [Nat.reduceAdd, Nat.reduceSub, Nat.reduceMul, Nat.reduceLT, Nat.reduceLeDiff, Nat.reduceEqDiff, ↓reduceIte, reduceCtorEq, Int.reduceAdd, Int.reduceSub, Int.reduceMul, Int.reduceLT, Int.reduceLE, Int.reduceEq, Int.reduceNe, Int.reduceToNat, Int.reduceNeg, go_sem, g1, hA3, hap, hA4, g4, Try.results36]
  exact gc_here ⟨rfl, rfl⟩
end Go.Fw
