import Derived.Test.YtfmbflmknjlefaaFwHeader1
set_option linter.unusedSimpArgs false
set_option linter.unusedVariables false
set_option maxRecDepth 4000
namespace Go.Fw
open Go.Proofs Go.RowKit
theorem View.sl0 {A : St} {sz len : Nat} {cs : List Value} {v : Value} (h : View A sz cs len v) : ∃ ad c, v = .slice ad len c := by
  rcases h.2 with ⟨rfl, ad, c, rfl⟩ | ⟨b, off, sp, c, cells, e, m, rfl, _⟩
  · exact ⟨_, _, rfl⟩
  · exact ⟨_, _, rfl⟩
/-- A version's value. -/
def VerV (A : St) (V : VerT) (v : Value) : Prop := ∃ b n s, v = .agg #[.int .u32 V.id, b, n, s] ∧ HsView A V.blocks b ∧ StView A V.names n ∧ InView A V.sizes s
theorem VerV.over {A A' : St} {V : VerT} {v : Value} (h : VerV A V v) (o : Over A A') : VerV A' V v := by
  obtain ⟨b, n, s, h1, h2, h3, h4⟩ := h
  exact ⟨b, n, s, h1, View.over h2 o, View.over h3 o, View.over h4 o⟩
def VerT.small (V : VerT) : Prop := V.blocks.length ≤ 1048576 ∧ V.names.length ≤ 1048576 ∧ V.sizes.length ≤ 1048576
def filesOf (l : List ByteArray) : List FileT := l.map fun n => (n, ByteArray.empty)
theorem filesOf_len (l : List ByteArray) : (filesOf l).length = l.length := by simp [filesOf]
/-- May a version be? -/
def mayB (V : VerT) : Bool := decide (V.names.length = V.sizes.length) && decide (V.blocks.length = blocksN V.sizes) && decide (chkE (filesOf V.names) = 0) && !V.sizes.any wrongB
theorem fl_push {A : St} {lo : Nat} {l : List FileT} {v : Value} (h : Row A 115 2 lo (l.flatMap flC) l.length v) (x y : ByteArray) (hlo : lo ≤ A.next) (hl : l.length ≤ 1073741824) :
    ∃ v' A', aappend Try.prog (A.alloc (.cells [.string x, .string y] 115 (some 0))) 113 113 v (.slice (some ⟨A.next, 0, none⟩) 1 1) = some (v', A') ∧ Row A' 115 2 lo ((l ++ [(x, y)]).flatMap flC) (l ++ [(x, y)]).length v' ∧ A'.next = A.next + 2 ∧ rowB v' = some (A.next + 1) ∧ ∀ b, b < A.next → rowB v ≠ some b → A'.get b = A.get b := by
  obtain ⟨v', A2, hap, hr2, hn2, hrb, hf2⟩ := row_push (A := A) (sp := none) (c := 1) (xs := [.string x, .string y]) Try.el113 Try.underlying113 (by intro k; exact TypeDesc.noConfusion) Try.sz115 Try.byt115 Try.zero115 rfl h hlo (by omega) (by omega) rfl rfl
  refine ⟨v', A2, hap, ?_, hn2, hrb, hf2⟩
  rw [List.flatMap_append, List.length_append]; exact hr2
set_option maxHeartbeats 8000000 in
theorem may_ok (w0 : World) (A : St) (V : VerT) (v : Value) (hv : VerV A V v) (hs : V.small) : ACalls Try.prog w0 38 #[v] A (fin (.bool (mayB V)) A) := by
  obtain ⟨b, n, s, rfl, vb, vn, vs⟩ := hv
  obtain ⟨hs1, hs2, hs3⟩ := hs
  obtain ⟨ab, cb, rfl⟩ := View.sl0 vb
  obtain ⟨an, cn, rfl⟩ := View.sl0 vn
  obtain ⟨az, cs, rfl⟩ := View.sl0 vs
  refine call_E Try.enters38 Try.func38 rfl (Nat.le_of_ble_eq_true rfl) fun hw hbd => ?_
  obtain ⟨id, B, N, S⟩ := V
  simp only at vb vn vs hs1 hs2 hs3 ⊢
  obtain ⟨A1, hA1⟩ : ∃ A1, A1 = A.alloc (.cells [.int .u32 id, .slice ab B.length cb, .slice an N.length cn, .slice az S.length cs] 27 (some 0)) := ⟨_, rfl⟩
  have ov1 : Over A A1 := hA1 ▸ (Over.refl A).alloc _
  have hn1 : A1.next = A.next + 1 := by rw [hA1]; rfl
  have hbx : A1.get A.next = some (.cells [.int .u32 id, .slice ab B.length cb, .slice an N.length cn, .slice az S.length cs] 27 (some 0)) := by rw [hA1]; exact get_alloc_same ..
  have vb1 : HsView A1 B _ := View.over vb ov1
  have vn1 : StView A1 N _ := View.over vn ov1
  have vs1 : InView A1 S _ := View.over vs ov1
  have lb := View.lenU (e := 43) vb1
  have ln := View.lenU (e := 9) vn1
  have ls := View.lenU (e := 3) vs1
  simp (maxSteps := 1000000) (disch := (first | omega | (simp only [nx_alloc, nx_upd, len_cons, len_nil, List.length_set, List.length_map, List.length_append] <;> omega) | fail)) only [go_sem, Try.ntmps38, Try.results38]
  rw [← hA1]
  refine aw_draw (by kernel_rfl) ?_
  by_cases hne : N.length = S.length
  rotate_left
  · have hne' : ¬ ((N.length : Int) = S.length) := by omega
    simp (maxSteps := 1000000) (disch := (first | omega | (simp only [nx_alloc, nx_upd, len_cons, len_nil, List.length_set, List.length_map, List.length_append] <;> omega) | fail)) only [go_sem, hbx, ln, ls, Try.results38]
    exact gc_fin' hw ov1 (by simp [mayB, hne]) (.bool _)
  have hne' : ((N.length : Int) = S.length) := by omega
  simp (maxSteps := 1000000) (disch := (first | omega | (simp only [nx_alloc, nx_upd, len_cons, len_nil, List.length_set, List.length_map, List.length_append] <;> omega) | fail)) only [go_sem, hbx, lb, ln, ls]
  refine ⟨_, blocks_ok w0 A1 S _ vs1 (by omega), ?_⟩
  by_cases hbl : B.length = blocksN S
  rotate_left
  · have hbl' : ¬ ((B.length : Int) = (blocksN S : Nat)) := by omega
    simp (maxSteps := 1000000) (disch := (first | omega | (simp only [nx_alloc, nx_upd, len_cons, len_nil, List.length_set, List.length_map, List.length_append] <;> omega) | fail)) only [go_sem, Try.results38]
    exact gc_fin' hw ov1 (by simp [mayB, hbl]) (.bool _)
  have hbl' : ((B.length : Int) = (blocksN S : Nat)) := by omega
  simp (maxSteps := 1000000) (disch := (first | omega | (simp only [nx_alloc, nx_upd, len_cons, len_nil, List.length_set, List.length_map, List.length_append] <;> omega) | fail)) only [go_sem, hbx, ln]
  refine aw_loop (fun k x A' => ∃ (ρ : Nat → Value) (i : Nat) (p : Value), x = E 46 ρ [] ∧ Over A1 A' ∧ k = N.length - i ∧ i ≤ N.length ∧ Row A' 115 2 A1.next ((filesOf (N.take i)).flatMap flC) (filesOf (N.take i)).length p ∧
      ρ 1 = .pointer (some ⟨A.next, 0, none⟩) ∧ ρ 3 = p ∧ ρ 24 = .slice an N.length cn ∧ ρ 25 = .int .i64 N.length ∧ ρ 26 = .int .i64 i) N.length
    ⟨_, 0, _, rfl, Over.refl _, rfl, Nat.zero_le _, Row.nil .., rfl, rfl, rfl, rfl, rfl⟩ ?_
  rintro k x A' ⟨ρ, i, p, rfl, ov2, hk, hi, hrow, g1, g3, g24, g25, g26⟩
  refine aw_of ?_
  have hbx2 : A'.get A.next = some (.cells [.int .u32 id, .slice ab B.length cb, .slice an N.length cn, .slice az S.length cs] 27 (some 0)) := by rw [ov2.get _ (by omega)]; exact hbx
  by_cases hend : i = N.length
  · have e1 : ¬ ((i : Int) < N.length) := by omega
    rw [hend, List.take_length] at hrow
    have hfv : FlView A' (filesOf N) p := Row.view hrow
    simp (maxSteps := 1000000) (disch := (first | omega | (simp only [nx_alloc, nx_upd, len_cons, len_nil, List.length_set, List.length_map, List.length_append] <;> omega) | fail)) only [go_sem, g1, g3, g24, g25, g26]
    refine call1 (Check_ok w0 A' (filesOf N) p hfv (by rw [filesOf_len]; omega)) ?_
    by_cases hce : chkE (filesOf N) = 0
    · simp (maxSteps := 1000000) (disch := (first | omega | (simp only [nx_alloc, nx_upd, len_cons, len_nil, List.length_set, List.length_map, List.length_append] <;> omega) | fail)) only [go_sem, g1, hce, hbx2]
      refine call1 (containsI_ok w0 A' S _ (View.over vs1 ov2) (by omega)) ?_
      simp (maxSteps := 1000000) (disch := (first | omega | (simp only [nx_alloc, nx_upd, len_cons, len_nil, List.length_set, List.length_map, List.length_append] <;> omega) | fail)) only [go_sem, Try.results38]
      exact gc_fin' hw (ov1.trans ov2) (by simp [mayB, hne, hbl, hce]) (.bool _)
    · simp (maxSteps := 1000000) (disch := (first | omega | (simp only [nx_alloc, nx_upd, len_cons, len_nil, List.length_set, List.length_map, List.length_append] <;> omega) | fail)) only [go_sem, hce, Try.results38]
      exact gc_fin' hw (ov1.trans ov2) (by simp [mayB, hce]) (.bool _)
  have e1 : ((i : Int) < N.length) := by omega
  obtain ⟨nm, hx⟩ : ∃ x, N[i]? = some x := ⟨_, List.getElem?_eq_getElem (by omega)⟩
  obtain ⟨pb, po, hb1, hb2, hb3, cells, e', md, hb4, hb5⟩ := View.at1 (P := Try.prog) (e := 9) (View.over vn1 ov2) Try.sz9 (strE_at _ i nm hx)
  obtain ⟨p2, A2, hap, hr2, hn2, hrb, hf2⟩ := fl_push hrow nm ByteArray.empty (by have := ov2.next; omega) (by rw [filesOf_len, List.length_take]; omega)
  simp (maxSteps := 1000000) (disch := (first | omega | (simp only [nx_alloc, nx_upd, len_cons, len_nil, List.length_set, List.length_map, List.length_append] <;> omega) | fail)) only [go_sem, g1, g3, g24, g25, g26, hb3, hb4, hb5]
  rw [hap]
  simp (maxSteps := 1000000) (disch := (first | omega | (simp only [nx_alloc, nx_upd, len_cons, len_nil, List.length_set, List.length_map, List.length_append] <;> omega) | fail)) only [go_sem, g26]
  refine ⟨k - 1, by omega, _, i + 1, p2, rfl, Row.push_over (by have := ov2.next; omega) (fun b hb => (Row.rb hrow b hb).1) (by omega) hf2 ov2 (Nat.le_refl _), by omega, by omega, ?_, ?_, ?_, ?_, ?_, ?_⟩
  · have : filesOf (N.take (i + 1)) = filesOf (N.take i) ++ [(nm, ByteArray.empty)] := by unfold filesOf; rw [List.take_add_one, hx]; simp
    rw [this]; exact hr2
  · simp (maxSteps := 1000000) (disch := (first | omega | (simp only [nx_alloc, nx_upd, len_cons, len_nil, List.length_set, List.length_map, List.length_append] <;> omega) | fail)) only [go_sem, g1]
  · simp (maxSteps := 1000000) (disch := (first | omega | (simp only [nx_alloc, nx_upd, len_cons, len_nil, List.length_set, List.length_map, List.length_append] <;> omega) | fail)) only [go_sem]
  · simp (maxSteps := 1000000) (disch := (first | omega | (simp only [nx_alloc, nx_upd, len_cons, len_nil, List.length_set, List.length_map, List.length_append] <;> omega) | fail)) only [go_sem, g24]
  · simp (maxSteps := 1000000) (disch := (first | omega | (simp only [nx_alloc, nx_upd, len_cons, len_nil, List.length_set, List.length_map, List.length_append] <;> omega) | fail)) only [go_sem, g25]
  · simp (maxSteps := 1000000) (disch := (first | omega | (simp only [nx_alloc, nx_upd, len_cons, len_nil, List.length_set, List.length_map, List.length_append] <;> omega) | fail)) only [go_sem]
    rfl
end Go.Fw
