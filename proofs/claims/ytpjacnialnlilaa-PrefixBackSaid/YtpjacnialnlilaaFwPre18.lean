import Derived.Test.YtpjacnialnlilaaFwPre17
set_option linter.unusedSimpArgs false
set_option linter.unusedVariables false
set_option maxRecDepth 4000
namespace Go.Fw
open Go.Proofs Go.RowKit
/-! The law's own parts: same, shown. -/
theorem Try.enters13 : Enters Try.prog 13 := enters_of Try.func13 rfl (by kernel_rfl)
theorem Try.enters10 : Enters Try.prog 10 := enters_of Try.func10 rfl (by kernel_rfl)
set_option maxHeartbeats 2000000 in
theorem same_ok (w0 : World) (A : St) (l m : List Int) (v u : Value) (hv : InView A l v) (hu : InView A m u) (hl : l.length ≤ 1000000) : ACalls Try.prog w0 13 #[v, u] A (fin (.bool (decide (l = m))) A) := by
  refine call_E (l := [v, u]) Try.enters13 Try.func13 rfl (Nat.le_of_ble_eq_true rfl) fun hw hbd => ?_
  have hlv : ∀ X, lenU X (some (.slice 3)) v = some (.int .i64 l.length, X) := View.lenX hv
  have hlu : ∀ X, lenU X (some (.slice 3)) u = some (.int .i64 m.length, X) := View.lenX hu
  by_cases hlm : l.length = m.length
  rotate_left
  · have e0 : ((l.length : Nat) : Int) ≠ (m.length : Nat) := by omega
    simp (maxSteps := 1000000) (disch := (first | omega | (simp only [nx_alloc, nx_upd, len_cons, len_nil, List.length_set, List.length_map, List.length_append] <;> omega) | fail)) only [go_sem, Try.ntmps13, Try.results13, hlv, hlu, e0]
    refine gc_here ⟨?_, rfl⟩
    rw [decide_eq_false (fun h => hlm (by rw [h]))]
  have e0 : ¬ ((l.length : Nat) : Int) ≠ (m.length : Nat) := by omega
  simp (maxSteps := 1000000) (disch := (first | omega | (simp only [nx_alloc, nx_upd, len_cons, len_nil, List.length_set, List.length_map, List.length_append] <;> omega) | fail)) only [go_sem, Try.ntmps13, Try.results13, hlv, hlu, e0]
  refine aw_loop (fun k x A' => ∃ (ρ : Nat → Value) (i : Nat), x = E 26 ρ [] ∧ A' = A ∧ k = l.length - i ∧ i ≤ l.length ∧ l.take i = m.take i ∧ ρ 0 = v ∧ ρ 1 = u ∧ ρ 5 = .int .i64 i) l.length
    ⟨_, 0, rfl, rfl, rfl, Nat.zero_le _, rfl, rfl, rfl, rfl⟩ ?_
  rintro k x A' ⟨ρ, i, rfl, rfl, hk, hi, ht, g0, g1, g5⟩
  refine aw_of ?_
  by_cases hend : i = l.length
  · have e1 : ¬ ((i : Int) < (l.length : Nat)) := by omega
    rw [hend, List.take_length, hlm, List.take_length] at ht
    simp (maxSteps := 1000000) (disch := (first | omega | (simp only [nx_alloc, nx_upd, len_cons, len_nil, List.length_set, List.length_map, List.length_append] <;> omega) | fail)) only [go_sem, g0, g1, g5, hlv, e1, Try.results13]
    refine gc_here ⟨?_, rfl⟩
    rw [decide_eq_true ht]
  have e1 : ((i : Int) < (l.length : Nat)) := by omega
  obtain ⟨x, hx⟩ : ∃ x, l[i]? = some x := ⟨_, List.getElem?_eq_getElem (by omega)⟩
  obtain ⟨y, hy⟩ : ∃ x, m[i]? = some x := ⟨_, List.getElem?_eq_getElem (by omega)⟩
  obtain ⟨pb, po, hb1, hb2, hb3, cells, e', md, hb4, hb5⟩ := View.at1 (P := Try.prog) (e := 3) hv Try.sz3 (i64E_at _ i x hx)
  obtain ⟨qb, qo, hc1, hc2, hc3, cells2, e2', md2, hc4, hc5⟩ := View.at1 (P := Try.prog) (e := 3) hu Try.sz3 (i64E_at _ i y hy)
  by_cases hxy : x = y
  · subst hxy
    simp (maxSteps := 1000000) (disch := (first | omega | (simp only [nx_alloc, nx_upd, len_cons, len_nil, List.length_set, List.length_map, List.length_append] <;> omega) | fail)) only [go_sem, g0, g1, g5, hlv, e1]
    refine aw_draw (by kernel_rfl) ?_
    simp (maxSteps := 1000000) (disch := (first | omega | (simp only [nx_alloc, nx_upd, len_cons, len_nil, List.length_set, List.length_map, List.length_append] <;> omega) | fail)) only [go_sem, g0, g1, g5, hb3, hb4, hb5, hc3, hc4, hc5]
    refine ⟨k - 1, by omega, _, i + 1, rfl, by omega, by omega, ?_, ?_, ?_, ?_⟩
    · rw [List.take_add_one, List.take_add_one, hx, hy, ht]
    · simp (maxSteps := 1000000) (disch := (first | omega | (simp only [nx_alloc, nx_upd, len_cons, len_nil, List.length_set, List.length_map, List.length_append] <;> omega) | fail)) only [go_sem, g0]
    · simp (maxSteps := 1000000) (disch := (first | omega | (simp only [nx_alloc, nx_upd, len_cons, len_nil, List.length_set, List.length_map, List.length_append] <;> omega) | fail)) only [go_sem, g1]
    · simp (maxSteps := 1000000) (disch := (first | omega | (simp only [nx_alloc, nx_upd, len_cons, len_nil, List.length_set, List.length_map, List.length_append] <;> omega) | fail)) only [go_sem]
      rfl
  · simp (maxSteps := 1000000) (disch := (first | omega | (simp only [nx_alloc, nx_upd, len_cons, len_nil, List.length_set, List.length_map, List.length_append] <;> omega) | fail)) only [go_sem, g0, g1, g5, hlv, e1]
    refine aw_draw (by kernel_rfl) ?_
    simp (maxSteps := 1000000) (disch := (first | omega | (simp only [nx_alloc, nx_upd, len_cons, len_nil, List.length_set, List.length_map, List.length_append] <;> omega) | fail)) only [go_sem, g0, g1, g5, hb3, hb4, hb5, hc3, hc4, hc5, hxy, Try.results13]
    refine gc_here ⟨?_, rfl⟩
    rw [decide_eq_false (fun h => hxy (by rw [h, hy] at hx; injection hx with hx; exact hx.symm))]
theorem lit_view {A : St} {b : Nat} {l : List Int} (hb : A.get b = some (.cells (l.map (Value.int .i64 ·)) 3 (some 0))) (hlt : b < A.next) : InView A l (.slice (some ⟨b, 0, none⟩) l.length l.length) := by
  refine ⟨by rw [flat_i64, List.length_map, Nat.mul_one], .inr ⟨b, 0, none, _, _, 3, some 0, rfl, hlt, hb, by rw [List.length_map]; omega, ?_⟩⟩
  rw [flat_i64, List.drop_zero]
  exact List.take_of_length_le (by rw [List.length_map]; omega)
theorem shown_l : lengthsP [1, 1, 2] 15 = ([2, 2, 1], 0) := by kernel_rfl
set_option maxHeartbeats 2000000 in
theorem shown_ok (w0 : World) (A : St) : ACalls Try.prog w0 10 #[] A (fin (.bool true) A) := by
  refine call_E (l := []) Try.enters10 Try.func10 rfl (Nat.le_of_ble_eq_true rfl) fun hw hbd => ?_
  simp (maxSteps := 1000000) (disch := (first | omega | (simp only [nx_alloc, nx_upd, len_cons, len_nil, List.length_set, List.length_map, List.length_append] <;> omega) | fail)) only [go_sem, Try.ntmps10, Try.results10]
  have v1 : InView (A.alloc (.cells [.int .i64 1, .int .i64 1, .int .i64 2] 3 (some 0))) [1, 1, 2] (.slice (some ⟨A.next, 0, none⟩) 3 3) := lit_view (l := [1, 1, 2]) (get_alloc_same ..) (by rw [nx_alloc]; omega)
  have h := lengths_ok w0 _ [1, 1, 2] _ 15 v1 (by decide)
  rw [shown_l] at h
  refine h.mono ?_
  rintro e A1 ⟨lv, rfl, o1, r1⟩
  simp (maxSteps := 1000000) (disch := (first | omega | (simp only [nx_alloc, nx_upd, len_cons, len_nil, List.length_set, List.length_map, List.length_append] <;> omega) | fail)) only [go_sem]
  have v2 : InView (A1.alloc (.cells [.int .i64 2, .int .i64 2, .int .i64 1] 3 (some 0))) [2, 2, 1] (.slice (some ⟨A1.next, 0, none⟩) 3 3) := lit_view (l := [2, 2, 1]) (get_alloc_same ..) (by rw [nx_alloc]; omega)
  refine call1 (same_ok w0 _ [2, 2, 1] [2, 2, 1] lv _ (View.over r1.view ((Over.refl A1).alloc _)) v2 (by decide)) ?_
  simp (maxSteps := 1000000) (disch := (first | omega | (simp only [nx_alloc, nx_upd, len_cons, len_nil, List.length_set, List.length_map, List.length_append] <;> omega) | fail)) only [go_sem, Try.results10]
  exact gc_fin' hw ((((Over.refl A).alloc _).trans o1).alloc _) rfl (.bool _)
end Go.Fw
