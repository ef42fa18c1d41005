import Derived.Test.YtpjacnialnlilaaFwPre34
import Derived.Test.YtpjacnialnlilaaFwPre22
set_option linter.unusedSimpArgs false
set_option linter.unusedVariables false
set_option maxRecDepth 4000
namespace Go.Fw
open Go.Proofs Go.RowKit
theorem Try.enters5 : Enters Try.prog 5 := enters_of Try.func5 rfl (by kernel_rfl)
set_option maxHeartbeats 4000000 in
theorem codes_walk (w0 : World) (A : St) (v : Value) (l : List Int) (hv : View A 1 (l.flatMap i64E) l.length v) (hok : ∀ x ∈ l, i64Ok x) : ACalls Try.prog w0 5 #[v] A (fin (.bool true) A) := by
  refine call_E (l := [v]) Try.enters5 Try.func5 rfl (Nat.le_of_ble_eq_true rfl) fun hw hbd => ?_
  have hlv : ∀ X, lenU X (some (.slice 3)) v = some (.int .i64 l.length, X) := View.lenX hv
  by_cases hbig : ((l.length : Nat) : Int) > 310
  · simp (maxSteps := 1000000) (disch := (first | omega | (simp only [nx_alloc, nx_upd, len_cons, len_nil, List.length_set, List.length_map, List.length_append] <;> omega) | fail)) only [go_sem, Try.ntmps5, Try.results5, hlv, hbig]
    refine call1 (shown_ok w0 _) ?_
    simp (maxSteps := 1000000) (disch := (first | omega | (simp only [nx_alloc, nx_upd, len_cons, len_nil, List.length_set, List.length_map, List.length_append] <;> omega) | fail)) only [go_sem, Try.results5]
    exact gc_fin' hw (Over.refl _) rfl (.bool _)
  simp (maxSteps := 1000000) (disch := (first | omega | (simp only [nx_alloc, nx_upd, len_cons, len_nil, List.length_set, List.length_map, List.length_append] <;> omega) | fail)) only [go_sem, Try.ntmps5, Try.results5, hlv, hbig]
  refine call1 (shown_ok w0 _) ?_
  simp (maxSteps := 1000000) (disch := (first | omega | (simp only [nx_alloc, nx_upd, len_cons, len_nil, List.length_set, List.length_map, List.length_append] <;> omega) | fail)) only [go_sem]
  refine (codes_ok w0 A l v hv (by omega)).mono ?_
  rintro e A1 ⟨v1, rfl, o1, h1⟩
  simp (maxSteps := 1000000) (disch := (first | omega | (simp only [nx_alloc, nx_upd, len_cons, len_nil, List.length_set, List.length_map, List.length_append] <;> omega) | fail)) only [go_sem]
  refine (rcodes_ok w0 A1 l v (View.over hv o1) (by omega)).mono ?_
  rintro e A2 ⟨v2, rfl, o2, h2⟩
  have g1 := (h1.over o2).view
  have g2 := h2.view
  rw [flatP_eq] at g1 g2
  have hcl := codesP_len l
  generalize codesP l = c at *
  have hl1 : ∀ X, lenU X (some (.slice 42)) v1 = some (.int .i64 c.1.length, X) := View.lenX g1
  have hl2 : ∀ X, lenU X (some (.slice 41)) v2 = some (.int .i64 c.1.length, X) := View.lenX g2
  have hv2 : View A2 1 (l.flatMap i64E) l.length v := View.over (View.over hv o1) o2
  simp (maxSteps := 1000000) (disch := (first | omega | (simp only [nx_alloc, nx_upd, len_cons, len_nil, List.length_set, List.length_map, List.length_append] <;> omega) | fail)) only [go_sem, hl1, hl2]
  refine call1 (kraft_ok w0 A2 l v hv2 (by omega)) ?_
  simp (maxSteps := 1000000) (disch := (first | omega | (simp only [nx_alloc, nx_upd, len_cons, len_nil, List.length_set, List.length_map, List.length_append] <;> omega) | fail)) only [go_sem]
  refine call1 (rkraft_ok w0 A2 l v hv2 (by omega)) ?_
  simp (maxSteps := 1000000) (disch := (first | omega | (simp only [nx_alloc, nx_upd, len_cons, len_nil, List.length_set, List.length_map, List.length_append] <;> omega) | fail)) only [go_sem]
  refine aw_loop (fun k x B => ∃ (ρ : Nat → Value) (i : Nat), x = E 58 ρ [] ∧ B = A2 ∧ k = c.1.length - i ∧ i ≤ c.1.length ∧ ρ 3 = v1 ∧ ρ 5 = v2 ∧ ρ 7 = .int .i64 i) c.1.length
    ⟨_, 0, rfl, rfl, rfl, Nat.zero_le _, rfl, rfl, rfl⟩ ?_
  rintro k x B ⟨ρ, i, rfl, rfl, hk, hi, r3, r5, r7⟩
  refine aw_of ?_
  by_cases hend : i = c.1.length
  · have e1 : ¬ ((i : Int) < (c.1.length : Int)) := by omega
    simp (maxSteps := 1000000) (disch := (first | omega | (simp only [nx_alloc, nx_upd, len_cons, len_nil, List.length_set, List.length_map, List.length_append] <;> omega) | fail)) only [go_sem, r3, r5, r7, hl1, e1, Try.results5]
    exact gc_fin' hw (o1.trans o2) rfl (.bool _)
  have e1 : ((i : Int) < (c.1.length : Int)) := by omega
  obtain ⟨p, hp⟩ : ∃ x, c.1[i]? = some x := ⟨_, List.getElem?_eq_getElem (by omega)⟩
  obtain ⟨b1, f1, _, _, x3, cs1, e1', m1, x4, x5, x6, _⟩ := pcs_at (P := Try.prog) (e := 42) g1 Try.sz42 hp
  obtain ⟨b2, f2, _, _, y3, cs2, e2', m2, y4, y5, y6, _⟩ := pcs_at (P := Try.prog) (e := 41) g2 Try.sz41 hp
  have hne := fun x y => pc_neq x y p p
  unfold pcE at hne
  simp (maxSteps := 1000000) (disch := (first | omega | (simp only [nx_alloc, nx_upd, len_cons, len_nil, List.length_set, List.length_map, List.length_append] <;> omega) | fail)) only [go_sem, r3, r5, r7, hl1, e1]
  refine aw_draw (by kernel_rfl) ?_
  simp (maxSteps := 1000000) (disch := (first | omega | (simp only [nx_alloc, nx_upd, len_cons, len_nil, List.length_set, List.length_map, List.length_append] <;> omega) | fail)) only [go_sem, r3, r5, r7, x3, x4, x5, x6, y3, y4, y5, y6, hne]
  refine ⟨k - 1, by omega, _, i + 1, rfl, by omega, by omega, ?_, ?_, ?_⟩
  · simp (maxSteps := 1000000) (disch := (first | omega | (simp only [nx_alloc, nx_upd, len_cons, len_nil, List.length_set, List.length_map, List.length_append] <;> omega) | fail)) only [go_sem, r3]
  · simp (maxSteps := 1000000) (disch := (first | omega | (simp only [nx_alloc, nx_upd, len_cons, len_nil, List.length_set, List.length_map, List.length_append] <;> omega) | fail)) only [go_sem, r5]
  · simp (maxSteps := 1000000) (disch := (first | omega | (simp only [nx_alloc, nx_upd, len_cons, len_nil, List.length_set, List.length_map, List.length_append] <;> omega) | fail)) only [go_sem]
    rfl
end Go.Fw
