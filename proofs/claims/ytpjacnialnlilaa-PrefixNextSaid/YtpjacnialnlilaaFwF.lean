import Derived.Test.YtpjacnialnlilaaFwPre38
set_option linter.unusedSimpArgs false
set_option linter.unusedVariables false
set_option maxRecDepth 4000
namespace Go.Fw
open Go.Proofs Go.RowKit
theorem Try.enters8 : Enters Try.prog 8 := enters_of Try.func8 rfl (by kernel_rfl)
set_option maxHeartbeats 8000000 in
theorem next_walk (w0 : World) (A : St) (v : Value) (l : List Int) (s : ByteArray) (hv : View A 1 (l.flatMap i64E) l.length v) (hok : ∀ x ∈ l, i64Ok x) : ACalls Try.prog w0 8 #[v, .string s] A (fin (.bool true) A) := by
  refine call_E (l := [v, .string s]) Try.enters8 Try.func8 rfl (Nat.le_of_ble_eq_true rfl) fun hw hbd => ?_
  have hlv : ∀ X, lenU X (some (.slice 3)) v = some (.int .i64 l.length, X) := View.lenX hv
  by_cases hbig : ((l.length : Nat) : Int) > 310
  · simp (maxSteps := 1000000) (disch := (first | omega | (simp only [nx_alloc, nx_upd, len_cons, len_nil, List.length_set, List.length_map, List.length_append] <;> omega) | fail)) only [go_sem, Try.ntmps8, Try.results8, hlv, hbig]
    refine call1 (shown_ok w0 _) ?_
    simp (maxSteps := 1000000) (disch := (first | omega | (simp only [nx_alloc, nx_upd, len_cons, len_nil, List.length_set, List.length_map, List.length_append] <;> omega) | fail)) only [go_sem, Try.results8]
    exact gc_fin' hw (Over.refl _) rfl (.bool _)
  by_cases hbig2 : ((s.size : Nat) : Int) > 200
  · simp (maxSteps := 1000000) (disch := (first | omega | (simp only [nx_alloc, nx_upd, len_cons, len_nil, List.length_set, List.length_map, List.length_append] <;> omega) | fail)) only [go_sem, Try.ntmps8, Try.results8, hlv, hbig, hbig2]
    refine call1 (shown_ok w0 _) ?_
    simp (maxSteps := 1000000) (disch := (first | omega | (simp only [nx_alloc, nx_upd, len_cons, len_nil, List.length_set, List.length_map, List.length_append] <;> omega) | fail)) only [go_sem, Try.results8]
    exact gc_fin' hw (Over.refl _) rfl (.bool _)
  simp (maxSteps := 1000000) (disch := (first | omega | (simp only [nx_alloc, nx_upd, len_cons, len_nil, List.length_set, List.length_map, List.length_append] <;> omega) | fail)) only [go_sem, Try.ntmps8, Try.results8, hlv, hbig, hbig2]
  refine call1 (shown_ok w0 _) ?_
  simp (maxSteps := 1000000) (disch := (first | omega | (simp only [nx_alloc, nx_upd, len_cons, len_nil, List.length_set, List.length_map, List.length_append] <;> omega) | fail)) only [go_sem]
  refine call1 (new_ok w0 _ s) ?_
  simp (maxSteps := 1000000) (disch := (first | omega | (simp only [nx_alloc, nx_upd, len_cons, len_nil, List.length_set, List.length_map, List.length_append] <;> omega) | fail)) only [go_sem]
  have hbd0 := hbd 0 v (by simp)
  have hvr : ∀ b, rowB v = some b → b < A.next := fun b hb => by
    cases v with
    | slice a n c => cases a with
      | none => cases hb
      | some a => cases hb; cases hbd0; assumption
    | _ => cases hb
  refine aw_loop (fun j x C => ∃ (ρ : Nat → Value) (i q : Nat), x = E 60 ρ [] ∧ Over A C ∧ A.next + 2 ≤ C.next ∧ C.get A.next = some (rdB 70 s q) ∧ C.get (A.next + 1) = some (rdB 48 s q) ∧ q ≤ 8 * s.size ∧ j = 40 - i ∧ i ≤ 40 ∧ ρ 0 = v ∧ ρ 5 = .pointer (some ⟨A.next, 0, none⟩) ∧ ρ 6 = .pointer (some ⟨A.next + 1, 0, none⟩) ∧ ρ 7 = .int .i64 i) 40
    ⟨_, 0, 0, rfl, ?_, ?_, ?_, ?_, Nat.zero_le _, rfl, Nat.zero_le _, rfl, rfl, rfl, rfl⟩ ?_
  · exact (((Over.refl A).alloc _).alloc _).upd (Nat.le_succ _) _
  · simp only [nx_upd, nx_alloc]; omega
  · simp (disch := (first | omega | (simp only [nx_alloc, nx_upd, len_cons, len_nil, List.length_set, List.length_map, List.length_append] <;> omega) | fail)) only [St.get_upd, St.get_alloc, St.next_alloc, St.next_upd, ↓reduceIte, natF_lt, natF_gt, natF_ne, Nat.add_assoc, Nat.reduceAdd, Nat.reduceEqDiff, Nat.add_left_cancel_iff]
  · unfold rdB; simp (disch := (first | omega | (simp only [nx_alloc, nx_upd, len_cons, len_nil, List.length_set, List.length_map, List.length_append] <;> omega) | fail)) only [St.get_upd, St.get_alloc, St.next_alloc, St.next_upd, ↓reduceIte, natF_lt, natF_gt, natF_ne, Nat.add_assoc, Nat.reduceAdd, Nat.reduceEqDiff, Nat.add_left_cancel_iff]
    rfl
  rintro j x C ⟨ρ, i, q, rfl, oC, hnx, g1, g2, hq, hj, hi, r0, r5, r6, r7⟩
  refine aw_of ?_
  by_cases hend : i = 40
  · have e1 : ¬ ((i : Int) < 40) := by omega
    simp (maxSteps := 1000000) (disch := (first | omega | (simp only [nx_alloc, nx_upd, len_cons, len_nil, List.length_set, List.length_map, List.length_append] <;> omega) | fail)) only [go_sem, r0, r5, r6, r7, e1, Try.results8]
    exact gc_fin' hw oC rfl (.bool _)
  have e1 : ((i : Int) < 40) := by omega
  have hle := nextP_le l (sbit s) (8 * s.size) q hq
  have n1 := next_ok w0 C l v A.next s q (View.over hv oC) (by omega) g1 (fun h => by have := hvr _ h; omega) (by omega) hq
  have n2 := fun X hX hr => rnext_ok w0 X l v (A.next + 1) s q hX (by omega) hr (fun h => by have := hvr _ h; omega) (by omega) hq
  unfold nextV at n1 n2
  generalize nextP l (sbit s) (8 * s.size) q = z at *
  have oD : Over A (C.upd A.next (some (rdB 70 s z.2.2))) := oC.upd (Nat.le_refl _) _
  have d2 : (C.upd A.next (some (rdB 70 s z.2.2))).get (A.next + 1) = some (rdB 48 s q) := by rw [get_upd_old (by omega)]; exact g2
  have d1 : (C.upd A.next (some (rdB 70 s z.2.2))).get A.next = some (rdB 70 s z.2.2) := get_upd_same ..
  have dn : A.next + 2 ≤ (C.upd A.next (some (rdB 70 s z.2.2))).next := hnx
  simp (maxSteps := 1000000) (disch := (first | omega | (simp only [nx_alloc, nx_upd, len_cons, len_nil, List.length_set, List.length_map, List.length_append] <;> omega) | fail)) only [go_sem, r0, r5, r6, r7, e1]
  refine call1 n1 ?_
  generalize C.upd A.next (some (rdB 70 s z.2.2)) = D at *
  simp (maxSteps := 1000000) (disch := (first | omega | (simp only [nx_alloc, nx_upd, len_cons, len_nil, List.length_set, List.length_map, List.length_append] <;> omega) | fail)) only [go_sem, r0, r5, r6, r7]
  refine call1 (n2 D (View.over hv oD) d2) ?_
  have oB : Over A (D.upd (A.next + 1) (some (rdB 48 s z.2.2))) := oD.upd (by omega) _
  have b2 : (D.upd (A.next + 1) (some (rdB 48 s z.2.2))).get (A.next + 1) = some (rdB 48 s z.2.2) := get_upd_same ..
  have b1 : (D.upd (A.next + 1) (some (rdB 48 s z.2.2))).get A.next = some (rdB 70 s z.2.2) := by rw [get_upd_old (by omega)]; exact d1
  have bn : A.next + 2 ≤ (D.upd (A.next + 1) (some (rdB 48 s z.2.2))).next := dn
  generalize D.upd (A.next + 1) (some (rdB 48 s z.2.2)) = B at *
  simp (maxSteps := 1000000) (disch := (first | omega | (simp only [nx_alloc, nx_upd, len_cons, len_nil, List.length_set, List.length_map, List.length_append] <;> omega) | fail)) only [go_sem, r0, r5, r6, r7]
  refine call1 (left_ok w0 B A.next s z.2.2 b1 (by omega) hle.2) ?_
  simp (maxSteps := 1000000) (disch := (first | omega | (simp only [nx_alloc, nx_upd, len_cons, len_nil, List.length_set, List.length_map, List.length_append] <;> omega) | fail)) only [go_sem, r6]
  refine call1 (rleft_ok w0 B (A.next + 1) s z.2.2 b2 (by omega) hle.2) ?_
  by_cases hz : z.2.1 = 0
  · simp (maxSteps := 1000000) (disch := (first | omega | (simp only [nx_alloc, nx_upd, len_cons, len_nil, List.length_set, List.length_map, List.length_append] <;> omega) | fail)) only [go_sem, r0, r5, r6, r7, hz]
    refine ⟨j - 1, by omega, _, i + 1, z.2.2, rfl, oB, bn, b1, b2, hle.2, by omega, by omega, ?_, ?_, ?_, ?_⟩
    · simp (maxSteps := 1000000) (disch := (first | omega | (simp only [nx_alloc, nx_upd, len_cons, len_nil, List.length_set, List.length_map, List.length_append] <;> omega) | fail)) only [go_sem, r0]
    · simp (maxSteps := 1000000) (disch := (first | omega | (simp only [nx_alloc, nx_upd, len_cons, len_nil, List.length_set, List.length_map, List.length_append] <;> omega) | fail)) only [go_sem, r5]
    · simp (maxSteps := 1000000) (disch := (first | omega | (simp only [nx_alloc, nx_upd, len_cons, len_nil, List.length_set, List.length_map, List.length_append] <;> omega) | fail)) only [go_sem, r6]
    · simp (maxSteps := 1000000) (disch := (first | omega | (simp only [nx_alloc, nx_upd, len_cons, len_nil, List.length_set, List.length_map, List.length_append] <;> omega) | fail)) only [go_sem]
      rfl
  · simp (maxSteps := 1000000) (disch := (first | omega | (simp only [nx_alloc, nx_upd, len_cons, len_nil, List.length_set, List.length_map, List.length_append] <;> omega) | fail)) only [go_sem, r0, r5, r6, r7, hz, Try.results8]
    exact gc_fin' hw oB rfl (.bool _)
end Go.Fw
