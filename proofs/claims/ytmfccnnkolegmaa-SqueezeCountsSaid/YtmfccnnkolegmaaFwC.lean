import Derived.Test.YtmfccnnkolegmaaFwSq16
set_option linter.unusedSimpArgs false
set_option linter.unusedVariables false
set_option maxRecDepth 4000
namespace Go.Fw
open Go.Proofs Go.RowKit
theorem Try.enters5 : Enters Try.prog 5 := enters_of Try.func5 rfl (by kernel_rfl)
theorem sumF_le (f : Nat → Nat) : ∀ n m, n ≤ m → sumF f n ≤ sumF f m := fun n m h => by
  induction h with
  | refl => exact Nat.le_refl _
  | step h ih => exact Nat.le_trans ih (by rw [sumF]; omega)
theorem tk_push {A : St} {lo : Nat} {l : List Tok} {v : Value} (h : Row A 33 3 lo (l.flatMap tkC) l.length v) (x : Tok) (hlo : lo ≤ A.next) (hl : l.length ≤ 1000000) :
    ∃ v' A2, aappend Try.prog (A.alloc (.cells (tkC x) 33 (some 0))) 31 31 v (.slice (some ⟨A.next, 0, none⟩) 1 1) = some (v', A2) ∧ Row A2 33 3 lo ((l ++ [x]).flatMap tkC) (l ++ [x]).length v' ∧ A2.next = A.next + 2 ∧ rowB v' = some (A.next + 1) ∧ ∀ b, b < A.next → rowB v ≠ some b → A2.get b = A.get b := by
  obtain ⟨v', A2, h1, h2, h3, h4, h5⟩ := row_push (A := A) (sp := none) (c := 1) (xs := tkC x) Try.el31 Try.underlying31 (by intro k; exact TypeDesc.noConfusion) Try.sz33 Try.byt33 Try.zero33 rfl h hlo (by omega) (by omega) rfl rfl
  exact ⟨v', A2, h1, by rw [List.flatMap_append, List.length_append, List.flatMap_singleton]; exact h2, h3, h4, h5⟩
abbrev tkB : Tok → List Value := tkC
theorem tkB_len (t : Tok) : (tkB t).length = 3 := rfl
theorem tkB_pl (t : Tok) : (tkB t).all plainV = true := rfl
set_option maxHeartbeats 8000000 in
theorem counts_walk (w0 : World) (A : St) (v : Value) (l : List Tok) (s : ByteArray) (hv : View A 3 (l.flatMap tkC) l.length v) (hok : ∀ t ∈ l, TokB t) : ACalls Try.prog w0 5 #[v, .string s] A (fin (.bool true) A) := by
  refine call_E (l := [v, .string s]) Try.enters5 Try.func5 rfl (Nat.le_of_ble_eq_true rfl) fun hw hbd => ?_
  have hlv : ∀ X, lenU X (some (.slice 34)) v = some (.int .i64 l.length, X) := View.lenX hv
  by_cases hbig : ((l.length : Nat) : Int) > 300
  · simp (maxSteps := 1000000) (disch := first | omega | (simp only [z1, z2, z3, z4, z5, z6, z7] <;> omega) | fail) only [go_sem, Try.ntmps5, Try.results5, hlv, hbig]
    refine call1 (shown_ok w0 _) ?_
    simp (maxSteps := 1000000) (disch := first | omega | (simp only [z1, z2, z3, z4, z5, z6, z7] <;> omega) | fail) only [go_sem, Try.results5]
    exact gc_fin' hw (Over.refl _) rfl (.bool _)
  by_cases hbig2 : ((s.size : Nat) : Int) > 1500
  · simp (maxSteps := 1000000) (disch := first | omega | (simp only [z1, z2, z3, z4, z5, z6, z7] <;> omega) | fail) only [go_sem, Try.ntmps5, Try.results5, hlv, hbig, hbig2]
    refine call1 (shown_ok w0 _) ?_
    simp (maxSteps := 1000000) (disch := first | omega | (simp only [z1, z2, z3, z4, z5, z6, z7] <;> omega) | fail) only [go_sem, Try.results5]
    exact gc_fin' hw (Over.refl _) rfl (.bool _)
  simp (maxSteps := 1000000) (disch := first | omega | (simp only [z1, z2, z3, z4, z5, z6, z7] <;> omega) | fail) only [go_sem, Try.ntmps5, Try.results5, hlv, hbig, hbig2]
  refine call1 (shown_ok w0 _) ?_
  simp (maxSteps := 1000000) (disch := first | omega | (simp only [z1, z2, z3, z4, z5, z6, z7] <;> omega) | fail) only [go_sem]
  refine aw_loop (fun k x A' => ∃ (ρ : Nat → Value) (i : Nat) (fv : Value), x = E 86 ρ [] ∧ Over A A' ∧ Row A' 33 3 A.next ((l.take i).flatMap tkC) (l.take i).length fv ∧ k = l.length - i ∧ i ≤ l.length ∧ ρ 0 = v ∧ ρ 1 = .string s ∧ ρ 5 = fv ∧ ρ 6 = .int .i64 i) l.length
    ⟨_, 0, _, rfl, (Over.refl A).alloc _, ⟨rfl, .inr ⟨A.next, none, rfl, .inl rfl, Nat.le_refl _, by rw [nx_alloc]; omega, get_alloc_same ..⟩⟩, rfl, Nat.zero_le _, rfl, rfl, rfl, rfl⟩ ?_
  rintro k x A' ⟨ρ, i, fv, rfl, oA, rf, hk, hi, r0, r1, r5, r6⟩
  refine aw_of ?_
  have htk : (l.take i).length ≤ i := List.length_take_le ..
  by_cases hend : i = l.length
  rotate_left
  · have e1 : (i : Int) < (l.length : Int) := by omega
    obtain ⟨t, hx⟩ : ∃ x, l[i]? = some x := ⟨_, List.getElem?_eq_getElem (by omega)⟩
    obtain ⟨b, off, hb1, hb2, hb3, cells, e', m, hb4, hb5, hb6, _⟩ := tks_at (P := Try.prog) (e := 34) (show TokView A' l v from View.over hv oA) Try.sz34 hx
    have htk2 : l.take (i + 1) = l.take i ++ [t] := by rw [List.take_add_one, hx]; rfl
    obtain ⟨v', A2, q1, q2, q3, q4, q5⟩ := tk_push rf t oA.next (by omega)
    rw [← htk2] at q2
    have oA2 : Over A A2 := ⟨by have := oA.next; omega, fun b hb => (q5 b (by have := oA.next; omega) (rf.ne hb)).trans (oA.get b hb)⟩
    unfold tkC at hb6 q1
    simp (maxSteps := 1000000) (disch := first | omega | (simp only [z1, z2, z3, z4, z5, z6, z7] <;> omega) | fail) only [go_sem, r0, r1, r5, r6, hlv, e1, hb3, hb4, hb5, hb6, q1]
    refine ⟨k - 1, by omega, _, i + 1, v', rfl, oA2, q2, by omega, by omega, ?_, ?_, ?_, ?_⟩
    · simp (maxSteps := 1000000) (disch := first | omega | (simp only [z1, z2, z3, z4, z5, z6, z7] <;> omega) | fail) only [go_sem, r0]
    · simp (maxSteps := 1000000) (disch := first | omega | (simp only [z1, z2, z3, z4, z5, z6, z7] <;> omega) | fail) only [go_sem, r1]
    · simp (maxSteps := 1000000) (disch := first | omega | (simp only [z1, z2, z3, z4, z5, z6, z7] <;> omega) | fail) only [go_sem]
    · simp (maxSteps := 1000000) (disch := first | omega | (simp only [z1, z2, z3, z4, z5, z6, z7] <;> omega) | fail) only [go_sem]
      rfl
  have e1 : ¬ ((i : Int) < (l.length : Int)) := by omega
  rw [show l.take i = l from List.take_of_length_le (by omega)] at rf
  simp (maxSteps := 1000000) (disch := first | omega | (simp only [z1, z2, z3, z4, z5, z6, z7] <;> omega) | fail) only [go_sem, r0, r1, r5, r6, hlv, e1]
  refine (freq_ok w0 A' l v (View.over hv oA) (by omega) hok).mono ?_
  rintro e A1 ⟨av, rfl, o1, ra⟩
  simp (maxSteps := 1000000) (disch := first | omega | (simp only [z1, z2, z3, z4, z5, z6, z7] <;> omega) | fail) only [go_sem, r5]
  refine (rfreq_ok w0 A1 l fv (Row.view (rf.over o1)) (by omega) hok).mono ?_
  rintro e A2 ⟨bv, rfl, o2, rb⟩
  have va : InView A2 (freqL l) av := View.over ra.view o2
  have vb : InView A2 (freqL l) bv := rb.view
  have hla : ∀ X, lenU X (some (.slice 3)) av = some (.int .i64 (freqL l).length, X) := View.lenX va
  have hlb : ∀ X, lenU X (some (.slice 3)) bv = some (.int .i64 (freqL l).length, X) := View.lenX vb
  have oA2 : Over A A2 := (oA.trans o1).trans o2
  have hfl := freqL_len l
  generalize freqL l = g at *
  rw [hfl] at hla hlb
  simp (maxSteps := 1000000) (disch := first | omega | (simp only [z1, z2, z3, z4, z5, z6, z7] <;> omega) | fail) only [go_sem, hla, hlb]
  refine aw_loop (fun k x B => ∃ (ρ : Nat → Value) (i : Nat), x = E 86 ρ [] ∧ B = A2 ∧ k = 289 - i ∧ i ≤ 289 ∧ ρ 1 = .string s ∧ ρ 7 = av ∧ ρ 8 = bv ∧ ρ 9 = .int .i64 i) 289
    ⟨_, 0, rfl, rfl, rfl, Nat.zero_le _, by first | rfl | exact r1, rfl, rfl, rfl⟩ ?_
  clear r0 r1 r5 r6 e1 hend rf
  rintro k x B ⟨ρ, i, rfl, rfl, hk, hi, r1, r7, r8, r9⟩
  refine aw_of ?_
  by_cases hend : i = 289
  rotate_left
  · have e1 : (i : Int) < 289 := by omega
    obtain ⟨y, hy⟩ : ∃ x, g[i]? = some x := ⟨_, List.getElem?_eq_getElem (by omega)⟩
    obtain ⟨_, _, _, _, x3, _, _, _, x4, x5⟩ := View.at1 (P := Try.prog) (e := 3) va Try.sz3 (i64E_at _ i y hy)
    obtain ⟨_, _, _, _, y3, _, _, _, y4, y5⟩ := View.at1 (P := Try.prog) (e := 3) vb Try.sz3 (i64E_at _ i y hy)
    simp (maxSteps := 1000000) (disch := first | omega | (simp only [z1, z2, z3, z4, z5, z6, z7] <;> omega) | fail) only [go_sem, r1, r7, r8, r9, hla, e1]
    refine aw_draw (by kernel_rfl) ?_
    simp (maxSteps := 1000000) (disch := first | omega | (simp only [z1, z2, z3, z4, z5, z6, z7] <;> omega) | fail) only [go_sem, r1, r7, r8, r9, x3, x4, x5, y3, y4, y5]
    refine ⟨k - 1, by omega, _, i + 1, rfl, by omega, by omega, ?_, ?_, ?_, ?_⟩
    · simp (maxSteps := 1000000) (disch := first | omega | (simp only [z1, z2, z3, z4, z5, z6, z7] <;> omega) | fail) only [go_sem, r1]
    · simp (maxSteps := 1000000) (disch := first | omega | (simp only [z1, z2, z3, z4, z5, z6, z7] <;> omega) | fail) only [go_sem, r7]
    · simp (maxSteps := 1000000) (disch := first | omega | (simp only [z1, z2, z3, z4, z5, z6, z7] <;> omega) | fail) only [go_sem, r8]
    · simp (maxSteps := 1000000) (disch := first | omega | (simp only [z1, z2, z3, z4, z5, z6, z7] <;> omega) | fail) only [go_sem]
      rfl
  have e1 : ¬ (i : Int) < 289 := by omega
  simp (maxSteps := 1000000) (disch := first | omega | (simp only [z1, z2, z3, z4, z5, z6, z7] <;> omega) | fail) only [go_sem, r1, r7, r8, r9, hla, e1]
  refine (Split_ok w0 B s (by omega)).mono ?_
  rintro e B1 ⟨tv, rfl, p1, rt⟩
  have hS := splitL_S s
  have hsl := splitL_len s
  have vt : TokView B1 (splitL s) tv := rt.view
  have hsum := sumF_freq (splitL s) hS
  generalize splitL s = L at *
  simp (maxSteps := 1000000) (disch := first | omega | (simp only [z1, z2, z3, z4, z5, z6, z7] <;> omega) | fail) only [go_sem]
  refine (freq_ok w0 B1 L tv vt (by omega) (fun t ht => (hS t ht).b)).mono ?_
  rintro e B2 ⟨yv, rfl, p2, ry⟩
  have vy : InView B2 (freqL L) yv := ry.view
  have hly : ∀ X, lenU X (some (.slice 3)) yv = some (.int .i64 (freqL L).length, X) := View.lenX vy
  have hlt : ∀ X, lenU X (some (.slice 34)) tv = some (.int .i64 L.length, X) := View.lenX vt
  rw [freqL_len] at hly
  simp (maxSteps := 1000000) (disch := first | omega | (simp only [z1, z2, z3, z4, z5, z6, z7] <;> omega) | fail) only [go_sem]
  refine aw_loop (fun k x C => ∃ (ρ : Nat → Value) (i : Nat), x = E 86 ρ [] ∧ C = B2 ∧ k = 289 - i ∧ i ≤ 289 ∧ ρ 10 = .int .i64 (sumF (freqF L) i : Nat) ∧ ρ 11 = tv ∧ ρ 12 = yv ∧ ρ 13 = .int .i64 i) 289
    ⟨_, 0, rfl, rfl, rfl, Nat.zero_le _, rfl, rfl, rfl, rfl⟩ ?_
  clear r1 r7 r8 r9 e1 hend
  rintro k x C ⟨ρ, i, rfl, rfl, hk, hi, r10, r11, r12, r13⟩
  refine aw_of ?_
  have hsi := sumF_le (freqF L) i 289 hi
  by_cases hend : i = 289
  rotate_left
  · have e1 : (i : Int) < 289 := by omega
    have hsi2 := sumF_le (freqF L) (i + 1) 289 (by omega)
    rw [sumF] at hsi2
    obtain ⟨_, _, _, _, x3, _, _, _, x4, x5⟩ := View.at1 (P := Try.prog) (e := 3) vy Try.sz3 (i64E_at _ i _ (freqL_at (l := L) (show i < 289 by omega)))
    simp (maxSteps := 1000000) (disch := first | omega | (simp only [z1, z2, z3, z4, z5, z6, z7] <;> omega) | fail) only [go_sem, r10, r11, r12, r13, hly, e1, x3, x4, x5]
    refine ⟨k - 1, by omega, _, i + 1, rfl, by omega, by omega, ?_, ?_, ?_, ?_⟩
    · simp (maxSteps := 1000000) (disch := first | omega | (simp only [z1, z2, z3, z4, z5, z6, z7] <;> omega) | fail) only [go_sem]
      rfl
    · simp (maxSteps := 1000000) (disch := first | omega | (simp only [z1, z2, z3, z4, z5, z6, z7] <;> omega) | fail) only [go_sem, r11]
    · simp (maxSteps := 1000000) (disch := first | omega | (simp only [z1, z2, z3, z4, z5, z6, z7] <;> omega) | fail) only [go_sem, r12]
    · simp (maxSteps := 1000000) (disch := first | omega | (simp only [z1, z2, z3, z4, z5, z6, z7] <;> omega) | fail) only [go_sem]
      rfl
  have e1 : ¬ (i : Int) < 289 := by omega
  rw [hend, hsum] at r10
  simp (maxSteps := 1000000) (disch := first | omega | (simp only [z1, z2, z3, z4, z5, z6, z7] <;> omega) | fail) only [go_sem, r10, r11, r12, r13, hly, hlt, e1, Try.results5]
  exact gc_fin' hw ((oA2.trans p1).trans p2) (by simp) (.bool _)
end Go.Fw
