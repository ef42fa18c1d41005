import Derived.Test.YtpjacnialnlilaaFwPre18
set_option linter.unusedSimpArgs false
set_option linter.unusedVariables false
set_option maxRecDepth 4000
namespace Go.Fw
open Go.Proofs Go.RowKit
theorem Try.enters3 : Enters Try.prog 3 := enters_of Try.func3 rfl (by kernel_rfl)
theorem i64E_dec {H : Type} {enc : TypeId × Value → H} {w : World} {held : Bool} (n : Nat) (cs : List Value) (y : DataW H × List MemPlace) (h : DataW.trod enc Try.prog w 0 (fun _ => true) held n 3 cs = some y) : ∃ a, cs = i64E a ∧ i64Ok a := by
  obtain ⟨a, e0, _, w0⟩ := DataW.trod_int Try.underlying3 h
  refine ⟨a, e0, ?_⟩
  have := w0
  simp [Lit.wf, IntKind.min, IntKind.max, IntKind.bits, IntKind.signed] at this
  unfold i64Ok
  omega
set_option maxHeartbeats 4000000 in
theorem lens_walk (w0 : World) (A : St) (v : Value) (f : List Int) (lim : Int) (hv : InView A f v) (hok : ∀ x ∈ f, i64Ok x) (hlim : i64Ok lim) : ACalls Try.prog w0 3 #[v, .int .i64 lim] A (fin (.bool true) A) := by
  refine call_E (l := [v, .int .i64 lim]) Try.enters3 Try.func3 rfl (Nat.le_of_ble_eq_true rfl) fun hw hbd => ?_
  have hlv : ∀ X, lenU X (some (.slice 3)) v = some (.int .i64 f.length, X) := View.lenX hv
  by_cases hbig : ((f.length : Nat) : Int) > 310
  · simp (maxSteps := 1000000) (disch := (first | omega | (simp only [nx_alloc, nx_upd, len_cons, len_nil, List.length_set, List.length_map, List.length_append] <;> omega) | fail)) only [go_sem, Try.ntmps3, Try.results3, hlv, hbig]
    refine call1 (shown_ok w0 _) ?_
    simp (maxSteps := 1000000) (disch := (first | omega | (simp only [nx_alloc, nx_upd, len_cons, len_nil, List.length_set, List.length_map, List.length_append] <;> omega) | fail)) only [go_sem, Try.results3]
    exact gc_fin' hw (Over.refl _) rfl (.bool _)
  simp (maxSteps := 1000000) (disch := (first | omega | (simp only [nx_alloc, nx_upd, len_cons, len_nil, List.length_set, List.length_map, List.length_append] <;> omega) | fail)) only [go_sem, Try.ntmps3, Try.results3, hlv, hbig]
  refine call1 (shown_ok w0 _) ?_
  simp (maxSteps := 1000000) (disch := (first | omega | (simp only [nx_alloc, nx_upd, len_cons, len_nil, List.length_set, List.length_map, List.length_append] <;> omega) | fail)) only [go_sem]
  refine (lengths_ok w0 A f v lim hv (by omega)).mono ?_
  rintro e A1 ⟨lv, rfl, o1, r1⟩
  simp (maxSteps := 1000000) (disch := (first | omega | (simp only [nx_alloc, nx_upd, len_cons, len_nil, List.length_set, List.length_map, List.length_append] <;> omega) | fail)) only [go_sem]
  refine (rlengths_ok w0 A1 f v lim (View.over hv o1) (by omega)).mono ?_
  rintro e A2 ⟨mv, rfl, o2, r2⟩
  simp (maxSteps := 1000000) (disch := (first | omega | (simp only [nx_alloc, nx_upd, len_cons, len_nil, List.length_set, List.length_map, List.length_append] <;> omega) | fail)) only [go_sem]
  have hlen : (lengthsP f lim).1.length ≤ 1000000 := by
    have h : (lengthsP f lim).1 = [] ∨ (lengthsP f lim).1.length = f.length := by
      unfold lengthsP
      split
      · exact .inl rfl
      · split
        · exact .inl rfl
        · split
          · exact .inl rfl
          · exact .inr (lenF_len _ _ _)
    rcases h with h | h
    · rw [h]; simp
    · omega
  have hs := same_ok w0 A2 _ _ lv mv (View.over r1.view o2) r2.view hlen
  rw [decide_eq_true rfl] at hs
  refine call1 hs ?_
  simp (maxSteps := 1000000) (disch := (first | omega | (simp only [nx_alloc, nx_upd, len_cons, len_nil, List.length_set, List.length_map, List.length_append] <;> omega) | fail)) only [go_sem, Try.results3]
  exact gc_fin' hw (o1.trans o2) (by simp) (.bool _)
end Go.Fw
