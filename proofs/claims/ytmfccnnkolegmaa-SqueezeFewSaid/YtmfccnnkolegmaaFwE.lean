import Derived.Test.YtmfccnnkolegmaaFwSq16
set_option linter.unusedSimpArgs false
set_option linter.unusedVariables false
set_option maxRecDepth 4000
namespace Go.Fw
open Go.Proofs Go.RowKit
theorem Try.enters7 : Enters Try.prog 7 := enters_of Try.func7 rfl (by kernel_rfl)
set_option maxHeartbeats 8000000 in
theorem few_walk (w0 : World) (A : St) (c n : Int) (hc : 0 ≤ c ∧ c ≤ 255) (hn : 0 ≤ n ∧ n ≤ 65535) : ACalls Try.prog w0 7 #[.int .u8 c, .int .u16 n] A (fin (.bool true) A) := by
  refine call_E (l := [.int .u8 c, .int .u16 n]) Try.enters7 Try.func7 rfl (Nat.le_of_ble_eq_true rfl) fun hw hbd => ?_
  simp (maxSteps := 1000000) (disch := first | omega | (simp only [z1, z2, z3, z4, z5, z6, z7] <;> omega) | fail) only [go_sem, Try.ntmps7, Try.results7]
  obtain ⟨u, rfl⟩ := Int.eq_ofNat_of_zero_le hn.1
  have hr : ((u : Nat) : Int).tmod 900 = ((u % 900 : Nat) : Int) := by rw [Int.tmod_eq_emod_of_nonneg (by omega)]; omega
  have hwu : IntKind.i64.wrap (u : Int) = (u : Int) := wrap_small (by omega) (by omega)
  have hw1 : IntKind.i64.wrap (100 + ((u % 900 : Nat) : Int)) = ((100 + u % 900 : Nat) : Int) := by rw [wrap_small (by omega) (by omega)]; omega
  have hN : u % 900 < 900 := Nat.mod_lt _ (by decide)
  have hby : Byte c := ⟨hc.1, by omega⟩
  obtain ⟨N, hNd⟩ : ∃ N, N = 100 + u % 900 := ⟨_, rfl⟩
  rw [← hNd] at hw1
  refine aw_loop (fun k x B => ∃ (ρ : Nat → Value) (i : Nat) (bv : Value), x = E 84 ρ [] ∧ Over A B ∧ Row B 5 1 A.next ((List.replicate i c).map (Value.int .u8 ·)) (List.replicate i c).length bv ∧ k = N - i ∧ i ≤ N ∧ ρ 0 = .int .u8 c ∧ ρ 1 = .int .u16 u ∧ ρ 5 = bv ∧ ρ 6 = .int .i64 i) N
    ⟨_, 0, _, rfl, (Over.refl A).alloc _, ⟨rfl, .inr ⟨A.next, none, rfl, .inl rfl, Nat.le_refl _, by rw [nx_alloc]; omega, get_alloc_same ..⟩⟩, rfl, Nat.zero_le _, rfl, rfl, rfl, rfl⟩ ?_
  rintro k x B ⟨ρ, i, bv, rfl, oB, rb, hk, hi, r0, r1, r5, r6⟩
  refine aw_of ?_
  by_cases hend : i = N
  rotate_left
  · have e1 : (i : Int) < (N : Int) := by omega
    obtain ⟨v', A2, q1, q2, q3, q4, q5⟩ := b_push rb c oB.next (by rw [List.length_replicate]; omega)
    rw [← List.replicate_succ'] at q2
    have oA2 : Over A A2 := ⟨by have := oB.next; omega, fun b hb => (q5 b (by have := oB.next; omega) (rb.ne hb)).trans (oB.get b hb)⟩
    simp (maxSteps := 1000000) (disch := first | omega | (simp only [z1, z2, z3, z4, z5, z6, z7] <;> omega) | fail) only [go_sem, r0, r1, r5, r6, hwu, hr, hw1, e1, q1]
    refine ⟨k - 1, by omega, _, i + 1, v', rfl, oA2, q2, by omega, by omega, ?_, ?_, ?_, ?_⟩
    · simp (maxSteps := 1000000) (disch := first | omega | (simp only [z1, z2, z3, z4, z5, z6, z7] <;> omega) | fail) only [go_sem, r0]
    · simp (maxSteps := 1000000) (disch := first | omega | (simp only [z1, z2, z3, z4, z5, z6, z7] <;> omega) | fail) only [go_sem, r1]
    · simp (maxSteps := 1000000) (disch := first | omega | (simp only [z1, z2, z3, z4, z5, z6, z7] <;> omega) | fail) only [go_sem]
    · simp (maxSteps := 1000000) (disch := first | omega | (simp only [z1, z2, z3, z4, z5, z6, z7] <;> omega) | fail) only [go_sem]
      rfl
  have e1 : ¬ (i : Int) < (N : Int) := by omega
  rw [hend] at rb
  have htx : convU Try.prog B (some (.slice 5)) (some .string) bv = some (.string (runT c N), B) := View.text rb.view Try.underlying5
  have hlb : ∀ X, lenU X (some (.slice 5)) bv = some (.int .i64 (List.replicate N c).length, X) := View.lenX rb.view
  rw [List.length_replicate] at hlb
  have hrs := runT_size c N
  have hs : (runT c N).size ≤ 4096 := by omega
  have hT := sqT_size hs
  have hbe : ∀ t : ByteArray, (t == t) = true := fun t => beqS t
  have hbe2 : ((ByteArray.empty : ByteArray) == (⟨#[]⟩ : ByteArray)) = true := beqS _
  have hsm := run_small hby (n := N) (by omega) (by omega)
  have e3 : ((sqT (runT c N)).size : Int) < (N : Int) := by omega
  have x1 := exp_self (s := runT c N) (most := (N : Int)) hs (by omega)
  have hs0 : ByteArray.empty.size ≤ 4096 := by decide
  have hT0 := sqT_size hs0
  have x2 := exp_self (s := ByteArray.empty) (most := 0) hs0 (by decide)
  simp (maxSteps := 1000000) (disch := first | omega | (simp only [z1, z2, z3, z4, z5, z6, z7] <;> omega) | fail) only [go_sem, r0, r1, r5, r6, hwu, hr, hw1, e1, htx]
  refine call1 (sqz_ok w0 B hs) ?_
  simp (maxSteps := 1000000) (disch := first | omega | (simp only [z1, z2, z3, z4, z5, z6, z7] <;> omega) | fail) only [go_sem, r5, hlb]
  refine call1 (expd_ok w0 B (by omega) x1) ?_
  simp (maxSteps := 1000000) (disch := first | omega | (simp only [z1, z2, z3, z4, z5, z6, z7] <;> omega) | fail) only [go_sem]
  refine call1 (sqz_ok w0 B (s := ByteArray.empty) hs0) ?_
  simp (maxSteps := 1000000) (disch := first | omega | (simp only [z1, z2, z3, z4, z5, z6, z7] <;> omega) | fail) only [go_sem]
  refine call1 (expd_ok w0 B (by omega) x2) ?_
  simp (maxSteps := 1000000) (disch := first | omega | (simp only [z1, z2, z3, z4, z5, z6, z7] <;> omega) | fail) only [go_sem, r5, htx, hlb, hbe, hbe2, e3]
  refine call1 (shown_ok w0 _) ?_
  simp (maxSteps := 1000000) (disch := first | omega | (simp only [z1, z2, z3, z4, z5, z6, z7] <;> omega) | fail) only [go_sem, Try.results7]
  exact gc_fin' hw oB rfl (.bool _)
end Go.Fw
