import Derived.Test.YtpjacnialnlilaaFwPre4
import Derived.Test.YtpjacnialnlilaaFw39
set_option linter.unusedSimpArgs false
set_option linter.unusedVariables false
set_option maxRecDepth 4000
namespace Go.Fw
open Go.Proofs Go.RowKit
variable {w0 : World} {A : St} {b n : Nat} {v : Value} {wt : Value → Int} {D : Value → Prop}
set_option maxHeartbeats 32000000 in
/-- Two sorted rows, one behind the other. -/
theorem symmerge_ok (hv : RowV v b n) (hn63 : n ≤ 1000000) (hc : CmpOk w0 A b wt D) (hD1 : ∀ x, D x → one1 x = true) : ∀ (N : Nat) (p l r q : List Value), l.length + r.length = N → p.length + (l.length + (r.length + q.length)) = n → l ≠ [] → r ≠ [] → (∀ x ∈ l, D x) → (∀ x ∈ r, D x) → Srtd wt l → Srtd wt r → ∀ (a1 a2 a3 : Nat), a1 = p.length → a2 = p.length + l.length → a3 = p.length + (l.length + r.length) →
    ACalls Try.prog w0 52 #[v, .int .i64 a1, .int .i64 a2, .int .i64 a3, cmpV] (A.upd b (nodB (p ++ (l ++ (r ++ q))))) (fin (.tuple #[]) (A.upd b (nodB (p ++ (srtK wt (l ++ r) ++ q))))) := by
  intro N
  induction N using Nat.strongRecOn with
  | _ N IH =>
  intro p l r q hN hlen hl0 hr0 hl hr sl sr a1 a2 a3 e1 e2 e3
  have pl := List.length_pos_iff.2 hl0
  have pr := List.length_pos_iff.2 hr0
  by_cases h1 : l.length = 1
  · obtain ⟨x, rfl⟩ := List.length_eq_one_iff.1 h1
    exact sym_one hv hn63 hc hD1 p x r q hlen (hl x (by simp)) hr sr a1 a2 a3 e1 e2 e3
  by_cases h2 : r.length = 1
  · obtain ⟨y, rfl⟩ := List.length_eq_one_iff.1 h2
    exact sym_last hv hn63 hc hD1 p l y q hlen (by omega) (hr y (by simp)) hl sl a1 a2 a3 e1 e2 e3
  refine call_E (l := [v, .int .i64 a1, .int .i64 a2, .int .i64 a3, cmpV]) Try.enters52 Try.func52 rfl (Nat.le_of_ble_eq_true rfl) fun hw hbd => ?_
  have d1 : (a2 : Int) - (a1 : Int) = (l.length : Int) := by omega
  have d2 : (a3 : Int) - (a2 : Int) = (r.length : Int) := by omega
  have hne1 : ¬ (l.length : Int) = 1 := by omega
  have hne2 : ¬ (r.length : Int) = 1 := by omega
  have hg := get_upd_same (A := A) b (nodB (p ++ (l ++ (r ++ q))))
  obtain ⟨M, hM⟩ : ∃ M, M = (l.length + r.length) / 2 := ⟨_, rfl⟩
  have hsh := half_eq a1 a3 (by omega)
  have hmid : (a1 + a3) / 2 = a1 + M := by omega
  rw [hmid] at hsh
  obtain ⟨mid, hmd⟩ : ∃ mid, mid = a1 + M := ⟨_, rfl⟩
  rw [← hmd] at hsh
  obtain ⟨S0, R0, hS0, hR0⟩ : ∃ S0 R0 : Nat, S0 = (if M < l.length then M - r.length else 0) ∧ R0 = (if M < l.length then M else l.length) := ⟨_, _, rfl, rfl⟩
  have hSR : S0 ≤ R0 ∧ R0 ≤ l.length ∧ R0 ≤ M ∧ M ≤ S0 + r.length ∧ (M < l.length → r.length ≤ M) := by
    by_cases h : M < l.length
    · rw [if_pos h] at hS0 hR0; omega
    · rw [if_neg h] at hS0 hR0; omega
  obtain ⟨g1, g2, g3, g4, g5⟩ := hSR
  have hsn : (mid : Int) + (a2 : Int) = ((mid + a2 : Nat) : Int) := by omega
  have hsp : ((mid + a2 : Nat) : Int) - 1 = ((mid + a2 - 1 : Nat) : Int) := by omega
  simp (maxSteps := 1000000) (disch := (first | omega | (simp only [nx_alloc, nx_upd, len_cons, len_nil, List.length_set, List.length_map, List.length_append] <;> omega) | fail)) only [go_sem, Try.ntmps52, Try.results52, d1, d2, hsh, hsn]
  refine ifB_join (fun a' A' => A' = A.upd b (nodB (p ++ (l ++ (r ++ q)))) ∧ ∃ ρ : Nat → Value, a' = E 220 ρ [] ∧ ρ 0 = v ∧ ρ 1 = .int .i64 a1 ∧ ρ 2 = .int .i64 a2 ∧ ρ 3 = .int .i64 a3 ∧ ρ 4 = cmpV ∧ ρ 18 = .int .i64 mid ∧ ρ 19 = .int .i64 ((mid + a2 : Nat) : Int) ∧ ρ 20 = .int .i64 ((a1 + S0 : Nat) : Int) ∧ ρ 21 = .int .i64 ((a1 + R0 : Nat) : Int)) (fun hb => ?_) (fun hb => ?_) ?_
  · have hb := of_decide_eq_true hb
    have hbr : M < l.length := by omega
    have hst : ((mid + a2 : Nat) : Int) - (a3 : Int) = ((a1 + S0 : Nat) : Int) := by rw [if_pos hbr] at hS0; have := g5 hbr; omega
    have hrr : (mid : Int) = ((a1 + R0 : Nat) : Int) := by rw [if_pos hbr] at hR0; omega
    simp (maxSteps := 1000000) (disch := (first | omega | (simp only [nx_alloc, nx_upd, len_cons, len_nil, List.length_set, List.length_map, List.length_append] <;> omega) | fail)) only [go_sem, normQ_normal, hst]
    refine ⟨_, rfl, rfl, rfl, rfl, rfl, rfl, rfl, rfl, rfl, ?_⟩
    show Value.int .i64 (mid : Int) = _
    rw [hrr]
  · have hb := of_decide_eq_false hb
    have hbr : ¬ M < l.length := by omega
    have hst : (a1 : Int) = ((a1 + S0 : Nat) : Int) := by rw [if_neg hbr] at hS0; omega
    have hrr : (a2 : Int) = ((a1 + R0 : Nat) : Int) := by rw [if_neg hbr] at hR0; omega
    simp (maxSteps := 1000000) (disch := (first | omega | (simp only [nx_alloc, nx_upd, len_cons, len_nil, List.length_set, List.length_map, List.length_append] <;> omega) | fail)) only [go_sem, normQ_normal]
    refine ⟨_, rfl, rfl, rfl, rfl, rfl, rfl, rfl, rfl, ?_, ?_⟩
    · show Value.int .i64 (a1 : Int) = _
      rw [← hst]
    · show Value.int .i64 (a2 : Int) = _
      rw [hrr]
  rintro a' A' ⟨rfl, ρ, rfl, r0, r1, r2, r3, r4, r18, r19, r20, r21⟩
  simp (maxSteps := 1000000) (disch := (first | omega | (simp only [nx_alloc, nx_upd, len_cons, len_nil, List.length_set, List.length_map, List.length_append] <;> omega) | fail)) only [go_sem, r0, r1, r2, r3, r4, r18, r19, r20, r21, hsp]
  refine cutL 8 (fun a' A' => A' = A.upd b (nodB (p ++ (l ++ (r ++ q)))) ∧ ∃ (ρ : Nat → Value) (i : Nat), a' = E 220 ρ [] ∧ S0 ≤ i ∧ i ≤ R0 ∧ (∀ t x y, S0 ≤ t → t < i → l[t]? = some x → r[M - 1 - t]? = some y → wt x ≤ wt y) ∧ (∀ t x y, i ≤ t → t < R0 → l[t]? = some x → r[M - 1 - t]? = some y → wt y < wt x) ∧ ρ 0 = v ∧ ρ 1 = .int .i64 a1 ∧ ρ 2 = .int .i64 a2 ∧ ρ 3 = .int .i64 a3 ∧ ρ 4 = cmpV ∧ ρ 18 = .int .i64 mid ∧ ρ 19 = .int .i64 ((mid + a2 : Nat) : Int) ∧ ρ 20 = .int .i64 ((a1 + i : Nat) : Int)) ?_ ?_
  · refine aw_loop (fun k a A' => ∃ (ρ : Nat → Value) (i j : Nat), a = E 220 ρ [] ∧ k = j - i ∧ S0 ≤ i ∧ i ≤ j ∧ j ≤ R0 ∧ (∀ t x y, S0 ≤ t → t < i → l[t]? = some x → r[M - 1 - t]? = some y → wt x ≤ wt y) ∧ (∀ t x y, j ≤ t → t < R0 → l[t]? = some x → r[M - 1 - t]? = some y → wt y < wt x) ∧ A' = A.upd b (nodB (p ++ (l ++ (r ++ q)))) ∧ ρ 0 = v ∧ ρ 1 = .int .i64 a1 ∧ ρ 2 = .int .i64 a2 ∧ ρ 3 = .int .i64 a3 ∧ ρ 4 = cmpV ∧ ρ 18 = .int .i64 mid ∧ ρ 19 = .int .i64 ((mid + a2 : Nat) : Int) ∧ ρ 20 = .int .i64 ((a1 + i : Nat) : Int) ∧ ρ 21 = .int .i64 ((a1 + j : Nat) : Int) ∧ ρ 22 = .int .i64 ((mid + a2 - 1 : Nat) : Int)) (R0 - S0)
      ⟨_, S0, R0, rfl, rfl, Nat.le_refl _, g1, Nat.le_refl _, (fun t x y h1 h2 => by omega), (fun t x y h1 h2 => by omega), rfl, by first | rfl | exact r0, by first | rfl | exact r1, by first | rfl | exact r2, by first | rfl | exact r3, by first | rfl | exact r4, by first | rfl | exact r18, by first | rfl | exact r19, by first | rfl | exact r20, by first | rfl | exact r21, rfl⟩ ?_
    clear r0 r1 r2 r3 r4 r18 r19 r20 r21
    rintro k a A' ⟨ρ, i, j, rfl, rfl, hSi, hij, hjR, hlo, hhi, rfl, r0, r1, r2, r3, r4, r18, r19, r20, r21, r22⟩
    refine aw_of ?_
    by_cases hlt : i < j
    · have hlt' : ((a1 + i : Nat) : Int) < ((a1 + j : Nat) : Int) := by omega
      have hsh2 := half_eq (a1 + i) (a1 + j) (by omega)
      obtain ⟨h, hh⟩ : ∃ h, h = (i + j) / 2 := ⟨_, rfl⟩
      have hhe : (a1 + i + (a1 + j)) / 2 = a1 + h := by omega
      rw [hhe] at hsh2
      have hir : i ≤ h ∧ h < j := by omega
      obtain ⟨x, hx⟩ : ∃ x, l[h]? = some x := ⟨l[h]'(by omega), List.getElem?_eq_getElem (by omega)⟩
      obtain ⟨y, hy⟩ : ∃ y, r[M - 1 - h]? = some y := ⟨r[M - 1 - h]'(by omega), List.getElem?_eq_getElem (by omega)⟩
      have ih := hv .i64 (a1 + h) (by omega)
      have ch : (p ++ (l ++ (r ++ q)))[a1 + h]? = some x := by rw [e1]; exact at_l hx
      obtain ⟨K, hK⟩ : ∃ K, K = a2 + (M - 1 - h) := ⟨_, rfl⟩
      have iK := hv .i64 K (by omega)
      have cK : (p ++ (l ++ (r ++ q)))[K]? = some y := by rw [show K = p.length + (l.length + (M - 1 - h)) by omega]; exact at_r hy
      have hcc := hc (p ++ (l ++ (r ++ q))) y x (hr y (List.mem_of_getElem? hy)) (hl x (List.mem_of_getElem? hx))
      obtain ⟨H, hH⟩ : ∃ H, H = a1 + h := ⟨_, rfl⟩
      rw [← hH] at hsh2 ih ch
      have hsub : ((mid + a2 - 1 : Nat) : Int) - (H : Int) = (K : Int) := by omega
      simp (maxSteps := 1000000) (disch := (first | omega | (simp only [nx_alloc, nx_upd, len_cons, len_nil, List.length_set, List.length_map, List.length_append] <;> omega) | fail)) only [go_sem, r0, r1, r2, r3, r4, r18, r19, r20, r21, r22, hsh2]
      refine aw_draw (by kernel_rfl) ?_
      simp (maxSteps := 1000000) (disch := (first | omega | (simp only [nx_alloc, nx_upd, len_cons, len_nil, List.length_set, List.length_map, List.length_append] <;> omega) | fail)) only [go_sem, r0, r4, r22, hsub, ih, iK, ch, cK, hg]
      refine ⟨_, hcc, ?_⟩
      by_cases hxy : wt y - wt x < 0
      · simp (maxSteps := 1000000) (disch := (first | omega | (simp only [nx_alloc, nx_upd, len_cons, len_nil, List.length_set, List.length_map, List.length_append] <;> omega) | fail)) only [go_sem, hxy]
        refine ⟨h - i, by omega, _, i, h, rfl, rfl, hSi, hir.1, by omega, hlo, fun t z u ht ht2 hz hu => ?_, ?_, ?_, ?_, ?_, ?_, ?_, ?_, ?_, ?_, ?_⟩
        · have := sl.at hx hz ht
          have := sr.at hu hy (by omega)
          omega
        · simp (maxSteps := 1000000) (disch := (first | omega | (simp only [nx_alloc, nx_upd, len_cons, len_nil, List.length_set, List.length_map, List.length_append] <;> omega) | fail)) only [go_sem, r0]
        · simp (maxSteps := 1000000) (disch := (first | omega | (simp only [nx_alloc, nx_upd, len_cons, len_nil, List.length_set, List.length_map, List.length_append] <;> omega) | fail)) only [go_sem, r1]
        · simp (maxSteps := 1000000) (disch := (first | omega | (simp only [nx_alloc, nx_upd, len_cons, len_nil, List.length_set, List.length_map, List.length_append] <;> omega) | fail)) only [go_sem, r2]
        · simp (maxSteps := 1000000) (disch := (first | omega | (simp only [nx_alloc, nx_upd, len_cons, len_nil, List.length_set, List.length_map, List.length_append] <;> omega) | fail)) only [go_sem, r3]
        · simp (maxSteps := 1000000) (disch := (first | omega | (simp only [nx_alloc, nx_upd, len_cons, len_nil, List.length_set, List.length_map, List.length_append] <;> omega) | fail)) only [go_sem, r4]
        · simp (maxSteps := 1000000) (disch := (first | omega | (simp only [nx_alloc, nx_upd, len_cons, len_nil, List.length_set, List.length_map, List.length_append] <;> omega) | fail)) only [go_sem, r18]
        · simp (maxSteps := 1000000) (disch := (first | omega | (simp only [nx_alloc, nx_upd, len_cons, len_nil, List.length_set, List.length_map, List.length_append] <;> omega) | fail)) only [go_sem, r19]
        · simp (maxSteps := 1000000) (disch := (first | omega | (simp only [nx_alloc, nx_upd, len_cons, len_nil, List.length_set, List.length_map, List.length_append] <;> omega) | fail)) only [go_sem, r20]
        · simp (maxSteps := 1000000) (disch := (first | omega | (simp only [nx_alloc, nx_upd, len_cons, len_nil, List.length_set, List.length_map, List.length_append] <;> omega) | fail)) only [go_sem, hH]
        · simp (maxSteps := 1000000) (disch := (first | omega | (simp only [nx_alloc, nx_upd, len_cons, len_nil, List.length_set, List.length_map, List.length_append] <;> omega) | fail)) only [go_sem, r22]
      · have hb1 : (H : Int) + 1 = ((a1 + (h + 1) : Nat) : Int) := by omega
        simp (maxSteps := 1000000) (disch := (first | omega | (simp only [nx_alloc, nx_upd, len_cons, len_nil, List.length_set, List.length_map, List.length_append] <;> omega) | fail)) only [go_sem, hxy, hb1]
        refine ⟨j - (h + 1), by omega, _, h + 1, j, rfl, rfl, by omega, by omega, hjR, fun t z u ht ht2 hz hu => ?_, hhi, ?_, ?_, ?_, ?_, ?_, ?_, ?_, ?_, ?_, ?_⟩
        · have := sl.at hz hx (by omega)
          have := sr.at hy hu (by omega)
          omega
        · simp (maxSteps := 1000000) (disch := (first | omega | (simp only [nx_alloc, nx_upd, len_cons, len_nil, List.length_set, List.length_map, List.length_append] <;> omega) | fail)) only [go_sem, r0]
        · simp (maxSteps := 1000000) (disch := (first | omega | (simp only [nx_alloc, nx_upd, len_cons, len_nil, List.length_set, List.length_map, List.length_append] <;> omega) | fail)) only [go_sem, r1]
        · simp (maxSteps := 1000000) (disch := (first | omega | (simp only [nx_alloc, nx_upd, len_cons, len_nil, List.length_set, List.length_map, List.length_append] <;> omega) | fail)) only [go_sem, r2]
        · simp (maxSteps := 1000000) (disch := (first | omega | (simp only [nx_alloc, nx_upd, len_cons, len_nil, List.length_set, List.length_map, List.length_append] <;> omega) | fail)) only [go_sem, r3]
        · simp (maxSteps := 1000000) (disch := (first | omega | (simp only [nx_alloc, nx_upd, len_cons, len_nil, List.length_set, List.length_map, List.length_append] <;> omega) | fail)) only [go_sem, r4]
        · simp (maxSteps := 1000000) (disch := (first | omega | (simp only [nx_alloc, nx_upd, len_cons, len_nil, List.length_set, List.length_map, List.length_append] <;> omega) | fail)) only [go_sem, r18]
        · simp (maxSteps := 1000000) (disch := (first | omega | (simp only [nx_alloc, nx_upd, len_cons, len_nil, List.length_set, List.length_map, List.length_append] <;> omega) | fail)) only [go_sem, r19]
        · simp (maxSteps := 1000000) (disch := (first | omega | (simp only [nx_alloc, nx_upd, len_cons, len_nil, List.length_set, List.length_map, List.length_append] <;> omega) | fail)) only [go_sem]
        · simp (maxSteps := 1000000) (disch := (first | omega | (simp only [nx_alloc, nx_upd, len_cons, len_nil, List.length_set, List.length_map, List.length_append] <;> omega) | fail)) only [go_sem, r21]
        · simp (maxSteps := 1000000) (disch := (first | omega | (simp only [nx_alloc, nx_upd, len_cons, len_nil, List.length_set, List.length_map, List.length_append] <;> omega) | fail)) only [go_sem, r22]
    obtain rfl : i = j := by omega
    have hlt' : ¬ ((a1 + i : Nat) : Int) < ((a1 + i : Nat) : Int) := by omega
    simp (maxSteps := 1000000) (disch := (first | omega | (simp only [nx_alloc, nx_upd, len_cons, len_nil, List.length_set, List.length_map, List.length_append] <;> omega) | fail)) only [go_sem, r0, r1, r2, r3, r4, r18, r19, r20, r21, exitQ_exit]
    refine ⟨_, i, rfl, hSi, hjR, hlo, hhi, ?_, ?_, ?_, ?_, ?_, ?_, ?_, ?_⟩
    · simp (maxSteps := 1000000) (disch := (first | omega | (simp only [nx_alloc, nx_upd, len_cons, len_nil, List.length_set, List.length_map, List.length_append] <;> omega) | fail)) only [go_sem, r0]
    · simp (maxSteps := 1000000) (disch := (first | omega | (simp only [nx_alloc, nx_upd, len_cons, len_nil, List.length_set, List.length_map, List.length_append] <;> omega) | fail)) only [go_sem, r1]
    · simp (maxSteps := 1000000) (disch := (first | omega | (simp only [nx_alloc, nx_upd, len_cons, len_nil, List.length_set, List.length_map, List.length_append] <;> omega) | fail)) only [go_sem, r2]
    · simp (maxSteps := 1000000) (disch := (first | omega | (simp only [nx_alloc, nx_upd, len_cons, len_nil, List.length_set, List.length_map, List.length_append] <;> omega) | fail)) only [go_sem, r3]
    · simp (maxSteps := 1000000) (disch := (first | omega | (simp only [nx_alloc, nx_upd, len_cons, len_nil, List.length_set, List.length_map, List.length_append] <;> omega) | fail)) only [go_sem, r4]
    · simp (maxSteps := 1000000) (disch := (first | omega | (simp only [nx_alloc, nx_upd, len_cons, len_nil, List.length_set, List.length_map, List.length_append] <;> omega) | fail)) only [go_sem, r18]
    · simp (maxSteps := 1000000) (disch := (first | omega | (simp only [nx_alloc, nx_upd, len_cons, len_nil, List.length_set, List.length_map, List.length_append] <;> omega) | fail)) only [go_sem, r19]
    · simp (maxSteps := 1000000) (disch := (first | omega | (simp only [nx_alloc, nx_upd, len_cons, len_nil, List.length_set, List.length_map, List.length_append] <;> omega) | fail)) only [go_sem, r20]
  clear r0 r1 r2 r3 r4 r18 r19 r20 r21
  rintro a' A' ⟨rfl, ρ, i, rfl, hSi, hiR, hlo, hhi, r0, r1, r2, r3, r4, r18, r19, r20⟩
  simp only [blockQ_exit, if_true, thenQ_normal, wpA_seq]
  obtain ⟨X, U, rfl, hXl⟩ : ∃ X U, l = X ++ U ∧ X.length = i := ⟨l.take i, l.drop i, (List.take_append_drop ..).symm, by rw [List.length_take]; omega⟩
  obtain ⟨V, Y, rfl, hVl⟩ : ∃ V Y, r = V ++ Y ∧ V.length = M - i := ⟨r.take (M - i), r.drop (M - i), (List.take_append_drop ..).symm, by rw [List.length_take]; omega⟩
  have hS0' : S0 = M - (V ++ Y).length ∨ S0 = 0 := by
    by_cases h : M < (X ++ U).length
    · exact .inl (by rw [hS0, if_pos h])
    · exact .inr (by rw [hS0, if_neg h])
  have hR0' : R0 = M ∨ R0 = (X ++ U).length := by
    by_cases h : M < (X ++ U).length
    · exact .inl (by rw [hR0, if_pos h])
    · exact .inr (by rw [hR0, if_neg h])
  have hUV : ∀ x ∈ U, ∀ y ∈ V, wt y < wt x := fun x hx y hy => by
    obtain ⟨t, ht, et⟩ := List.getElem_of_mem hx
    obtain ⟨s, hs, es⟩ := List.getElem_of_mem hy
    have lt : (X ++ U).length = X.length + U.length := List.length_append
    have lv : (V ++ Y).length = V.length + Y.length := List.length_append
    have q1 : (X ++ U)[i]? = some (U[0]'(by omega)) := by rw [List.getElem?_append_right (by omega), hXl, Nat.sub_self]; exact List.getElem?_eq_getElem (by omega)
    have q2 : (V ++ Y)[M - 1 - i]? = some (V[M - 1 - i]'(by omega)) := by rw [List.getElem?_append_left (by omega)]; exact List.getElem?_eq_getElem (by omega)
    have h1 := hhi i _ _ (Nat.le_refl _) (by omega) q1 q2
    have q3 : (X ++ U)[i + t]? = some x := by rw [List.getElem?_append_right (by omega), show i + t - X.length = t by omega, List.getElem?_eq_getElem ht, et]
    have q4 : (V ++ Y)[s]? = some y := by rw [List.getElem?_append_left hs, List.getElem?_eq_getElem hs, es]
    have h2 := sl.at q1 q3 (by omega)
    have h3 := sr.at q4 q2 (by omega)
    omega
  have hXY : ∀ x ∈ X, ∀ y ∈ Y, wt x ≤ wt y := fun x hx y hy => by
    obtain ⟨t, ht, et⟩ := List.getElem_of_mem hx
    obtain ⟨s, hs, es⟩ := List.getElem_of_mem hy
    have lt : (X ++ U).length = X.length + U.length := List.length_append
    have lv : (V ++ Y).length = V.length + Y.length := List.length_append
    have q1 : (X ++ U)[i - 1]? = some (X[i - 1]'(by omega)) := by rw [List.getElem?_append_left (by omega)]; exact List.getElem?_eq_getElem (by omega)
    have q2 : (V ++ Y)[M - 1 - (i - 1)]? = some (Y[0]'(by omega)) := by rw [List.getElem?_append_right (by omega), show M - 1 - (i - 1) - V.length = 0 by omega]; exact List.getElem?_eq_getElem (by omega)
    have h1 := hlo (i - 1) _ _ (by omega) (by omega) q1 q2
    have q3 : (X ++ U)[t]? = some x := by rw [List.getElem?_append_left ht, List.getElem?_eq_getElem ht, et]
    have q4 : (V ++ Y)[V.length + s]? = some y := by rw [List.getElem?_append_right (by omega), show V.length + s - V.length = s by omega, List.getElem?_eq_getElem hs, es]
    have h2 := sl.at q3 q1 (by omega)
    have h3 := sr.at q2 q4 (by omega)
    omega
  rw [← sym_fin sl sr hUV hXY]
  have slX : Srtd wt X := by unfold Srtd at sl ⊢; rw [List.pairwise_append] at sl; exact sl.1
  have slU : Srtd wt U := by unfold Srtd at sl ⊢; rw [List.pairwise_append] at sl; exact sl.2.1
  have srV : Srtd wt V := by unfold Srtd at sr ⊢; rw [List.pairwise_append] at sr; exact sr.1
  have srY : Srtd wt Y := by unfold Srtd at sr ⊢; rw [List.pairwise_append] at sr; exact sr.2.1
  have hDX : ∀ x ∈ X, D x := fun x hx => hl x (by simp [hx])
  have hDU : ∀ x ∈ U, D x := fun x hx => hl x (by simp [hx])
  have hDV : ∀ x ∈ V, D x := fun x hx => hr x (by simp [hx])
  have hDY : ∀ x ∈ Y, D x := fun x hx => hr x (by simp [hx])
  simp only [List.length_append] at hlen e2 e3 hM hN pl pr g2 g4
  obtain ⟨en, hen⟩ : ∃ en, en = a2 + (M - i) := ⟨_, rfl⟩
  have hend : ((mid + a2 : Nat) : Int) - ((a1 + i : Nat) : Int) = (en : Int) := by omega
  have hd0 : p ++ (X ++ U ++ (V ++ Y ++ q)) = (p ++ X) ++ (U ++ (V ++ (Y ++ q))) := by simp
  have hd1 : (p ++ X) ++ (V ++ (U ++ (Y ++ q))) = p ++ (X ++ (V ++ (U ++ (Y ++ q)))) := by simp
  have hsV := srtK_len (k := wt) (X ++ V)
  rw [List.length_append] at hsV
  have left : X ≠ [] → V ≠ [] → ACalls Try.prog w0 52 #[v, .int .i64 a1, .int .i64 ((a1 + i : Nat) : Int), .int .i64 mid, cmpV] (A.upd b (nodB (p ++ (X ++ (V ++ (U ++ (Y ++ q))))))) (fin (.tuple #[]) (A.upd b (nodB (p ++ (srtK wt (X ++ V) ++ (U ++ (Y ++ q))))))) := fun hX hV =>
    IH (X.length + V.length) (by omega) p X V (U ++ (Y ++ q)) rfl (by simp only [List.length_append]; omega) hX hV hDX hDV slX srV a1 (a1 + i) mid e1 (by omega) (by omega)
  have right : U ≠ [] → Y ≠ [] → ACalls Try.prog w0 52 #[v, .int .i64 mid, .int .i64 en, .int .i64 a3, cmpV] (A.upd b (nodB ((p ++ srtK wt (X ++ V)) ++ (U ++ (Y ++ q))))) (fin (.tuple #[]) (A.upd b (nodB ((p ++ srtK wt (X ++ V)) ++ (srtK wt (U ++ Y) ++ q))))) := fun hU hY =>
    IH (U.length + Y.length) (by omega) (p ++ srtK wt (X ++ V)) U Y q rfl (by simp only [List.length_append]; omega) hU hY hDU hDY slU srY mid en a3 (by simp only [List.length_append]; omega) (by simp only [List.length_append]; omega) (by simp only [List.length_append]; omega)
  have rot : U ≠ [] → V ≠ [] → ACalls Try.prog w0 53 #[v, .int .i64 ((a1 + i : Nat) : Int), .int .i64 a2, .int .i64 en, cmpV] (A.upd b (nodB ((p ++ X) ++ (U ++ (V ++ (Y ++ q)))))) (fin (.tuple #[]) (A.upd b (nodB ((p ++ X) ++ (V ++ (U ++ (Y ++ q))))))) := fun hU hV =>
    rotate_ok w0 A b n v hv hn63 (p ++ X) U V (Y ++ q) hU hV (by simp only [List.length_append]; omega) (fun x hx => hD1 x (hDU x hx)) (fun x hx => hD1 x (hDV x hx)) (a1 + i) a2 en (by simp only [List.length_append]; omega) (by simp only [List.length_append]; omega) (by simp only [List.length_append]; omega)
  have hfin : (p ++ srtK wt (X ++ V)) ++ (srtK wt (U ++ Y) ++ q) = p ++ (srtK wt (X ++ V) ++ srtK wt (U ++ Y) ++ q) := by simp
  have nlX : X = [] ↔ i = 0 := by rw [← hXl]; exact List.length_eq_zero_iff.symm
  have nlU : U = [] ↔ U.length = 0 := List.length_eq_zero_iff.symm
  have nlV : V = [] ↔ M - i = 0 := by rw [← hVl]; exact List.length_eq_zero_iff.symm
  have nlY : Y = [] ↔ Y.length = 0 := List.length_eq_zero_iff.symm
  -- a world whose rows stand rotated
  rw [hd0]
  refine cutW (fun a' A' => A' = A.upd b (nodB ((p ++ X) ++ (U ++ (V ++ (Y ++ q))))) ∧ ∃ ρ : Nat → Value, a' = E 220 ρ [] ∧ ρ 0 = v ∧ ρ 1 = .int .i64 a1 ∧ ρ 2 = .int .i64 a2 ∧ ρ 3 = .int .i64 a3 ∧ ρ 4 = cmpV ∧ ρ 18 = .int .i64 mid ∧ ρ 20 = .int .i64 ((a1 + i : Nat) : Int) ∧ ρ 24 = .int .i64 (en : Int)) ?_ ?_
  · simp (maxSteps := 1000000) (disch := (first | omega | (simp only [nx_alloc, nx_upd, len_cons, len_nil, List.length_set, List.length_map, List.length_append] <;> omega) | fail)) only [go_sem, r0, r1, r2, r3, r4, r18, r19, r20, hend, normQ_normal]
    refine ⟨_, rfl, ?_, ?_, ?_, ?_, ?_, ?_, ?_, ?_⟩
    · simp (maxSteps := 1000000) (disch := (first | omega | (simp only [nx_alloc, nx_upd, len_cons, len_nil, List.length_set, List.length_map, List.length_append] <;> omega) | fail)) only [go_sem, r0]
    · simp (maxSteps := 1000000) (disch := (first | omega | (simp only [nx_alloc, nx_upd, len_cons, len_nil, List.length_set, List.length_map, List.length_append] <;> omega) | fail)) only [go_sem, r1]
    · simp (maxSteps := 1000000) (disch := (first | omega | (simp only [nx_alloc, nx_upd, len_cons, len_nil, List.length_set, List.length_map, List.length_append] <;> omega) | fail)) only [go_sem, r2]
    · simp (maxSteps := 1000000) (disch := (first | omega | (simp only [nx_alloc, nx_upd, len_cons, len_nil, List.length_set, List.length_map, List.length_append] <;> omega) | fail)) only [go_sem, r3]
    · simp (maxSteps := 1000000) (disch := (first | omega | (simp only [nx_alloc, nx_upd, len_cons, len_nil, List.length_set, List.length_map, List.length_append] <;> omega) | fail)) only [go_sem, r4]
    · simp (maxSteps := 1000000) (disch := (first | omega | (simp only [nx_alloc, nx_upd, len_cons, len_nil, List.length_set, List.length_map, List.length_append] <;> omega) | fail)) only [go_sem, r18]
    · simp (maxSteps := 1000000) (disch := (first | omega | (simp only [nx_alloc, nx_upd, len_cons, len_nil, List.length_set, List.length_map, List.length_append] <;> omega) | fail)) only [go_sem, r20]
    · simp (maxSteps := 1000000) (disch := (first | omega | (simp only [nx_alloc, nx_upd, len_cons, len_nil, List.length_set, List.length_map, List.length_append] <;> omega) | fail)) only [go_sem]
  clear r0 r1 r2 r3 r4 r18 r19 r20
  rintro a' A' ⟨rfl, ρ, rfl, r0, r1, r2, r3, r4, r18, r20, r24⟩
  simp only [thenQ_normal, wpA_seq]
  obtain ⟨B185, hB185⟩ : ∃ B : Bool, B = decide (U ≠ [] ∧ V ≠ []) := ⟨_, rfl⟩
  refine cutW (fun a' A' => A' = A.upd b (nodB ((p ++ X) ++ (U ++ (V ++ (Y ++ q))))) ∧ ∃ ρ : Nat → Value, a' = E 220 ρ [] ∧ ρ 0 = v ∧ ρ 1 = .int .i64 a1 ∧ ρ 2 = .int .i64 a2 ∧ ρ 3 = .int .i64 a3 ∧ ρ 4 = cmpV ∧ ρ 18 = .int .i64 mid ∧ ρ 20 = .int .i64 ((a1 + i : Nat) : Int) ∧ ρ 24 = .int .i64 (en : Int) ∧ ρ 185 = .bool B185) ?_ ?_
  · by_cases z1 : U = []
    · have y1 : ¬ ((a1 + i : Nat) : Int) < (a2 : Int) := by have := nlU.1 z1; omega
      have hf : B185 = false := by rw [hB185]; exact decide_eq_false (fun h => h.1 z1)
      simp (maxSteps := 1000000) (disch := (first | omega | (simp only [nx_alloc, nx_upd, len_cons, len_nil, List.length_set, List.length_map, List.length_append] <;> omega) | fail)) only [go_sem, r0, r1, r2, r3, r4, r18, r20, r24, normQ_normal]
      refine ⟨_, rfl, ?_, ?_, ?_, ?_, ?_, ?_, ?_, ?_, ?_⟩
      · simp (maxSteps := 1000000) (disch := (first | omega | (simp only [nx_alloc, nx_upd, len_cons, len_nil, List.length_set, List.length_map, List.length_append] <;> omega) | fail)) only [go_sem, r0]
      · simp (maxSteps := 1000000) (disch := (first | omega | (simp only [nx_alloc, nx_upd, len_cons, len_nil, List.length_set, List.length_map, List.length_append] <;> omega) | fail)) only [go_sem, r1]
      · simp (maxSteps := 1000000) (disch := (first | omega | (simp only [nx_alloc, nx_upd, len_cons, len_nil, List.length_set, List.length_map, List.length_append] <;> omega) | fail)) only [go_sem, r2]
      · simp (maxSteps := 1000000) (disch := (first | omega | (simp only [nx_alloc, nx_upd, len_cons, len_nil, List.length_set, List.length_map, List.length_append] <;> omega) | fail)) only [go_sem, r3]
      · simp (maxSteps := 1000000) (disch := (first | omega | (simp only [nx_alloc, nx_upd, len_cons, len_nil, List.length_set, List.length_map, List.length_append] <;> omega) | fail)) only [go_sem, r4]
      · simp (maxSteps := 1000000) (disch := (first | omega | (simp only [nx_alloc, nx_upd, len_cons, len_nil, List.length_set, List.length_map, List.length_append] <;> omega) | fail)) only [go_sem, r18]
      · simp (maxSteps := 1000000) (disch := (first | omega | (simp only [nx_alloc, nx_upd, len_cons, len_nil, List.length_set, List.length_map, List.length_append] <;> omega) | fail)) only [go_sem, r20]
      · simp (maxSteps := 1000000) (disch := (first | omega | (simp only [nx_alloc, nx_upd, len_cons, len_nil, List.length_set, List.length_map, List.length_append] <;> omega) | fail)) only [go_sem, r24]
      · simp (maxSteps := 1000000) (disch := (first | omega | (simp only [nx_alloc, nx_upd, len_cons, len_nil, List.length_set, List.length_map, List.length_append] <;> omega) | fail)) only [go_sem, hf]
    · have y1 : ((a1 + i : Nat) : Int) < (a2 : Int) := by have : ¬ U.length = 0 := fun h => z1 (nlU.2 h); omega
      by_cases z2 : V = []
      · have y2 : ¬ (a2 : Int) < (en : Int) := by have := nlV.1 z2; omega
        have hf : B185 = false := by rw [hB185]; exact decide_eq_false (fun h => h.2 z2)
        simp (maxSteps := 1000000) (disch := (first | omega | (simp only [nx_alloc, nx_upd, len_cons, len_nil, List.length_set, List.length_map, List.length_append] <;> omega) | fail)) only [go_sem, r0, r1, r2, r3, r4, r18, r20, r24, normQ_normal]
        refine ⟨_, rfl, ?_, ?_, ?_, ?_, ?_, ?_, ?_, ?_, ?_⟩
        · simp (maxSteps := 1000000) (disch := (first | omega | (simp only [nx_alloc, nx_upd, len_cons, len_nil, List.length_set, List.length_map, List.length_append] <;> omega) | fail)) only [go_sem, r0]
        · simp (maxSteps := 1000000) (disch := (first | omega | (simp only [nx_alloc, nx_upd, len_cons, len_nil, List.length_set, List.length_map, List.length_append] <;> omega) | fail)) only [go_sem, r1]
        · simp (maxSteps := 1000000) (disch := (first | omega | (simp only [nx_alloc, nx_upd, len_cons, len_nil, List.length_set, List.length_map, List.length_append] <;> omega) | fail)) only [go_sem, r2]
        · simp (maxSteps := 1000000) (disch := (first | omega | (simp only [nx_alloc, nx_upd, len_cons, len_nil, List.length_set, List.length_map, List.length_append] <;> omega) | fail)) only [go_sem, r3]
        · simp (maxSteps := 1000000) (disch := (first | omega | (simp only [nx_alloc, nx_upd, len_cons, len_nil, List.length_set, List.length_map, List.length_append] <;> omega) | fail)) only [go_sem, r4]
        · simp (maxSteps := 1000000) (disch := (first | omega | (simp only [nx_alloc, nx_upd, len_cons, len_nil, List.length_set, List.length_map, List.length_append] <;> omega) | fail)) only [go_sem, r18]
        · simp (maxSteps := 1000000) (disch := (first | omega | (simp only [nx_alloc, nx_upd, len_cons, len_nil, List.length_set, List.length_map, List.length_append] <;> omega) | fail)) only [go_sem, r20]
        · simp (maxSteps := 1000000) (disch := (first | omega | (simp only [nx_alloc, nx_upd, len_cons, len_nil, List.length_set, List.length_map, List.length_append] <;> omega) | fail)) only [go_sem, r24]
        · simp (maxSteps := 1000000) (disch := (first | omega | (simp only [nx_alloc, nx_upd, len_cons, len_nil, List.length_set, List.length_map, List.length_append] <;> omega) | fail)) only [go_sem, hf]
          rw [decide_eq_false (fun h => y2 h.2)]
      · have y2 : (a2 : Int) < (en : Int) := by have : ¬ M - i = 0 := fun h => z2 (nlV.2 h); omega
        have hf : B185 = true := by rw [hB185]; exact decide_eq_true ⟨z1, z2⟩
        simp (maxSteps := 1000000) (disch := (first | omega | (simp only [nx_alloc, nx_upd, len_cons, len_nil, List.length_set, List.length_map, List.length_append] <;> omega) | fail)) only [go_sem, r0, r1, r2, r3, r4, r18, r20, r24, normQ_normal]
        refine ⟨_, rfl, ?_, ?_, ?_, ?_, ?_, ?_, ?_, ?_, ?_⟩
        · simp (maxSteps := 1000000) (disch := (first | omega | (simp only [nx_alloc, nx_upd, len_cons, len_nil, List.length_set, List.length_map, List.length_append] <;> omega) | fail)) only [go_sem, r0]
        · simp (maxSteps := 1000000) (disch := (first | omega | (simp only [nx_alloc, nx_upd, len_cons, len_nil, List.length_set, List.length_map, List.length_append] <;> omega) | fail)) only [go_sem, r1]
        · simp (maxSteps := 1000000) (disch := (first | omega | (simp only [nx_alloc, nx_upd, len_cons, len_nil, List.length_set, List.length_map, List.length_append] <;> omega) | fail)) only [go_sem, r2]
        · simp (maxSteps := 1000000) (disch := (first | omega | (simp only [nx_alloc, nx_upd, len_cons, len_nil, List.length_set, List.length_map, List.length_append] <;> omega) | fail)) only [go_sem, r3]
        · simp (maxSteps := 1000000) (disch := (first | omega | (simp only [nx_alloc, nx_upd, len_cons, len_nil, List.length_set, List.length_map, List.length_append] <;> omega) | fail)) only [go_sem, r4]
        · simp (maxSteps := 1000000) (disch := (first | omega | (simp only [nx_alloc, nx_upd, len_cons, len_nil, List.length_set, List.length_map, List.length_append] <;> omega) | fail)) only [go_sem, r18]
        · simp (maxSteps := 1000000) (disch := (first | omega | (simp only [nx_alloc, nx_upd, len_cons, len_nil, List.length_set, List.length_map, List.length_append] <;> omega) | fail)) only [go_sem, r20]
        · simp (maxSteps := 1000000) (disch := (first | omega | (simp only [nx_alloc, nx_upd, len_cons, len_nil, List.length_set, List.length_map, List.length_append] <;> omega) | fail)) only [go_sem, r24]
        · simp (maxSteps := 1000000) (disch := (first | omega | (simp only [nx_alloc, nx_upd, len_cons, len_nil, List.length_set, List.length_map, List.length_append] <;> omega) | fail)) only [go_sem, hf]
          rw [decide_eq_true ⟨y1, y2⟩]
  clear r0 r1 r2 r3 r4 r18 r20 r24
  rintro a' A' ⟨rfl, ρ, rfl, r0, r1, r2, r3, r4, r18, r20, r24, rb⟩
  simp only [thenQ_normal, wpA_seq]
  simp (maxSteps := 1000000) (disch := (first | omega | (simp only [nx_alloc, nx_upd, len_cons, len_nil, List.length_set, List.length_map, List.length_append] <;> omega) | fail)) only [go_sem, rb]
  refine ifB_join (fun a' A' => A' = A.upd b (nodB (p ++ (X ++ (V ++ (U ++ (Y ++ q)))))) ∧ ∃ ρ : Nat → Value, a' = E 220 ρ [] ∧ ρ 0 = v ∧ ρ 1 = .int .i64 a1 ∧ ρ 2 = .int .i64 a2 ∧ ρ 3 = .int .i64 a3 ∧ ρ 4 = cmpV ∧ ρ 18 = .int .i64 mid ∧ ρ 20 = .int .i64 ((a1 + i : Nat) : Int) ∧ ρ 24 = .int .i64 (en : Int)) (fun hb => ?_) (fun hb => ?_) ?_
  · rw [hb] at hB185
    obtain ⟨z1, z2⟩ := of_decide_eq_true hB185.symm
    simp (maxSteps := 1000000) (disch := (first | omega | (simp only [nx_alloc, nx_upd, len_cons, len_nil, List.length_set, List.length_map, List.length_append] <;> omega) | fail)) only [go_sem, r0, r1, r2, r3, r4, r18, r20, r24]
    refine call1 (rot z1 z2) ?_
    rw [hd1]
    simp (maxSteps := 1000000) (disch := (first | omega | (simp only [nx_alloc, nx_upd, len_cons, len_nil, List.length_set, List.length_map, List.length_append] <;> omega) | fail)) only [go_sem, r0, r1, r2, r3, r4, r18, r20, r24, normQ_normal]
    refine ⟨_, rfl, ?_, ?_, ?_, ?_, ?_, ?_, ?_, ?_⟩
    · simp (maxSteps := 1000000) (disch := (first | omega | (simp only [nx_alloc, nx_upd, len_cons, len_nil, List.length_set, List.length_map, List.length_append] <;> omega) | fail)) only [go_sem, r0]
    · simp (maxSteps := 1000000) (disch := (first | omega | (simp only [nx_alloc, nx_upd, len_cons, len_nil, List.length_set, List.length_map, List.length_append] <;> omega) | fail)) only [go_sem, r1]
    · simp (maxSteps := 1000000) (disch := (first | omega | (simp only [nx_alloc, nx_upd, len_cons, len_nil, List.length_set, List.length_map, List.length_append] <;> omega) | fail)) only [go_sem, r2]
    · simp (maxSteps := 1000000) (disch := (first | omega | (simp only [nx_alloc, nx_upd, len_cons, len_nil, List.length_set, List.length_map, List.length_append] <;> omega) | fail)) only [go_sem, r3]
    · simp (maxSteps := 1000000) (disch := (first | omega | (simp only [nx_alloc, nx_upd, len_cons, len_nil, List.length_set, List.length_map, List.length_append] <;> omega) | fail)) only [go_sem, r4]
    · simp (maxSteps := 1000000) (disch := (first | omega | (simp only [nx_alloc, nx_upd, len_cons, len_nil, List.length_set, List.length_map, List.length_append] <;> omega) | fail)) only [go_sem, r18]
    · simp (maxSteps := 1000000) (disch := (first | omega | (simp only [nx_alloc, nx_upd, len_cons, len_nil, List.length_set, List.length_map, List.length_append] <;> omega) | fail)) only [go_sem, r20]
    · simp (maxSteps := 1000000) (disch := (first | omega | (simp only [nx_alloc, nx_upd, len_cons, len_nil, List.length_set, List.length_map, List.length_append] <;> omega) | fail)) only [go_sem, r24]
  · rw [hb] at hB185
    have z := of_decide_eq_false hB185.symm
    have e : (p ++ X) ++ (U ++ (V ++ (Y ++ q))) = p ++ (X ++ (V ++ (U ++ (Y ++ q)))) := by
      by_cases hU : U = []
      · rw [hU]; simp
      · have hV : V = [] := Classical.byContradiction fun hV => z ⟨hU, hV⟩
        rw [hV]; simp
    rw [e]
    simp (maxSteps := 1000000) (disch := (first | omega | (simp only [nx_alloc, nx_upd, len_cons, len_nil, List.length_set, List.length_map, List.length_append] <;> omega) | fail)) only [go_sem, normQ_normal]
    exact ⟨ρ, rfl, r0, r1, r2, r3, r4, r18, r20, r24⟩
  clear r0 r1 r2 r3 r4 r18 r20 r24 rb
  rintro a' A' ⟨rfl, ρ, rfl, r0, r1, r2, r3, r4, r18, r20, r24⟩
  simp only [thenQ_normal, wpA_seq]
  obtain ⟨B199, hB199⟩ : ∃ B : Bool, B = decide (X ≠ [] ∧ V ≠ []) := ⟨_, rfl⟩
  refine cutW (fun a' A' => A' = A.upd b (nodB (p ++ (X ++ (V ++ (U ++ (Y ++ q)))))) ∧ ∃ ρ : Nat → Value, a' = E 220 ρ [] ∧ ρ 0 = v ∧ ρ 1 = .int .i64 a1 ∧ ρ 2 = .int .i64 a2 ∧ ρ 3 = .int .i64 a3 ∧ ρ 4 = cmpV ∧ ρ 18 = .int .i64 mid ∧ ρ 20 = .int .i64 ((a1 + i : Nat) : Int) ∧ ρ 24 = .int .i64 (en : Int) ∧ ρ 199 = .bool B199) ?_ ?_
  · by_cases z1 : X = []
    · have y1 : ¬ (a1 : Int) < ((a1 + i : Nat) : Int) := by have := nlX.1 z1; omega
      have hf : B199 = false := by rw [hB199]; exact decide_eq_false (fun h => h.1 z1)
      simp (maxSteps := 1000000) (disch := (first | omega | (simp only [nx_alloc, nx_upd, len_cons, len_nil, List.length_set, List.length_map, List.length_append] <;> omega) | fail)) only [go_sem, r0, r1, r2, r3, r4, r18, r20, r24, normQ_normal]
      refine ⟨_, rfl, ?_, ?_, ?_, ?_, ?_, ?_, ?_, ?_, ?_⟩
      · simp (maxSteps := 1000000) (disch := (first | omega | (simp only [nx_alloc, nx_upd, len_cons, len_nil, List.length_set, List.length_map, List.length_append] <;> omega) | fail)) only [go_sem, r0]
      · simp (maxSteps := 1000000) (disch := (first | omega | (simp only [nx_alloc, nx_upd, len_cons, len_nil, List.length_set, List.length_map, List.length_append] <;> omega) | fail)) only [go_sem, r1]
      · simp (maxSteps := 1000000) (disch := (first | omega | (simp only [nx_alloc, nx_upd, len_cons, len_nil, List.length_set, List.length_map, List.length_append] <;> omega) | fail)) only [go_sem, r2]
      · simp (maxSteps := 1000000) (disch := (first | omega | (simp only [nx_alloc, nx_upd, len_cons, len_nil, List.length_set, List.length_map, List.length_append] <;> omega) | fail)) only [go_sem, r3]
      · simp (maxSteps := 1000000) (disch := (first | omega | (simp only [nx_alloc, nx_upd, len_cons, len_nil, List.length_set, List.length_map, List.length_append] <;> omega) | fail)) only [go_sem, r4]
      · simp (maxSteps := 1000000) (disch := (first | omega | (simp only [nx_alloc, nx_upd, len_cons, len_nil, List.length_set, List.length_map, List.length_append] <;> omega) | fail)) only [go_sem, r18]
      · simp (maxSteps := 1000000) (disch := (first | omega | (simp only [nx_alloc, nx_upd, len_cons, len_nil, List.length_set, List.length_map, List.length_append] <;> omega) | fail)) only [go_sem, r20]
      · simp (maxSteps := 1000000) (disch := (first | omega | (simp only [nx_alloc, nx_upd, len_cons, len_nil, List.length_set, List.length_map, List.length_append] <;> omega) | fail)) only [go_sem, r24]
      · simp (maxSteps := 1000000) (disch := (first | omega | (simp only [nx_alloc, nx_upd, len_cons, len_nil, List.length_set, List.length_map, List.length_append] <;> omega) | fail)) only [go_sem, hf]
    · have y1 : (a1 : Int) < ((a1 + i : Nat) : Int) := by have : ¬ i = 0 := fun h => z1 (nlX.2 h); omega
      by_cases z2 : V = []
      · have y2 : ¬ ((a1 + i : Nat) : Int) < (mid : Int) := by have := nlV.1 z2; omega
        have hf : B199 = false := by rw [hB199]; exact decide_eq_false (fun h => h.2 z2)
        simp (maxSteps := 1000000) (disch := (first | omega | (simp only [nx_alloc, nx_upd, len_cons, len_nil, List.length_set, List.length_map, List.length_append] <;> omega) | fail)) only [go_sem, r0, r1, r2, r3, r4, r18, r20, r24, normQ_normal]
        refine ⟨_, rfl, ?_, ?_, ?_, ?_, ?_, ?_, ?_, ?_, ?_⟩
        · simp (maxSteps := 1000000) (disch := (first | omega | (simp only [nx_alloc, nx_upd, len_cons, len_nil, List.length_set, List.length_map, List.length_append] <;> omega) | fail)) only [go_sem, r0]
        · simp (maxSteps := 1000000) (disch := (first | omega | (simp only [nx_alloc, nx_upd, len_cons, len_nil, List.length_set, List.length_map, List.length_append] <;> omega) | fail)) only [go_sem, r1]
        · simp (maxSteps := 1000000) (disch := (first | omega | (simp only [nx_alloc, nx_upd, len_cons, len_nil, List.length_set, List.length_map, List.length_append] <;> omega) | fail)) only [go_sem, r2]
        · simp (maxSteps := 1000000) (disch := (first | omega | (simp only [nx_alloc, nx_upd, len_cons, len_nil, List.length_set, List.length_map, List.length_append] <;> omega) | fail)) only [go_sem, r3]
        · simp (maxSteps := 1000000) (disch := (first | omega | (simp only [nx_alloc, nx_upd, len_cons, len_nil, List.length_set, List.length_map, List.length_append] <;> omega) | fail)) only [go_sem, r4]
        · simp (maxSteps := 1000000) (disch := (first | omega | (simp only [nx_alloc, nx_upd, len_cons, len_nil, List.length_set, List.length_map, List.length_append] <;> omega) | fail)) only [go_sem, r18]
        · simp (maxSteps := 1000000) (disch := (first | omega | (simp only [nx_alloc, nx_upd, len_cons, len_nil, List.length_set, List.length_map, List.length_append] <;> omega) | fail)) only [go_sem, r20]
        · simp (maxSteps := 1000000) (disch := (first | omega | (simp only [nx_alloc, nx_upd, len_cons, len_nil, List.length_set, List.length_map, List.length_append] <;> omega) | fail)) only [go_sem, r24]
        · simp (maxSteps := 1000000) (disch := (first | omega | (simp only [nx_alloc, nx_upd, len_cons, len_nil, List.length_set, List.length_map, List.length_append] <;> omega) | fail)) only [go_sem, hf]
          rw [decide_eq_false (fun h => y2 h.2)]
      · have y2 : ((a1 + i : Nat) : Int) < (mid : Int) := by have : ¬ M - i = 0 := fun h => z2 (nlV.2 h); omega
        have hf : B199 = true := by rw [hB199]; exact decide_eq_true ⟨z1, z2⟩
        simp (maxSteps := 1000000) (disch := (first | omega | (simp only [nx_alloc, nx_upd, len_cons, len_nil, List.length_set, List.length_map, List.length_append] <;> omega) | fail)) only [go_sem, r0, r1, r2, r3, r4, r18, r20, r24, normQ_normal]
        refine ⟨_, rfl, ?_, ?_, ?_, ?_, ?_, ?_, ?_, ?_, ?_⟩
        · simp (maxSteps := 1000000) (disch := (first | omega | (simp only [nx_alloc, nx_upd, len_cons, len_nil, List.length_set, List.length_map, List.length_append] <;> omega) | fail)) only [go_sem, r0]
        · simp (maxSteps := 1000000) (disch := (first | omega | (simp only [nx_alloc, nx_upd, len_cons, len_nil, List.length_set, List.length_map, List.length_append] <;> omega) | fail)) only [go_sem, r1]
        · simp (maxSteps := 1000000) (disch := (first | omega | (simp only [nx_alloc, nx_upd, len_cons, len_nil, List.length_set, List.length_map, List.length_append] <;> omega) | fail)) only [go_sem, r2]
        · simp (maxSteps := 1000000) (disch := (first | omega | (simp only [nx_alloc, nx_upd, len_cons, len_nil, List.length_set, List.length_map, List.length_append] <;> omega) | fail)) only [go_sem, r3]
        · simp (maxSteps := 1000000) (disch := (first | omega | (simp only [nx_alloc, nx_upd, len_cons, len_nil, List.length_set, List.length_map, List.length_append] <;> omega) | fail)) only [go_sem, r4]
        · simp (maxSteps := 1000000) (disch := (first | omega | (simp only [nx_alloc, nx_upd, len_cons, len_nil, List.length_set, List.length_map, List.length_append] <;> omega) | fail)) only [go_sem, r18]
        · simp (maxSteps := 1000000) (disch := (first | omega | (simp only [nx_alloc, nx_upd, len_cons, len_nil, List.length_set, List.length_map, List.length_append] <;> omega) | fail)) only [go_sem, r20]
        · simp (maxSteps := 1000000) (disch := (first | omega | (simp only [nx_alloc, nx_upd, len_cons, len_nil, List.length_set, List.length_map, List.length_append] <;> omega) | fail)) only [go_sem, r24]
        · simp (maxSteps := 1000000) (disch := (first | omega | (simp only [nx_alloc, nx_upd, len_cons, len_nil, List.length_set, List.length_map, List.length_append] <;> omega) | fail)) only [go_sem, hf]
          rw [decide_eq_true ⟨y1, y2⟩]
  clear r0 r1 r2 r3 r4 r18 r20 r24
  rintro a' A' ⟨rfl, ρ, rfl, r0, r1, r2, r3, r4, r18, r20, r24, rb⟩
  simp only [thenQ_normal, wpA_seq]
  simp (maxSteps := 1000000) (disch := (first | omega | (simp only [nx_alloc, nx_upd, len_cons, len_nil, List.length_set, List.length_map, List.length_append] <;> omega) | fail)) only [go_sem, rb]
  refine ifB_join (fun a' A' => A' = A.upd b (nodB ((p ++ srtK wt (X ++ V)) ++ (U ++ (Y ++ q)))) ∧ ∃ ρ : Nat → Value, a' = E 220 ρ [] ∧ ρ 0 = v ∧ ρ 1 = .int .i64 a1 ∧ ρ 2 = .int .i64 a2 ∧ ρ 3 = .int .i64 a3 ∧ ρ 4 = cmpV ∧ ρ 18 = .int .i64 mid ∧ ρ 20 = .int .i64 ((a1 + i : Nat) : Int) ∧ ρ 24 = .int .i64 (en : Int)) (fun hb => ?_) (fun hb => ?_) ?_
  · rw [hb] at hB199
    obtain ⟨z1, z2⟩ := of_decide_eq_true hB199.symm
    simp (maxSteps := 1000000) (disch := (first | omega | (simp only [nx_alloc, nx_upd, len_cons, len_nil, List.length_set, List.length_map, List.length_append] <;> omega) | fail)) only [go_sem, r0, r1, r2, r3, r4, r18, r20, r24]
    refine call1 (left z1 z2) ?_
    rw [show p ++ (srtK wt (X ++ V) ++ (U ++ (Y ++ q))) = (p ++ srtK wt (X ++ V)) ++ (U ++ (Y ++ q)) by simp]
    simp (maxSteps := 1000000) (disch := (first | omega | (simp only [nx_alloc, nx_upd, len_cons, len_nil, List.length_set, List.length_map, List.length_append] <;> omega) | fail)) only [go_sem, r0, r1, r2, r3, r4, r18, r20, r24, normQ_normal]
    refine ⟨_, rfl, ?_, ?_, ?_, ?_, ?_, ?_, ?_, ?_⟩
    · simp (maxSteps := 1000000) (disch := (first | omega | (simp only [nx_alloc, nx_upd, len_cons, len_nil, List.length_set, List.length_map, List.length_append] <;> omega) | fail)) only [go_sem, r0]
    · simp (maxSteps := 1000000) (disch := (first | omega | (simp only [nx_alloc, nx_upd, len_cons, len_nil, List.length_set, List.length_map, List.length_append] <;> omega) | fail)) only [go_sem, r1]
    · simp (maxSteps := 1000000) (disch := (first | omega | (simp only [nx_alloc, nx_upd, len_cons, len_nil, List.length_set, List.length_map, List.length_append] <;> omega) | fail)) only [go_sem, r2]
    · simp (maxSteps := 1000000) (disch := (first | omega | (simp only [nx_alloc, nx_upd, len_cons, len_nil, List.length_set, List.length_map, List.length_append] <;> omega) | fail)) only [go_sem, r3]
    · simp (maxSteps := 1000000) (disch := (first | omega | (simp only [nx_alloc, nx_upd, len_cons, len_nil, List.length_set, List.length_map, List.length_append] <;> omega) | fail)) only [go_sem, r4]
    · simp (maxSteps := 1000000) (disch := (first | omega | (simp only [nx_alloc, nx_upd, len_cons, len_nil, List.length_set, List.length_map, List.length_append] <;> omega) | fail)) only [go_sem, r18]
    · simp (maxSteps := 1000000) (disch := (first | omega | (simp only [nx_alloc, nx_upd, len_cons, len_nil, List.length_set, List.length_map, List.length_append] <;> omega) | fail)) only [go_sem, r20]
    · simp (maxSteps := 1000000) (disch := (first | omega | (simp only [nx_alloc, nx_upd, len_cons, len_nil, List.length_set, List.length_map, List.length_append] <;> omega) | fail)) only [go_sem, r24]
  · rw [hb] at hB199
    have z := of_decide_eq_false hB199.symm
    have e : srtK wt (X ++ V) = X ++ V := by
      by_cases hX : X = []
      · rw [hX, List.nil_append]; exact srtK_self srV
      · have hV : V = [] := Classical.byContradiction fun hV => z ⟨hX, hV⟩
        rw [hV, List.append_nil]; exact srtK_self slX
    rw [show p ++ (X ++ (V ++ (U ++ (Y ++ q)))) = (p ++ srtK wt (X ++ V)) ++ (U ++ (Y ++ q)) by rw [e]; simp]
    simp (maxSteps := 1000000) (disch := (first | omega | (simp only [nx_alloc, nx_upd, len_cons, len_nil, List.length_set, List.length_map, List.length_append] <;> omega) | fail)) only [go_sem, normQ_normal]
    exact ⟨ρ, rfl, r0, r1, r2, r3, r4, r18, r20, r24⟩
  clear r0 r1 r2 r3 r4 r18 r20 r24 rb
  rintro a' A' ⟨rfl, ρ, rfl, r0, r1, r2, r3, r4, r18, r20, r24⟩
  simp only [thenQ_normal, wpA_seq]
  obtain ⟨B213, hB213⟩ : ∃ B : Bool, B = decide (U ≠ [] ∧ Y ≠ []) := ⟨_, rfl⟩
  refine cutW (fun a' A' => A' = A.upd b (nodB ((p ++ srtK wt (X ++ V)) ++ (U ++ (Y ++ q)))) ∧ ∃ ρ : Nat → Value, a' = E 220 ρ [] ∧ ρ 0 = v ∧ ρ 1 = .int .i64 a1 ∧ ρ 2 = .int .i64 a2 ∧ ρ 3 = .int .i64 a3 ∧ ρ 4 = cmpV ∧ ρ 18 = .int .i64 mid ∧ ρ 20 = .int .i64 ((a1 + i : Nat) : Int) ∧ ρ 24 = .int .i64 (en : Int) ∧ ρ 213 = .bool B213) ?_ ?_
  · by_cases z1 : U = []
    · have y1 : ¬ (mid : Int) < (en : Int) := by have := nlU.1 z1; omega
      have hf : B213 = false := by rw [hB213]; exact decide_eq_false (fun h => h.1 z1)
      simp (maxSteps := 1000000) (disch := (first | omega | (simp only [nx_alloc, nx_upd, len_cons, len_nil, List.length_set, List.length_map, List.length_append] <;> omega) | fail)) only [go_sem, r0, r1, r2, r3, r4, r18, r20, r24, normQ_normal]
      refine ⟨_, rfl, ?_, ?_, ?_, ?_, ?_, ?_, ?_, ?_, ?_⟩
      · simp (maxSteps := 1000000) (disch := (first | omega | (simp only [nx_alloc, nx_upd, len_cons, len_nil, List.length_set, List.length_map, List.length_append] <;> omega) | fail)) only [go_sem, r0]
      · simp (maxSteps := 1000000) (disch := (first | omega | (simp only [nx_alloc, nx_upd, len_cons, len_nil, List.length_set, List.length_map, List.length_append] <;> omega) | fail)) only [go_sem, r1]
      · simp (maxSteps := 1000000) (disch := (first | omega | (simp only [nx_alloc, nx_upd, len_cons, len_nil, List.length_set, List.length_map, List.length_append] <;> omega) | fail)) only [go_sem, r2]
      · simp (maxSteps := 1000000) (disch := (first | omega | (simp only [nx_alloc, nx_upd, len_cons, len_nil, List.length_set, List.length_map, List.length_append] <;> omega) | fail)) only [go_sem, r3]
      · simp (maxSteps := 1000000) (disch := (first | omega | (simp only [nx_alloc, nx_upd, len_cons, len_nil, List.length_set, List.length_map, List.length_append] <;> omega) | fail)) only [go_sem, r4]
      · simp (maxSteps := 1000000) (disch := (first | omega | (simp only [nx_alloc, nx_upd, len_cons, len_nil, List.length_set, List.length_map, List.length_append] <;> omega) | fail)) only [go_sem, r18]
      · simp (maxSteps := 1000000) (disch := (first | omega | (simp only [nx_alloc, nx_upd, len_cons, len_nil, List.length_set, List.length_map, List.length_append] <;> omega) | fail)) only [go_sem, r20]
      · simp (maxSteps := 1000000) (disch := (first | omega | (simp only [nx_alloc, nx_upd, len_cons, len_nil, List.length_set, List.length_map, List.length_append] <;> omega) | fail)) only [go_sem, r24]
      · simp (maxSteps := 1000000) (disch := (first | omega | (simp only [nx_alloc, nx_upd, len_cons, len_nil, List.length_set, List.length_map, List.length_append] <;> omega) | fail)) only [go_sem, hf]
    · have y1 : (mid : Int) < (en : Int) := by have : ¬ U.length = 0 := fun h => z1 (nlU.2 h); omega
      by_cases z2 : Y = []
      · have y2 : ¬ (en : Int) < (a3 : Int) := by have := nlY.1 z2; omega
        have hf : B213 = false := by rw [hB213]; exact decide_eq_false (fun h => h.2 z2)
        simp (maxSteps := 1000000) (disch := (first | omega | (simp only [nx_alloc, nx_upd, len_cons, len_nil, List.length_set, List.length_map, List.length_append] <;> omega) | fail)) only [go_sem, r0, r1, r2, r3, r4, r18, r20, r24, normQ_normal]
        refine ⟨_, rfl, ?_, ?_, ?_, ?_, ?_, ?_, ?_, ?_, ?_⟩
        · simp (maxSteps := 1000000) (disch := (first | omega | (simp only [nx_alloc, nx_upd, len_cons, len_nil, List.length_set, List.length_map, List.length_append] <;> omega) | fail)) only [go_sem, r0]
        · simp (maxSteps := 1000000) (disch := (first | omega | (simp only [nx_alloc, nx_upd, len_cons, len_nil, List.length_set, List.length_map, List.length_append] <;> omega) | fail)) only [go_sem, r1]
        · simp (maxSteps := 1000000) (disch := (first | omega | (simp only [nx_alloc, nx_upd, len_cons, len_nil, List.length_set, List.length_map, List.length_append] <;> omega) | fail)) only [go_sem, r2]
        · simp (maxSteps := 1000000) (disch := (first | omega | (simp only [nx_alloc, nx_upd, len_cons, len_nil, List.length_set, List.length_map, List.length_append] <;> omega) | fail)) only [go_sem, r3]
        · simp (maxSteps := 1000000) (disch := (first | omega | (simp only [nx_alloc, nx_upd, len_cons, len_nil, List.length_set, List.length_map, List.length_append] <;> omega) | fail)) only [go_sem, r4]
        · simp (maxSteps := 1000000) (disch := (first | omega | (simp only [nx_alloc, nx_upd, len_cons, len_nil, List.length_set, List.length_map, List.length_append] <;> omega) | fail)) only [go_sem, r18]
        · simp (maxSteps := 1000000) (disch := (first | omega | (simp only [nx_alloc, nx_upd, len_cons, len_nil, List.length_set, List.length_map, List.length_append] <;> omega) | fail)) only [go_sem, r20]
        · simp (maxSteps := 1000000) (disch := (first | omega | (simp only [nx_alloc, nx_upd, len_cons, len_nil, List.length_set, List.length_map, List.length_append] <;> omega) | fail)) only [go_sem, r24]
        · simp (maxSteps := 1000000) (disch := (first | omega | (simp only [nx_alloc, nx_upd, len_cons, len_nil, List.length_set, List.length_map, List.length_append] <;> omega) | fail)) only [go_sem, hf]
          rw [decide_eq_false (fun h => y2 h.2)]
      · have y2 : (en : Int) < (a3 : Int) := by have : ¬ Y.length = 0 := fun h => z2 (nlY.2 h); omega
        have hf : B213 = true := by rw [hB213]; exact decide_eq_true ⟨z1, z2⟩
        simp (maxSteps := 1000000) (disch := (first | omega | (simp only [nx_alloc, nx_upd, len_cons, len_nil, List.length_set, List.length_map, List.length_append] <;> omega) | fail)) only [go_sem, r0, r1, r2, r3, r4, r18, r20, r24, normQ_normal]
        refine ⟨_, rfl, ?_, ?_, ?_, ?_, ?_, ?_, ?_, ?_, ?_⟩
        · simp (maxSteps := 1000000) (disch := (first | omega | (simp only [nx_alloc, nx_upd, len_cons, len_nil, List.length_set, List.length_map, List.length_append] <;> omega) | fail)) only [go_sem, r0]
        · simp (maxSteps := 1000000) (disch := (first | omega | (simp only [nx_alloc, nx_upd, len_cons, len_nil, List.length_set, List.length_map, List.length_append] <;> omega) | fail)) only [go_sem, r1]
        · simp (maxSteps := 1000000) (disch := (first | omega | (simp only [nx_alloc, nx_upd, len_cons, len_nil, List.length_set, List.length_map, List.length_append] <;> omega) | fail)) only [go_sem, r2]
        · simp (maxSteps := 1000000) (disch := (first | omega | (simp only [nx_alloc, nx_upd, len_cons, len_nil, List.length_set, List.length_map, List.length_append] <;> omega) | fail)) only [go_sem, r3]
        · simp (maxSteps := 1000000) (disch := (first | omega | (simp only [nx_alloc, nx_upd, len_cons, len_nil, List.length_set, List.length_map, List.length_append] <;> omega) | fail)) only [go_sem, r4]
        · simp (maxSteps := 1000000) (disch := (first | omega | (simp only [nx_alloc, nx_upd, len_cons, len_nil, List.length_set, List.length_map, List.length_append] <;> omega) | fail)) only [go_sem, r18]
        · simp (maxSteps := 1000000) (disch := (first | omega | (simp only [nx_alloc, nx_upd, len_cons, len_nil, List.length_set, List.length_map, List.length_append] <;> omega) | fail)) only [go_sem, r20]
        · simp (maxSteps := 1000000) (disch := (first | omega | (simp only [nx_alloc, nx_upd, len_cons, len_nil, List.length_set, List.length_map, List.length_append] <;> omega) | fail)) only [go_sem, r24]
        · simp (maxSteps := 1000000) (disch := (first | omega | (simp only [nx_alloc, nx_upd, len_cons, len_nil, List.length_set, List.length_map, List.length_append] <;> omega) | fail)) only [go_sem, hf]
          rw [decide_eq_true ⟨y1, y2⟩]
  clear r0 r1 r2 r3 r4 r18 r20 r24
  rintro a' A' ⟨rfl, ρ, rfl, r0, r1, r2, r3, r4, r18, r20, r24, rb⟩
  simp only [thenQ_normal, wpA_seq]
  simp (maxSteps := 1000000) (disch := (first | omega | (simp only [nx_alloc, nx_upd, len_cons, len_nil, List.length_set, List.length_map, List.length_append] <;> omega) | fail)) only [go_sem, rb]
  rw [← hfin]
  cases hb : B213
  · rw [hb] at hB213
    have z := of_decide_eq_false hB213.symm
    have e : srtK wt (U ++ Y) = U ++ Y := by
      by_cases hU : U = []
      · rw [hU, List.nil_append]; exact srtK_self srY
      · have hY : Y = [] := Classical.byContradiction fun hY => z ⟨hU, hY⟩
        rw [hY, List.append_nil]; exact srtK_self slU
    simp (maxSteps := 1000000) (disch := (first | omega | (simp only [nx_alloc, nx_upd, len_cons, len_nil, List.length_set, List.length_map, List.length_append] <;> omega) | fail)) only [go_sem, Try.results52]
    refine gc_here ⟨rfl, ?_⟩
    rw [e]; simp
  · rw [hb] at hB213
    obtain ⟨z1, z2⟩ := of_decide_eq_true hB213.symm
    simp (maxSteps := 1000000) (disch := (first | omega | (simp only [nx_alloc, nx_upd, len_cons, len_nil, List.length_set, List.length_map, List.length_append] <;> omega) | fail)) only [go_sem, r0, r1, r2, r3, r4, r18, r20, r24]
    refine call1 (right z1 z2) ?_
    simp (maxSteps := 1000000) (disch := (first | omega | (simp only [nx_alloc, nx_upd, len_cons, len_nil, List.length_set, List.length_map, List.length_append] <;> omega) | fail)) only [go_sem, Try.results52]
    exact gc_here ⟨rfl, rfl⟩
end Go.Fw
