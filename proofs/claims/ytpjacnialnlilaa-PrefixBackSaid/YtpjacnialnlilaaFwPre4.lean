import Derived.Test.YtpjacnialnlilaaFwPre3
set_option linter.unusedSimpArgs false
set_option linter.unusedVariables false
set_option maxRecDepth 4000
namespace Go.Fw
open Go.Proofs Go.RowKit
variable {w0 : World} {A : St} {b n : Nat} {v : Value} {wt : Value → Int} {D : Value → Prop}
set_option maxHeartbeats 16000000 in
/-- One element behind a sorted row. -/
theorem sym_last (hv : RowV v b n) (hn63 : n ≤ 1000000) (hc : CmpOk w0 A b wt D) (hD1 : ∀ x, D x → one1 x = true) (p l : List Value) (y : Value) (q : List Value) (hlen : p.length + (l.length + (1 + q.length)) = n) (hl2 : 2 ≤ l.length) (hy : D y) (hl : ∀ x ∈ l, D x) (sl : Srtd wt l) (a1 a2 a3 : Nat) (e1 : a1 = p.length) (e2 : a2 = p.length + l.length) (e3 : a3 = p.length + (l.length + 1)) :
    ACalls Try.prog w0 52 #[v, .int .i64 a1, .int .i64 a2, .int .i64 a3, cmpV] (A.upd b (nodB (p ++ (l ++ (y :: q))))) (fin (.tuple #[]) (A.upd b (nodB (p ++ (srtK wt (l ++ [y]) ++ q))))) := by
  refine call_E (l := [v, .int .i64 a1, .int .i64 a2, .int .i64 a3, cmpV]) Try.enters52 Try.func52 rfl (Nat.le_of_ble_eq_true rfl) fun hw hbd => ?_
  have d1 : (a2 : Int) - (a1 : Int) = (l.length : Int) := by omega
  have d2 : (a3 : Int) - (a2 : Int) = 1 := by omega
  have hne1 : ¬ (l.length : Int) = 1 := by omega
  have hg := get_upd_same (A := A) b (nodB (p ++ (l ++ (y :: q))))
  have ia := hv .i64 a2 (by omega)
  have ca : (p ++ (l ++ (y :: q)))[a2]? = some y := by
    rw [e2, ← List.append_assoc, ← List.length_append]; exact at_app (p ++ l) y q
  simp (maxSteps := 1000000) (disch := (first | omega | (simp only [nx_alloc, nx_upd, len_cons, len_nil, List.length_set, List.length_map, List.length_append] <;> omega) | fail)) only [go_sem, Try.ntmps52, Try.results52, d1, d2]
  refine aw_loop (fun k a A' => ∃ (ρ : Nat → Value) (i j : Nat), a = E 220 ρ [] ∧ k = j - i ∧ i ≤ j ∧ j ≤ l.length ∧ (∀ t x, t < i → l[t]? = some x → wt x ≤ wt y) ∧ (∀ t x, j ≤ t → l[t]? = some x → wt y < wt x) ∧ A' = A.upd b (nodB (p ++ (l ++ (y :: q)))) ∧ ρ 0 = v ∧ ρ 2 = .int .i64 a2 ∧ ρ 4 = cmpV ∧ ρ 14 = .int .i64 ((a1 + i : Nat) : Int) ∧ ρ 15 = .int .i64 ((a1 + j : Nat) : Int)) l.length
    ⟨_, 0, l.length, rfl, rfl, Nat.zero_le _, Nat.le_refl _, (fun t y h => by omega), (fun t y h hy => by have := (List.getElem?_eq_some_iff.1 hy).1; omega), rfl, rfl, rfl, rfl, rfl, by show Value.int .i64 (a2 : Int) = _; congr 2; omega⟩ ?_
  rintro k a A' ⟨ρ, i, j, rfl, rfl, hij, hjr, hlo, hhi, rfl, r0, r2, r4, r14, r15⟩
  refine aw_of ?_
  by_cases hlt : i < j
  · have hlt' : ((a1 + i : Nat) : Int) < ((a1 + j : Nat) : Int) := by omega
    have hsh := half_eq (a1 + i) (a1 + j) (by omega)
    obtain ⟨h, hh⟩ : ∃ h, h = (i + j) / 2 := ⟨_, rfl⟩
    have hhe : (a1 + i + (a1 + j)) / 2 = a1 + h := by omega
    rw [hhe] at hsh
    have hir : i ≤ h ∧ h < j := by omega
    obtain ⟨x, hx⟩ : ∃ x, l[h]? = some x := ⟨l[h]'(by omega), List.getElem?_eq_getElem (by omega)⟩
    have ih := hv .i64 (a1 + h) (by omega)
    have ch : (p ++ (l ++ (y :: q)))[a1 + h]? = some x := by rw [e1]; exact at_l hx
    have hcc := hc (p ++ (l ++ (y :: q))) y x hy (hl x (List.mem_of_getElem? hx))
    obtain ⟨H, hH⟩ : ∃ H, H = a1 + h := ⟨_, rfl⟩
    rw [← hH] at hsh ih ch
    simp (maxSteps := 1000000) (disch := (first | omega | (simp only [nx_alloc, nx_upd, len_cons, len_nil, List.length_set, List.length_map, List.length_append] <;> omega) | fail)) only [go_sem, r0, r2, r4, r14, r15, hsh]
    refine aw_draw (by kernel_rfl) ?_
    simp (maxSteps := 1000000) (disch := (first | omega | (simp only [nx_alloc, nx_upd, len_cons, len_nil, List.length_set, List.length_map, List.length_append] <;> omega) | fail)) only [go_sem, r0, r2, r4, r14, r15, hsh, ih, ia, ch, ca, hg]
    refine ⟨_, hcc, ?_⟩
    by_cases hxy : wt y - wt x < 0
    · simp (maxSteps := 1000000) (disch := (first | omega | (simp only [nx_alloc, nx_upd, len_cons, len_nil, List.length_set, List.length_map, List.length_append] <;> omega) | fail)) only [go_sem, hxy]
      refine ⟨h - i, by omega, _, i, h, rfl, rfl, hir.1, by omega, hlo, fun t z ht hz => ?_, ?_, ?_, ?_, ?_, ?_⟩
      · have := sl.at hx hz ht; omega
      · simp (maxSteps := 1000000) (disch := (first | omega | (simp only [nx_alloc, nx_upd, len_cons, len_nil, List.length_set, List.length_map, List.length_append] <;> omega) | fail)) only [go_sem, r0]
      · simp (maxSteps := 1000000) (disch := (first | omega | (simp only [nx_alloc, nx_upd, len_cons, len_nil, List.length_set, List.length_map, List.length_append] <;> omega) | fail)) only [go_sem, r2]
      · simp (maxSteps := 1000000) (disch := (first | omega | (simp only [nx_alloc, nx_upd, len_cons, len_nil, List.length_set, List.length_map, List.length_append] <;> omega) | fail)) only [go_sem, r4]
      · simp (maxSteps := 1000000) (disch := (first | omega | (simp only [nx_alloc, nx_upd, len_cons, len_nil, List.length_set, List.length_map, List.length_append] <;> omega) | fail)) only [go_sem, r14]
      · simp (maxSteps := 1000000) (disch := (first | omega | (simp only [nx_alloc, nx_upd, len_cons, len_nil, List.length_set, List.length_map, List.length_append] <;> omega) | fail)) only [go_sem, hH]
    · have hb1 : (H : Int) + 1 = ((a1 + (h + 1) : Nat) : Int) := by omega
      simp (maxSteps := 1000000) (disch := (first | omega | (simp only [nx_alloc, nx_upd, len_cons, len_nil, List.length_set, List.length_map, List.length_append] <;> omega) | fail)) only [go_sem, hxy, hb1]
      refine ⟨j - (h + 1), by omega, _, h + 1, j, rfl, rfl, by omega, hjr, fun t z ht hz => ?_, hhi, ?_, ?_, ?_, ?_, ?_⟩
      · have := sl.at hz hx (by omega); omega
      · simp (maxSteps := 1000000) (disch := (first | omega | (simp only [nx_alloc, nx_upd, len_cons, len_nil, List.length_set, List.length_map, List.length_append] <;> omega) | fail)) only [go_sem, r0]
      · simp (maxSteps := 1000000) (disch := (first | omega | (simp only [nx_alloc, nx_upd, len_cons, len_nil, List.length_set, List.length_map, List.length_append] <;> omega) | fail)) only [go_sem, r2]
      · simp (maxSteps := 1000000) (disch := (first | omega | (simp only [nx_alloc, nx_upd, len_cons, len_nil, List.length_set, List.length_map, List.length_append] <;> omega) | fail)) only [go_sem, r4]
      · simp (maxSteps := 1000000) (disch := (first | omega | (simp only [nx_alloc, nx_upd, len_cons, len_nil, List.length_set, List.length_map, List.length_append] <;> omega) | fail)) only [go_sem]
      · simp (maxSteps := 1000000) (disch := (first | omega | (simp only [nx_alloc, nx_upd, len_cons, len_nil, List.length_set, List.length_map, List.length_append] <;> omega) | fail)) only [go_sem, r15]
  obtain rfl : i = j := by omega
  have hlt' : ¬ ((a1 + i : Nat) : Int) < ((a1 + i : Nat) : Int) := by omega
  obtain ⟨l1, l2, rfl, hl1⟩ : ∃ l1 l2, l = l1 ++ l2 ∧ l1.length = i := ⟨l.take i, l.drop i, (List.take_append_drop ..).symm, by rw [List.length_take]; omega⟩
  have b1 : ∀ x ∈ l1, wt x ≤ wt y := fun x hx => by
    obtain ⟨t, ht, e⟩ := List.getElem_of_mem hx
    exact hlo t x (by omega) (by rw [List.getElem?_append_left ht, List.getElem?_eq_getElem ht, e])
  have b2 : ∀ x ∈ l2, wt y < wt x := fun x hx => by
    obtain ⟨t, ht, e⟩ := List.getElem_of_mem hx
    exact hhi (i + t) x (by omega) (by rw [List.getElem?_append_right (by omega), show i + t - l1.length = t by omega, List.getElem?_eq_getElem ht, e])
  have hres : srtK wt ((l1 ++ l2) ++ [y]) = l1 ++ y :: l2 := by
    rw [srtK_app, srtK_self sl]
    exact insK_split sl b2 b1
  rw [hres]
  rw [List.length_append] at hlen e2 e3
  simp (maxSteps := 1000000) (disch := (first | omega | (simp only [nx_alloc, nx_upd, len_cons, len_nil, List.length_set, List.length_map, List.length_append] <;> omega) | fail)) only [go_sem, r0, r2, r4, r14, r15]
  refine aw_loop (fun k a A' => ∃ (ρ : Nat → Value) (s1 s2 : List Value), a = E 220 ρ [] ∧ l2 = s1 ++ s2 ∧ k = s1.length ∧ A' = A.upd b (nodB (p ++ (l1 ++ (s1 ++ y :: (s2 ++ q))))) ∧ ρ 0 = v ∧ ρ 14 = .int .i64 ((a1 + i : Nat) : Int) ∧ ρ 17 = .int .i64 ((a1 + i + s1.length : Nat) : Int)) l2.length
    ⟨_, l2, [], rfl, by simp, rfl, by simp, by first | rfl | exact r0, by first | rfl | exact r14, by refine Eq.trans (b := Value.int .i64 (a2 : Int)) (by first | rfl | exact r2) ?_; congr 2; omega⟩ ?_
  clear r0 r2 r4 r14 r15
  rintro k a A' ⟨ρ, s1, s2, rfl, hs, rfl, rfl, r0, r14, r17⟩
  refine aw_of ?_
  have hss := congrArg List.length hs
  rw [List.length_append] at hss
  rcases List.eq_nil_or_concat s1 with rfl | ⟨s1', x, rfl⟩
  · have ne : ¬ ((a1 + i : Nat) : Int) < ((a1 + i + ([] : List Value).length : Nat) : Int) := by simp
    simp (maxSteps := 1000000) (disch := (first | omega | (simp only [nx_alloc, nx_upd, len_cons, len_nil, List.length_set, List.length_map, List.length_append] <;> omega) | fail)) only [go_sem, r0, r14, r17, Try.results52]
    rw [List.nil_append] at hs
    rw [hs]
    refine gc_here ⟨rfl, ?_⟩
    congr 3
    simp
  · rw [List.concat_eq_append] at *
    rw [List.length_append, List.length_singleton] at hss
    have hDx : D x := hl x (by rw [hs]; simp)
    have hoy := hD1 y hy
    have hox := hD1 x hDx
    have hdat : p ++ (l1 ++ (s1' ++ [x] ++ y :: (s2 ++ q))) = (p ++ (l1 ++ s1')) ++ x :: y :: (s2 ++ q) := by simp
    rw [hdat]
    obtain ⟨jm, hjm⟩ : ∃ jm, jm = a1 + i + s1'.length := ⟨_, rfl⟩
    have hpl : (p ++ (l1 ++ s1')).length = jm := by rw [List.length_append, List.length_append, hjm, e1, hl1]; omega
    have c0 := at_app (p ++ (l1 ++ s1')) x (y :: (s2 ++ q))
    have c1 := at_app1 (p ++ (l1 ++ s1')) x y (s2 ++ q)
    have q1 := set_app1 (p ++ (l1 ++ s1')) x y x (s2 ++ q)
    have q0 := set_app (p ++ (l1 ++ s1')) x y (x :: (s2 ++ q))
    rw [hpl] at c0 c1 q0 q1
    have i0 := hv .i64 jm (by omega)
    have i1 := hv .i64 (jm + 1) (by omega)
    have z1 : ((p ++ (l1 ++ s1')) ++ x :: y :: (s2 ++ q)).length = n := by simp only [List.length_append, List.length_cons] at *; omega
    have z2 : ((p ++ (l1 ++ s1')) ++ x :: x :: (s2 ++ q)).length = n := by simp only [List.length_append, List.length_cons] at *; omega
    have st1 := storeC_val (A := A.upd b (nodB ((p ++ (l1 ++ s1')) ++ x :: y :: (s2 ++ q)))) (b := b) (off := jm + 1) (k := 0) (cs := (p ++ (l1 ++ s1')) ++ x :: y :: (s2 ++ q)) (e := 80) hox (Nat.zero_le _) (by omega)
    have st0 := storeC_val (A := A.upd b (nodB ((p ++ (l1 ++ s1')) ++ x :: x :: (s2 ++ q)))) (b := b) (off := jm) (k := 0) (cs := (p ++ (l1 ++ s1')) ++ x :: x :: (s2 ++ q)) (e := 80) hoy (Nat.zero_le _) (by omega)
    rw [q1, upd_upd] at st1
    rw [q0, upd_upd] at st0
    have hg0 := get_upd_same (A := A) b (nodB ((p ++ (l1 ++ s1')) ++ x :: y :: (s2 ++ q)))
    have hg1 := get_upd_same (A := A) b (nodB ((p ++ (l1 ++ s1')) ++ x :: x :: (s2 ++ q)))
    have hr17 : ((a1 + i + (s1' ++ [x]).length : Nat) : Int) = ((jm + 1 : Nat) : Int) := by rw [hjm, List.length_append, List.length_singleton]; omega
    rw [hr17] at r17
    have lt : ((a1 + i : Nat) : Int) < ((jm + 1 : Nat) : Int) := by omega
    have u1 : ((jm + 1 : Nat) : Int) - 1 = (jm : Int) := by omega
    simp (maxSteps := 1000000) (disch := (first | omega | (simp only [nx_alloc, nx_upd, len_cons, len_nil, List.length_set, List.length_map, List.length_append] <;> omega) | fail)) only [go_sem, r0, r14, r17]
    refine aw_draw2 [⟨false, [], [0]⟩, ⟨false, [], [0]⟩, ⟨false, [], [0, 1]⟩, ⟨false, [], [0, 1]⟩, ⟨false, [3], [0, 1]⟩, ⟨false, [], [0]⟩, ⟨false, [], [0]⟩, ⟨false, [6], [0]⟩, ⟨false, [5, 6, 7], [0]⟩, ⟨false, [5, 6, 7, 8], [0]⟩, ⟨false, [], [0]⟩, ⟨false, [], [0]⟩, ⟨false, [10, 11], [0]⟩, ⟨false, [10, 11, 12], [0]⟩, ⟨false, [0, 1, 5, 6, 7, 8, 9, 10, 11, 12, 13], [0]⟩, ⟨true, [0, 1, 5, 6, 7, 8, 9, 10, 11, 12, 13, 14], [0]⟩, ⟨false, [0, 1, 2, 3, 4, 5, 6, 7, 8, 9, 10, 11, 12, 13, 14, 15], [1]⟩, ⟨true, [0, 1, 2, 3, 4, 5, 6, 7, 8, 9, 10, 11, 12, 13, 14, 15, 16], [1]⟩] [A.upd b (nodB ((p ++ (l1 ++ s1')) ++ x :: y :: (s2 ++ q))), A.upd b (nodB ((p ++ (l1 ++ s1')) ++ x :: x :: (s2 ++ q))), A.upd b (nodB ((p ++ (l1 ++ s1')) ++ y :: x :: (s2 ++ q)))] 2 (by kernel_rfl) (by kernel_rfl) rfl ?_
    simp (maxSteps := 1000000) (disch := (first | omega | (simp only [nx_alloc, nx_upd, len_cons, len_nil, List.length_set, List.length_map, List.length_append] <;> omega) | fail)) only [go_sem, r0, r14, r17, u1, i0, i1, c0, c1, hg0, hg1, st0, st1]
    refine ⟨s1'.length, by simp, _, s1', x :: s2, rfl, by rw [hs]; simp, rfl, by simp, ?_, ?_, ?_⟩
    · simp (maxSteps := 1000000) (disch := (first | omega | (simp only [nx_alloc, nx_upd, len_cons, len_nil, List.length_set, List.length_map, List.length_append] <;> omega) | fail)) only [go_sem, r0]
    · simp (maxSteps := 1000000) (disch := (first | omega | (simp only [nx_alloc, nx_upd, len_cons, len_nil, List.length_set, List.length_map, List.length_append] <;> omega) | fail)) only [go_sem, r14]
    · simp (maxSteps := 1000000) (disch := (first | omega | (simp only [nx_alloc, nx_upd, len_cons, len_nil, List.length_set, List.length_map, List.length_append] <;> omega) | fail)) only [go_sem, u1]
      rw [hjm, Nat.add_assoc]
end Go.Fw
