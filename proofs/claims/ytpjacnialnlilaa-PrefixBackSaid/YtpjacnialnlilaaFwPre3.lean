import Derived.Test.YtpjacnialnlilaaFwPre2
set_option linter.unusedSimpArgs false
set_option linter.unusedVariables false
set_option maxRecDepth 4000
namespace Go.Fw
open Go.Proofs Go.RowKit
/-! slices.symMergeCmpFunc. -/
section
variable {α : Type} {k : α → Int}
theorem Srtd.at {l : List α} (h : Srtd k l) {i j : Nat} {x y : α} (hi : l[i]? = some x) (hj : l[j]? = some y) (hij : i ≤ j) : k x ≤ k y := by
  rcases Nat.lt_or_eq_of_le hij with hlt | rfl
  · obtain ⟨h1, e1⟩ := List.getElem?_eq_some_iff.1 hi
    obtain ⟨h2, e2⟩ := List.getElem?_eq_some_iff.1 hj
    subst e1 e2
    exact List.pairwise_iff_getElem.1 h i j h1 h2 hlt
  · rw [hi] at hj; cases hj; exact Int.le_refl _
theorem sym_fin {X U V Y : List α} (hl : Srtd k (X ++ U)) (hr : Srtd k (V ++ Y)) (hUV : ∀ x ∈ U, ∀ y ∈ V, k y < k x) (hXY : ∀ x ∈ X, ∀ y ∈ Y, k x ≤ k y) : srtK k (X ++ V) ++ srtK k (U ++ Y) = srtK k ((X ++ U) ++ (V ++ Y)) := by
  refine srtK_of ?_ ?_
  · unfold Srtd
    rw [List.pairwise_append]
    refine ⟨srtK_srtd _, srtK_srtd _, fun a ha b hb => ?_⟩
    have ha := ((srtK_same (k := k) (X ++ V)).mem a).2 ha
    have hb := ((srtK_same (k := k) (U ++ Y)).mem b).2 hb
    unfold Srtd at hl hr
    rw [List.pairwise_append] at hl hr
    rcases List.mem_append.1 ha with ha | ha <;> rcases List.mem_append.1 hb with hb | hb
    · exact hl.2.2 a ha b hb
    · exact hXY a ha b hb
    · have := hUV b hb a ha; omega
    · exact hr.2.2 a ha b hb
  · refine SameF.trans ?_ (SameF.app (srtK_same _) (srtK_same _))
    rw [show (X ++ U) ++ (V ++ Y) = X ++ ((U ++ V) ++ Y) by simp, show (X ++ V) ++ (U ++ Y) = X ++ ((V ++ U) ++ Y) by simp]
    exact SameF.app (SameF.refl k X) (SameF.app (SameF.swap fun x hx y hy e => by have := hUV x hx y hy; omega) (SameF.refl k Y))
theorem srtK_self {l : List α} (h : Srtd k l) : srtK k l = l := (srtK_of h (SameF.refl k l)).symm
end
theorem at_l {α : Type} {p l s : List α} {t : Nat} {x : α} (h : l[t]? = some x) : (p ++ (l ++ s))[p.length + t]? = some x := by
  rw [List.getElem?_append_right (by omega), show p.length + t - p.length = t by omega, List.getElem?_append_left (List.getElem?_eq_some_iff.1 h).1, h]
theorem at_r {α : Type} {p l r q : List α} {t : Nat} {x : α} (h : r[t]? = some x) : (p ++ (l ++ (r ++ q)))[p.length + (l.length + t)]? = some x := by
  rw [show p ++ (l ++ (r ++ q)) = (p ++ l) ++ (r ++ q) by simp, show p.length + (l.length + t) = (p ++ l).length + t by rw [List.length_append]; omega]
  exact at_l h
theorem half_eq (i j : Nat) (h : i + j < 4611686018427387904) : ishr .u64 ((i : Int) + (j : Int)) 1 = (((i + j) / 2 : Nat) : Int) := by
  rw [show (1 : Int) = ((1 : Nat) : Int) from rfl, ishr_eq .u64 _ 1 (by decide), Int.natCast_ediv, Int.natCast_add]; rfl
theorem Try.enters52 : Enters Try.prog 52 := enters_of Try.func52 rfl (by kernel_rfl)
variable {w0 : World} {A : St} {b n : Nat} {v : Value} {wt : Value → Int} {D : Value → Prop}
set_option maxHeartbeats 16000000 in
/-- One element ahead of a sorted row. -/
theorem sym_one (hv : RowV v b n) (hn63 : n ≤ 1000000) (hc : CmpOk w0 A b wt D) (hD1 : ∀ x, D x → one1 x = true) (p : List Value) (x : Value) (r q : List Value) (hlen : p.length + (1 + (r.length + q.length)) = n) (hx : D x) (hr : ∀ y ∈ r, D y) (sr : Srtd wt r) (a1 a2 a3 : Nat) (e1 : a1 = p.length) (e2 : a2 = p.length + 1) (e3 : a3 = p.length + (1 + r.length)) :
    ACalls Try.prog w0 52 #[v, .int .i64 a1, .int .i64 a2, .int .i64 a3, cmpV] (A.upd b (nodB (p ++ (x :: (r ++ q))))) (fin (.tuple #[]) (A.upd b (nodB (p ++ (srtK wt (x :: r) ++ q))))) := by
  refine call_E (l := [v, .int .i64 a1, .int .i64 a2, .int .i64 a3, cmpV]) Try.enters52 Try.func52 rfl (Nat.le_of_ble_eq_true rfl) fun hw hbd => ?_
  have d1 : (a2 : Int) - (a1 : Int) = 1 := by omega
  have hg := get_upd_same (A := A) b (nodB (p ++ (x :: (r ++ q))))
  have ia := hv .i64 a1 (by omega)
  have ca : (p ++ (x :: (r ++ q)))[a1]? = some x := by rw [e1]; exact at_app p x (r ++ q)
  simp (maxSteps := 1000000) (disch := (first | omega | (simp only [nx_alloc, nx_upd, len_cons, len_nil, List.length_set, List.length_map, List.length_append] <;> omega) | fail)) only [go_sem, Try.ntmps52, Try.results52, d1]
  refine aw_loop (fun k a A' => ∃ (ρ : Nat → Value) (i j : Nat), a = E 220 ρ [] ∧ k = j - i ∧ i ≤ j ∧ j ≤ r.length ∧ (∀ t y, t < i → r[t]? = some y → wt y < wt x) ∧ (∀ t y, j ≤ t → r[t]? = some y → wt x ≤ wt y) ∧ A' = A.upd b (nodB (p ++ (x :: (r ++ q)))) ∧ ρ 0 = v ∧ ρ 1 = .int .i64 a1 ∧ ρ 2 = .int .i64 a2 ∧ ρ 4 = cmpV ∧ ρ 10 = .int .i64 ((a2 + i : Nat) : Int) ∧ ρ 11 = .int .i64 ((a2 + j : Nat) : Int)) r.length
    ⟨_, 0, r.length, rfl, rfl, Nat.zero_le _, Nat.le_refl _, (fun t y h => by omega), (fun t y h hy => by have := (List.getElem?_eq_some_iff.1 hy).1; omega), rfl, rfl, rfl, rfl, rfl, rfl, by show Value.int .i64 (a3 : Int) = _; congr 2; omega⟩ ?_
  rintro k a A' ⟨ρ, i, j, rfl, rfl, hij, hjr, hlo, hhi, rfl, r0, r1, r2, r4, r10, r11⟩
  refine aw_of ?_
  by_cases hlt : i < j
  · have hlt' : ((a2 + i : Nat) : Int) < ((a2 + j : Nat) : Int) := by omega
    have hsh := half_eq (a2 + i) (a2 + j) (by omega)
    obtain ⟨h, hh⟩ : ∃ h, h = (i + j) / 2 := ⟨_, rfl⟩
    have hhe : (a2 + i + (a2 + j)) / 2 = a2 + h := by omega
    rw [hhe] at hsh
    have hir : i ≤ h ∧ h < j := by omega
    obtain ⟨y, hy⟩ : ∃ y, r[h]? = some y := ⟨r[h]'(by omega), List.getElem?_eq_getElem (by omega)⟩
    have ih := hv .i64 (a2 + h) (by omega)
    have ch : (p ++ (x :: (r ++ q)))[a2 + h]? = some y := by rw [show a2 + h = p.length + ([x].length + h) by simp; omega]; exact at_r (l := [x]) hy
    have hcc := hc (p ++ (x :: (r ++ q))) y x (hr y (List.mem_of_getElem? hy)) hx
    obtain ⟨H, hH⟩ : ∃ H, H = a2 + h := ⟨_, rfl⟩
    rw [← hH] at hsh ih ch
    simp (maxSteps := 1000000) (disch := (first | omega | (simp only [nx_alloc, nx_upd, len_cons, len_nil, List.length_set, List.length_map, List.length_append] <;> omega) | fail)) only [go_sem, r0, r1, r2, r4, r10, r11, hsh]
    refine aw_draw (by kernel_rfl) ?_
    simp (maxSteps := 1000000) (disch := (first | omega | (simp only [nx_alloc, nx_upd, len_cons, len_nil, List.length_set, List.length_map, List.length_append] <;> omega) | fail)) only [go_sem, r0, r1, r2, r4, r10, r11, hsh, ih, ia, ch, ca, hg]
    refine ⟨_, hcc, ?_⟩
    by_cases hxy : wt y - wt x < 0
    · have hb1 : (H : Int) + 1 = ((a2 + (h + 1) : Nat) : Int) := by omega
      simp (maxSteps := 1000000) (disch := (first | omega | (simp only [nx_alloc, nx_upd, len_cons, len_nil, List.length_set, List.length_map, List.length_append] <;> omega) | fail)) only [go_sem, hxy, hb1]
      refine ⟨j - (h + 1), by omega, _, h + 1, j, rfl, rfl, by omega, hjr, fun t z ht hz => ?_, hhi, ?_, ?_, ?_, ?_, ?_, ?_⟩
      · have := sr.at hz hy (by omega); omega
      · simp (maxSteps := 1000000) (disch := (first | omega | (simp only [nx_alloc, nx_upd, len_cons, len_nil, List.length_set, List.length_map, List.length_append] <;> omega) | fail)) only [go_sem, r0]
      · simp (maxSteps := 1000000) (disch := (first | omega | (simp only [nx_alloc, nx_upd, len_cons, len_nil, List.length_set, List.length_map, List.length_append] <;> omega) | fail)) only [go_sem, r1]
      · simp (maxSteps := 1000000) (disch := (first | omega | (simp only [nx_alloc, nx_upd, len_cons, len_nil, List.length_set, List.length_map, List.length_append] <;> omega) | fail)) only [go_sem, r2]
      · simp (maxSteps := 1000000) (disch := (first | omega | (simp only [nx_alloc, nx_upd, len_cons, len_nil, List.length_set, List.length_map, List.length_append] <;> omega) | fail)) only [go_sem, r4]
      · simp (maxSteps := 1000000) (disch := (first | omega | (simp only [nx_alloc, nx_upd, len_cons, len_nil, List.length_set, List.length_map, List.length_append] <;> omega) | fail)) only [go_sem]
      · simp (maxSteps := 1000000) (disch := (first | omega | (simp only [nx_alloc, nx_upd, len_cons, len_nil, List.length_set, List.length_map, List.length_append] <;> omega) | fail)) only [go_sem, r11]
    · simp (maxSteps := 1000000) (disch := (first | omega | (simp only [nx_alloc, nx_upd, len_cons, len_nil, List.length_set, List.length_map, List.length_append] <;> omega) | fail)) only [go_sem, hxy]
      refine ⟨h - i, by omega, _, i, h, rfl, rfl, hir.1, by omega, hlo, fun t z ht hz => ?_, ?_, ?_, ?_, ?_, ?_, ?_⟩
      · have := sr.at hy hz ht; omega
      · simp (maxSteps := 1000000) (disch := (first | omega | (simp only [nx_alloc, nx_upd, len_cons, len_nil, List.length_set, List.length_map, List.length_append] <;> omega) | fail)) only [go_sem, r0]
      · simp (maxSteps := 1000000) (disch := (first | omega | (simp only [nx_alloc, nx_upd, len_cons, len_nil, List.length_set, List.length_map, List.length_append] <;> omega) | fail)) only [go_sem, r1]
      · simp (maxSteps := 1000000) (disch := (first | omega | (simp only [nx_alloc, nx_upd, len_cons, len_nil, List.length_set, List.length_map, List.length_append] <;> omega) | fail)) only [go_sem, r2]
      · simp (maxSteps := 1000000) (disch := (first | omega | (simp only [nx_alloc, nx_upd, len_cons, len_nil, List.length_set, List.length_map, List.length_append] <;> omega) | fail)) only [go_sem, r4]
      · simp (maxSteps := 1000000) (disch := (first | omega | (simp only [nx_alloc, nx_upd, len_cons, len_nil, List.length_set, List.length_map, List.length_append] <;> omega) | fail)) only [go_sem, r10]
      · simp (maxSteps := 1000000) (disch := (first | omega | (simp only [nx_alloc, nx_upd, len_cons, len_nil, List.length_set, List.length_map, List.length_append] <;> omega) | fail)) only [go_sem, hH]
  obtain rfl : i = j := by omega
  have hlt' : ¬ ((a2 + i : Nat) : Int) < ((a2 + i : Nat) : Int) := by omega
  obtain ⟨r1l, r2l, rfl, hl1⟩ : ∃ r1l r2l, r = r1l ++ r2l ∧ r1l.length = i := ⟨r.take i, r.drop i, (List.take_append_drop ..).symm, by rw [List.length_take]; omega⟩
  have b1 : ∀ y ∈ r1l, wt y < wt x := fun y hy => by
    obtain ⟨t, ht, e⟩ := List.getElem_of_mem hy
    exact hlo t y (by omega) (by rw [List.getElem?_append_left ht, List.getElem?_eq_getElem ht, e])
  have b2 : ∀ y ∈ r2l, wt x ≤ wt y := fun y hy => by
    obtain ⟨t, ht, e⟩ := List.getElem_of_mem hy
    exact hhi (i + t) y (by omega) (by rw [List.getElem?_append_right (by omega), show i + t - r1l.length = t by omega, List.getElem?_eq_getElem ht, e])
  have hres : srtK wt (x :: (r1l ++ r2l)) = r1l ++ x :: r2l := by
    refine (srtK_of ?_ ?_).symm
    · unfold Srtd at sr ⊢
      rw [List.pairwise_append] at sr
      rw [List.pairwise_append, List.pairwise_cons]
      refine ⟨sr.1, ⟨b2, sr.2.1⟩, fun a ha c hc => ?_⟩
      rcases List.mem_cons.1 hc with rfl | hc
      · have := b1 a ha; omega
      · exact sr.2.2 a ha c hc
    · rw [show x :: (r1l ++ r2l) = ([x] ++ r1l) ++ r2l by simp, show r1l ++ x :: r2l = (r1l ++ [x]) ++ r2l by simp]
      exact SameF.app (SameF.swap fun a ha c hc e => by rw [List.mem_singleton.1 ha] at e; have := b1 c hc; omega) (SameF.refl wt r2l)
  rw [hres]
  rw [List.length_append] at hlen e3
  simp (maxSteps := 1000000) (disch := (first | omega | (simp only [nx_alloc, nx_upd, len_cons, len_nil, List.length_set, List.length_map, List.length_append] <;> omega) | fail)) only [go_sem, r0, r1, r2, r4, r10, r11]
  refine aw_loop (fun k a A' => ∃ (ρ : Nat → Value) (s1 s2 : List Value), a = E 220 ρ [] ∧ r1l = s1 ++ s2 ∧ k = s2.length ∧ A' = A.upd b (nodB (p ++ (s1 ++ x :: (s2 ++ (r2l ++ q))))) ∧ ρ 0 = v ∧ ρ 10 = .int .i64 ((a2 + i : Nat) : Int) ∧ ρ 13 = .int .i64 ((a1 + s1.length : Nat) : Int)) r1l.length
    ⟨_, [], r1l, rfl, rfl, rfl, by simp, by first | rfl | exact r0, by first | rfl | exact r10, by first | rfl | exact r1⟩ ?_
  clear r0 r1 r2 r4 r10 r11
  rintro k a A' ⟨ρ, s1, s2, rfl, hs, rfl, rfl, r0, r10, r13⟩
  refine aw_of ?_
  have hss := congrArg List.length hs
  rw [List.length_append] at hss
  have t1 : ((a2 + i : Nat) : Int) - 1 = ((a1 + i : Nat) : Int) := by omega
  cases s2 with
  | nil =>
    rw [List.length_nil] at hss
    have ne : ¬ ((a1 + s1.length : Nat) : Int) < ((a1 + i : Nat) : Int) := by omega
    simp (maxSteps := 1000000) (disch := (first | omega | (simp only [nx_alloc, nx_upd, len_cons, len_nil, List.length_set, List.length_map, List.length_append] <;> omega) | fail)) only [go_sem, r0, r10, r13, t1, Try.results52]
    rw [List.append_nil] at hs
    rw [hs]
    refine gc_here ⟨rfl, ?_⟩
    congr 3
    simp
  | cons y s2 =>
    rw [List.length_cons] at hss
    have lt : ((a1 + s1.length : Nat) : Int) < ((a1 + i : Nat) : Int) := by omega
    have hDy : D y := hr y (by rw [hs]; simp)
    have hox := hD1 x hx
    have hoy := hD1 y hDy
    have hdat : p ++ (s1 ++ x :: (y :: s2 ++ (r2l ++ q))) = (p ++ s1) ++ x :: y :: (s2 ++ (r2l ++ q)) := by simp
    rw [hdat]
    obtain ⟨jm, hjm⟩ : ∃ jm, jm = a1 + s1.length := ⟨_, rfl⟩
    have hpl : (p ++ s1).length = jm := by rw [List.length_append, hjm, e1]
    have c0 := at_app (p ++ s1) x (y :: (s2 ++ (r2l ++ q)))
    have c1 := at_app1 (p ++ s1) x y (s2 ++ (r2l ++ q))
    have q0 := set_app (p ++ s1) x y (y :: (s2 ++ (r2l ++ q)))
    have q1 := set_app1 (p ++ s1) y y x (s2 ++ (r2l ++ q))
    rw [hpl] at c0 c1 q0 q1
    have i0 := hv .i64 jm (by omega)
    have i1 := hv .i64 (jm + 1) (by omega)
    have z1 : ((p ++ s1) ++ x :: y :: (s2 ++ (r2l ++ q))).length = n := by simp only [List.length_append, List.length_cons] at *; omega
    have z2 : ((p ++ s1) ++ y :: y :: (s2 ++ (r2l ++ q))).length = n := by simp only [List.length_append, List.length_cons] at *; omega
    have st0 := storeC_val (A := A.upd b (nodB ((p ++ s1) ++ x :: y :: (s2 ++ (r2l ++ q))))) (b := b) (off := jm) (k := 0) (cs := (p ++ s1) ++ x :: y :: (s2 ++ (r2l ++ q))) (e := 80) hoy (Nat.zero_le _) (by omega)
    have st1 := storeC_val (A := A.upd b (nodB ((p ++ s1) ++ y :: y :: (s2 ++ (r2l ++ q))))) (b := b) (off := jm + 1) (k := 0) (cs := (p ++ s1) ++ y :: y :: (s2 ++ (r2l ++ q))) (e := 80) hox (Nat.zero_le _) (by omega)
    rw [q0, upd_upd] at st0
    rw [q1, upd_upd] at st1
    have hg0 := get_upd_same (A := A) b (nodB ((p ++ s1) ++ x :: y :: (s2 ++ (r2l ++ q))))
    have hg1 := get_upd_same (A := A) b (nodB ((p ++ s1) ++ y :: y :: (s2 ++ (r2l ++ q))))
    rw [← hjm] at r13 lt
    have u1 : (jm : Int) + 1 = ((jm + 1 : Nat) : Int) := by omega
    simp (maxSteps := 1000000) (disch := (first | omega | (simp only [nx_alloc, nx_upd, len_cons, len_nil, List.length_set, List.length_map, List.length_append] <;> omega) | fail)) only [go_sem, r0, r10, r13, t1]
    refine aw_draw2 [⟨false, [], [0]⟩, ⟨false, [], [0]⟩, ⟨false, [], [0, 1]⟩, ⟨false, [], [0, 1]⟩, ⟨false, [3], [0, 1]⟩, ⟨false, [], [0]⟩, ⟨false, [], [0]⟩, ⟨false, [6], [0]⟩, ⟨false, [5, 6, 7], [0]⟩, ⟨false, [5, 6, 7, 8], [0]⟩, ⟨false, [], [0]⟩, ⟨false, [], [0]⟩, ⟨false, [10, 11], [0]⟩, ⟨false, [10, 11, 12], [0]⟩, ⟨false, [0, 1, 5, 6, 7, 8, 9, 10, 11, 12, 13], [0]⟩, ⟨true, [0, 1, 5, 6, 7, 8, 9, 10, 11, 12, 13, 14], [0]⟩, ⟨false, [0, 1, 2, 3, 4, 5, 6, 7, 8, 9, 10, 11, 12, 13, 14, 15], [1]⟩, ⟨true, [0, 1, 2, 3, 4, 5, 6, 7, 8, 9, 10, 11, 12, 13, 14, 15, 16], [1]⟩] [A.upd b (nodB ((p ++ s1) ++ x :: y :: (s2 ++ (r2l ++ q)))), A.upd b (nodB ((p ++ s1) ++ y :: y :: (s2 ++ (r2l ++ q)))), A.upd b (nodB ((p ++ s1) ++ y :: x :: (s2 ++ (r2l ++ q))))] 2 (by kernel_rfl) (by kernel_rfl) rfl ?_
    simp (maxSteps := 1000000) (disch := (first | omega | (simp only [nx_alloc, nx_upd, len_cons, len_nil, List.length_set, List.length_map, List.length_append] <;> omega) | fail)) only [go_sem, r0, r10, r13, u1, i0, i1, c0, c1, hg0, hg1, st0, st1]
    refine ⟨s2.length, by simp, _, s1 ++ [y], s2, rfl, by rw [hs]; simp, rfl, by simp, ?_, ?_, ?_⟩
    · simp (maxSteps := 1000000) (disch := (first | omega | (simp only [nx_alloc, nx_upd, len_cons, len_nil, List.length_set, List.length_map, List.length_append] <;> omega) | fail)) only [go_sem, r0]
    · simp (maxSteps := 1000000) (disch := (first | omega | (simp only [nx_alloc, nx_upd, len_cons, len_nil, List.length_set, List.length_map, List.length_append] <;> omega) | fail)) only [go_sem, r10]
    · simp (maxSteps := 1000000) (disch := (first | omega | (simp only [nx_alloc, nx_upd, len_cons, len_nil, List.length_set, List.length_map, List.length_append] <;> omega) | fail)) only [go_sem]
      rw [hjm, List.length_append]
      rfl
end Go.Fw
