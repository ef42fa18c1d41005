import Derived.Test.YtpjacnialnlilaaFwPre1
set_option linter.unusedSimpArgs false
set_option linter.unusedVariables false
set_option maxRecDepth 4000
namespace Go.Fw
open Go.Proofs Go.RowKit
/-! slices.swapRangeCmpFunc, slices.rotateCmpFunc. -/
theorem at_two {α : Type} (P : List α) (x : α) (M : List α) (y : α) (Q : List α) : (P ++ x :: (M ++ y :: Q))[P.length + (M.length + 1)]? = some y := by
  rw [List.getElem?_append_right (by omega), show P.length + (M.length + 1) - P.length = M.length + 1 by omega, List.getElem?_cons_succ, at_app]
theorem set_two {α : Type} (P : List α) (x : α) (M : List α) (y z : α) (Q : List α) : (P ++ x :: (M ++ y :: Q)).set (P.length + (M.length + 1)) z = P ++ x :: (M ++ z :: Q) := by
  rw [List.set_append_right _ _ (by omega), show P.length + (M.length + 1) - P.length = M.length + 1 by omega, List.set_cons_succ, set_app]
theorem Try.enters54 : Enters Try.prog 54 := enters_of Try.func54 rfl (by kernel_rfl)
theorem Try.enters53 : Enters Try.prog 53 := enters_of Try.func53 rfl (by kernel_rfl)
set_option maxHeartbeats 8000000 in
theorem swaprange_ok (w0 : World) (A : St) (b n : Nat) (v : Value) (hv : RowV v b n) (hn63 : n ≤ 1000000) (p u m w q : List Value) (huw : u.length = w.length) (hlen : p.length + (u.length + (m.length + (w.length + q.length))) = n) (hu : ∀ x ∈ u, one1 x = true) (hw1 : ∀ x ∈ w, one1 x = true) (a1 a2 a3 : Nat) (e1 : a1 = p.length) (e2 : a2 = p.length + (u.length + m.length)) (e3 : a3 = u.length) :
    ACalls Try.prog w0 54 #[v, .int .i64 a1, .int .i64 a2, .int .i64 a3, cmpV] (A.upd b (nodB (p ++ (u ++ (m ++ (w ++ q)))))) (fin (.tuple #[]) (A.upd b (nodB (p ++ (w ++ (m ++ (u ++ q))))))) := by
  refine call_E (l := [v, .int .i64 a1, .int .i64 a2, .int .i64 a3, cmpV]) Try.enters54 Try.func54 rfl (Nat.le_of_ble_eq_true rfl) fun hw hbd => ?_
  simp (maxSteps := 1000000) (disch := (first | omega | (simp only [nx_alloc, nx_upd, len_cons, len_nil, List.length_set, List.length_map, List.length_append] <;> omega) | fail)) only [go_sem, Try.ntmps54, Try.results54]
  refine aw_loop (fun k a A' => ∃ (ρ : Nat → Value) (u1 u2 w1 w2 : List Value), a = E 38 ρ [] ∧ u = u1 ++ u2 ∧ w = w1 ++ w2 ∧ u1.length = w1.length ∧ k = u2.length ∧ A' = A.upd b (nodB (p ++ (w1 ++ (u2 ++ (m ++ (u1 ++ (w2 ++ q))))))) ∧ ρ 0 = v ∧ ρ 1 = .int .i64 a1 ∧ ρ 2 = .int .i64 a2 ∧ ρ 3 = .int .i64 a3 ∧ ρ 10 = .int .i64 (u1.length : Nat)) u.length
    ⟨_, [], u, [], w, rfl, rfl, rfl, rfl, rfl, rfl, rfl, rfl, rfl, rfl, rfl⟩ ?_
  rintro k a A' ⟨ρ, u1, u2, w1, w2, rfl, hu12, hw12, hul, rfl, rfl, r0, r1, r2, r3, r10⟩
  refine aw_of ?_
  have hlu := congrArg List.length hu12
  have hlw := congrArg List.length hw12
  rw [List.length_append] at hlu hlw
  cases u2 with
  | nil =>
    rw [List.length_nil] at hlu
    have hw2 : w2 = [] := List.eq_nil_of_length_eq_zero (by omega)
    subst hw2
    simp only [List.append_nil, List.nil_append] at *
    have ne : ¬ ((u1.length : Int) < (a3 : Int)) := by omega
    simp (maxSteps := 1000000) (disch := (first | omega | (simp only [nx_alloc, nx_upd, len_cons, len_nil, List.length_set, List.length_map, List.length_append] <;> omega) | fail)) only [go_sem, r0, r1, r2, r3, r10, Try.results54]
    rw [hu12, hw12]
    exact gc_here ⟨rfl, rfl⟩
  | cons x u2 =>
    obtain ⟨y, w2, rfl⟩ : ∃ y w2', w2 = y :: w2' := by
      cases w2 with
      | nil => simp at hlu hlw; omega
      | cons y w2 => exact ⟨y, w2, rfl⟩
    simp only [List.length_cons] at hlu hlw
    have hlt : ((u1.length : Int) < (a3 : Int)) := by omega
    have hox : one1 x = true := hu x (by rw [hu12]; simp)
    have hoy : one1 y = true := hw1 y (by rw [hw12]; simp)
    have hdat : p ++ (w1 ++ (x :: u2 ++ (m ++ (u1 ++ (y :: w2 ++ q))))) = (p ++ w1) ++ x :: ((u2 ++ (m ++ u1)) ++ y :: (w2 ++ q)) := by simp
    rw [hdat]
    generalize hP : p ++ w1 = P
    generalize hM : u2 ++ (m ++ u1) = M
    generalize hQ : w2 ++ q = Q
    have lP := congrArg List.length hP
    have lM := congrArg List.length hM
    have lQ := congrArg List.length hQ
    simp only [List.length_append] at lP lM lQ
    obtain ⟨I1, hI1⟩ : ∃ I, I = P.length := ⟨_, rfl⟩
    obtain ⟨I2, hI2⟩ : ∃ I, I = P.length + (M.length + 1) := ⟨_, rfl⟩
    have c1 := at_app P x (M ++ y :: Q)
    have c2 := at_two P x M y Q
    have q1 := set_app P x y (M ++ y :: Q)
    have q2 := set_two P y M y x Q
    have z1 : (P ++ x :: (M ++ y :: Q)).length = n := by simp only [List.length_append, List.length_cons]; omega
    have z2 : (P ++ y :: (M ++ y :: Q)).length = n := by simp only [List.length_append, List.length_cons]; omega
    rw [← hI1] at c1 q1
    rw [← hI2] at c2 q2
    have k1 : I1 < n := by omega
    have k2 : I2 < n := by omega
    have i1 := hv .i64 I1 k1
    have i2 := hv .i64 I2 k2
    have s1 : (a1 : Int) + (u1.length : Int) = (I1 : Int) := by omega
    have s2 : (a2 : Int) + (u1.length : Int) = (I2 : Int) := by omega
    have hg := get_upd_same (A := A) b (nodB (P ++ x :: (M ++ y :: Q)))
    have hg1 := get_upd_same (A := A) b (nodB (P ++ y :: (M ++ y :: Q)))
    have st1 := storeC_val (A := A.upd b (nodB (P ++ x :: (M ++ y :: Q)))) (b := b) (off := I1) (k := 0) (cs := P ++ x :: (M ++ y :: Q)) (e := 80) hoy (Nat.zero_le _) (by omega)
    have st2 := storeC_val (A := A.upd b (nodB (P ++ y :: (M ++ y :: Q)))) (b := b) (off := I2) (k := 0) (cs := P ++ y :: (M ++ y :: Q)) (e := 80) hox (Nat.zero_le _) (by omega)
    rw [q1, upd_upd] at st1
    rw [q2, upd_upd] at st2
    have b1 : (u1.length : Int) + 1 = ((u1 ++ [x]).length : Nat) := by simp
    simp (maxSteps := 1000000) (disch := (first | omega | (simp only [nx_alloc, nx_upd, len_cons, len_nil, List.length_set, List.length_map, List.length_append] <;> omega) | fail)) only [go_sem, r0, r1, r2, r3, r10]
    refine aw_draw2 [⟨false, [], [0]⟩, ⟨false, [], [0]⟩, ⟨false, [], [0]⟩, ⟨false, [1, 2], [0]⟩, ⟨false, [], [0, 1]⟩, ⟨false, [], [0, 1]⟩, ⟨false, [], [0, 1]⟩, ⟨false, [5, 6], [0, 1]⟩, ⟨false, [], [0]⟩, ⟨false, [], [0]⟩, ⟨false, [], [0]⟩, ⟨false, [9, 10], [0]⟩, ⟨false, [8, 9, 10, 11], [0]⟩, ⟨false, [8, 9, 10, 11, 12], [0]⟩, ⟨false, [], [0]⟩, ⟨false, [], [0]⟩, ⟨false, [], [0]⟩, ⟨false, [15, 16], [0]⟩, ⟨false, [14, 15, 16, 17], [0]⟩, ⟨false, [14, 15, 16, 17, 18], [0]⟩, ⟨false, [0, 1, 2, 3, 8, 9, 10, 11, 12, 13, 14, 15, 16, 17, 18, 19], [0]⟩, ⟨true, [0, 1, 2, 3, 8, 9, 10, 11, 12, 13, 14, 15, 16, 17, 18, 19, 20], [0]⟩, ⟨false, [0, 1, 2, 3, 4, 5, 6, 7, 8, 9, 10, 11, 12, 13, 14, 15, 16, 17, 18, 19, 20, 21], [1]⟩, ⟨true, [0, 1, 2, 3, 4, 5, 6, 7, 8, 9, 10, 11, 12, 13, 14, 15, 16, 17, 18, 19, 20, 21, 22], [1]⟩] [A.upd b (nodB (P ++ x :: (M ++ y :: Q))), A.upd b (nodB (P ++ y :: (M ++ y :: Q))), A.upd b (nodB (P ++ y :: (M ++ x :: Q)))] 2 (by kernel_rfl) (by kernel_rfl) rfl ?_
    simp (maxSteps := 1000000) (disch := (first | omega | (simp only [nx_alloc, nx_upd, len_cons, len_nil, List.length_set, List.length_map, List.length_append] <;> omega) | fail)) only [go_sem, r0, r1, r2, r3, r10, s1, s2, i1, i2, c1, c2, hg, hg1, st1, st2]
    refine ⟨u2.length, by simp, _, u1 ++ [x], u2, w1 ++ [y], w2, rfl, by rw [hu12]; simp, by rw [hw12]; simp, by simp [hul], rfl, ?_, ?_, ?_, ?_, ?_, ?_⟩
    · rw [← hP, ← hM, ← hQ]; simp
    · simp (maxSteps := 1000000) (disch := (first | omega | (simp only [nx_alloc, nx_upd, len_cons, len_nil, List.length_set, List.length_map, List.length_append] <;> omega) | fail)) only [go_sem, r0]
    · simp (maxSteps := 1000000) (disch := (first | omega | (simp only [nx_alloc, nx_upd, len_cons, len_nil, List.length_set, List.length_map, List.length_append] <;> omega) | fail)) only [go_sem, r1]
    · simp (maxSteps := 1000000) (disch := (first | omega | (simp only [nx_alloc, nx_upd, len_cons, len_nil, List.length_set, List.length_map, List.length_append] <;> omega) | fail)) only [go_sem, r2]
    · simp (maxSteps := 1000000) (disch := (first | omega | (simp only [nx_alloc, nx_upd, len_cons, len_nil, List.length_set, List.length_map, List.length_append] <;> omega) | fail)) only [go_sem, r3]
    · simp (maxSteps := 1000000) (disch := (first | omega | (simp only [nx_alloc, nx_upd, len_cons, len_nil, List.length_set, List.length_map, List.length_append] <;> omega) | fail)) only [go_sem, b1]
set_option maxHeartbeats 8000000 in
theorem rotate_ok (w0 : World) (A : St) (b n : Nat) (v : Value) (hv : RowV v b n) (hn63 : n ≤ 1000000) (p u w q : List Value) (hu0 : u ≠ []) (hw00 : w ≠ []) (hlen : p.length + (u.length + (w.length + q.length)) = n) (hu : ∀ x ∈ u, one1 x = true) (hw1 : ∀ x ∈ w, one1 x = true) (a1 a2 a3 : Nat) (e1 : a1 = p.length) (e2 : a2 = p.length + u.length) (e3 : a3 = p.length + (u.length + w.length)) :
    ACalls Try.prog w0 53 #[v, .int .i64 a1, .int .i64 a2, .int .i64 a3, cmpV] (A.upd b (nodB (p ++ (u ++ (w ++ q))))) (fin (.tuple #[]) (A.upd b (nodB (p ++ (w ++ (u ++ q)))))) := by
  refine call_E (l := [v, .int .i64 a1, .int .i64 a2, .int .i64 a3, cmpV]) Try.enters53 Try.func53 rfl (Nat.le_of_ble_eq_true rfl) fun hw hbd => ?_
  have d1 : (a2 : Int) - (a1 : Int) = (u.length : Int) := by omega
  have d2 : (a3 : Int) - (a2 : Int) = (w.length : Int) := by omega
  have pu := List.length_pos_iff.2 hu0
  have pw := List.length_pos_iff.2 hw00
  simp (maxSteps := 1000000) (disch := (first | omega | (simp only [nx_alloc, nx_upd, len_cons, len_nil, List.length_set, List.length_map, List.length_append] <;> omega) | fail)) only [go_sem, Try.ntmps53, Try.results53, d1, d2]
  refine aw_loop (fun k a A' => ∃ (ρ : Nat → Value) (P x y S : List Value), a = E 58 ρ [] ∧ k = x.length + y.length ∧ 0 < x.length ∧ 0 < y.length ∧ P.length + x.length = a2 ∧ P ++ (y ++ (x ++ S)) = p ++ (w ++ (u ++ q)) ∧ P.length + (x.length + (y.length + S.length)) = n ∧ (∀ z ∈ x, one1 z = true) ∧ (∀ z ∈ y, one1 z = true) ∧ A' = A.upd b (nodB (P ++ (x ++ (y ++ S)))) ∧ ρ 0 = v ∧ ρ 2 = .int .i64 a2 ∧ ρ 4 = cmpV ∧ ρ 10 = .int .i64 (x.length : Nat) ∧ ρ 11 = .int .i64 (y.length : Nat)) (u.length + w.length)
    ⟨_, p, u, w, q, rfl, rfl, pu, pw, e2.symm, rfl, hlen, hu, hw1, rfl, rfl, rfl, rfl, rfl, rfl⟩ ?_
  rintro k a A' ⟨ρ, P, x, y, S, rfl, rfl, hx0, hy0, hm, htg, hln, hx1, hy1, rfl, r0, r2, r4, r10, r11⟩
  refine aw_of ?_
  have t1 : (a2 : Int) - (x.length : Int) = (P.length : Int) := by omega
  by_cases heq : x.length = y.length
  · have h := swaprange_ok w0 A b n v hv hn63 P x [] y S heq (by simpa using hln) hx1 hy1 P.length a2 x.length rfl (by simp; omega) rfl
    simp only [List.nil_append] at h
    have heq' : (x.length : Int) = (y.length : Int) := by omega
    simp (maxSteps := 1000000) (disch := (first | omega | (simp only [nx_alloc, nx_upd, len_cons, len_nil, List.length_set, List.length_map, List.length_append] <;> omega) | fail)) only [go_sem, r0, r2, r4, r10, r11, heq', t1]
    rw [heq'] at t1
    rw [heq] at h
    simp (maxSteps := 1000000) (disch := (first | omega | (simp only [nx_alloc, nx_upd, len_cons, len_nil, List.length_set, List.length_map, List.length_append] <;> omega) | fail)) only [go_sem, r0, r2, r4, r10, r11, t1]
    refine call1 h ?_
    simp (maxSteps := 1000000) (disch := (first | omega | (simp only [nx_alloc, nx_upd, len_cons, len_nil, List.length_set, List.length_map, List.length_append] <;> omega) | fail)) only [go_sem, Try.results53]
    rw [htg]
    exact gc_here ⟨rfl, rfl⟩
  have heq' : ¬ (x.length : Int) = (y.length : Int) := by omega
  by_cases hgt : y.length < x.length
  · have hgt' : (y.length : Int) < (x.length : Int) := by omega
    obtain ⟨x1, x2, rfl, hx1l⟩ : ∃ x1 x2, x = x1 ++ x2 ∧ x1.length = y.length := ⟨x.take y.length, x.drop y.length, (List.take_append_drop ..).symm, by rw [List.length_take]; omega⟩
    simp only [List.length_append] at *
    have h := swaprange_ok w0 A b n v hv hn63 P x1 x2 y S hx1l (by omega) (fun z hz => hx1 z (by simp [hz])) hy1 P.length a2 y.length rfl (by omega) hx1l.symm
    have t2 : ((x1.length + x2.length : Nat) : Int) - (y.length : Int) = (x2.length : Int) := by omega
    have hd : x1 ++ x2 ++ (y ++ S) = x1 ++ (x2 ++ (y ++ S)) := by simp
    rw [hd]
    simp (maxSteps := 1000000) (disch := (first | omega | (simp only [nx_alloc, nx_upd, len_cons, len_nil, List.length_set, List.length_map, List.length_append] <;> omega) | fail)) only [go_sem, r0, r2, r4, r10, r11, t1]
    refine call1 h ?_
    simp (maxSteps := 1000000) (disch := (first | omega | (simp only [nx_alloc, nx_upd, len_cons, len_nil, List.length_set, List.length_map, List.length_append] <;> omega) | fail)) only [go_sem, r10, r11, t2]
    refine ⟨x2.length + x1.length, by omega, _, P ++ y, x2, x1, S, rfl, rfl, by omega, by omega, by rw [List.length_append]; omega, ?_, ?_, (fun z hz => hx1 z (by simp [hz])), (fun z hz => hx1 z (by simp [hz])), ?_, ?_, ?_, ?_, ?_, ?_⟩
    · rw [← htg]; simp
    · rw [List.length_append]; omega
    · simp
    · simp (maxSteps := 1000000) (disch := (first | omega | (simp only [nx_alloc, nx_upd, len_cons, len_nil, List.length_set, List.length_map, List.length_append] <;> omega) | fail)) only [go_sem, r0]
    · simp (maxSteps := 1000000) (disch := (first | omega | (simp only [nx_alloc, nx_upd, len_cons, len_nil, List.length_set, List.length_map, List.length_append] <;> omega) | fail)) only [go_sem, r2]
    · simp (maxSteps := 1000000) (disch := (first | omega | (simp only [nx_alloc, nx_upd, len_cons, len_nil, List.length_set, List.length_map, List.length_append] <;> omega) | fail)) only [go_sem, r4]
    · simp (maxSteps := 1000000) (disch := (first | omega | (simp only [nx_alloc, nx_upd, len_cons, len_nil, List.length_set, List.length_map, List.length_append] <;> omega) | fail)) only [go_sem]
    · simp (maxSteps := 1000000) (disch := (first | omega | (simp only [nx_alloc, nx_upd, len_cons, len_nil, List.length_set, List.length_map, List.length_append] <;> omega) | fail)) only [go_sem, r11]
      rw [hx1l]
  · have hgt' : ¬ (y.length : Int) < (x.length : Int) := by omega
    obtain ⟨y1, y2, rfl, hy2l⟩ : ∃ y1 y2, y = y1 ++ y2 ∧ y2.length = x.length := ⟨y.take (y.length - x.length), y.drop (y.length - x.length), (List.take_append_drop ..).symm, by rw [List.length_drop]; omega⟩
    simp only [List.length_append] at *
    have h := swaprange_ok w0 A b n v hv hn63 P x y1 y2 S hy2l.symm (by omega) hx1 (fun z hz => hy1 z (by simp [hz])) P.length (P.length + (x.length + y1.length)) x.length rfl rfl rfl
    have t2 : ((y1.length + y2.length : Nat) : Int) - (x.length : Int) = (y1.length : Int) := by omega
    have t3 : (a2 : Int) + ((y1.length + y2.length : Nat) : Int) - (x.length : Int) = ((P.length + (x.length + y1.length) : Nat) : Int) := by omega
    have hd : x ++ (y1 ++ y2 ++ S) = x ++ (y1 ++ (y2 ++ S)) := by simp
    rw [hd]
    simp (maxSteps := 1000000) (disch := (first | omega | (simp only [nx_alloc, nx_upd, len_cons, len_nil, List.length_set, List.length_map, List.length_append] <;> omega) | fail)) only [go_sem, r0, r2, r4, r10, r11, t1, t3]
    refine call1 h ?_
    simp (maxSteps := 1000000) (disch := (first | omega | (simp only [nx_alloc, nx_upd, len_cons, len_nil, List.length_set, List.length_map, List.length_append] <;> omega) | fail)) only [go_sem, r10, r11, t2]
    refine ⟨y2.length + y1.length, by omega, _, P, y2, y1, x ++ S, rfl, rfl, by omega, by omega, by omega, ?_, ?_, (fun z hz => hy1 z (by simp [hz])), (fun z hz => hy1 z (by simp [hz])), ?_, ?_, ?_, ?_, ?_, ?_⟩
    · rw [← htg]; simp
    · rw [List.length_append]; omega
    · rfl
    · simp (maxSteps := 1000000) (disch := (first | omega | (simp only [nx_alloc, nx_upd, len_cons, len_nil, List.length_set, List.length_map, List.length_append] <;> omega) | fail)) only [go_sem, r0]
    · simp (maxSteps := 1000000) (disch := (first | omega | (simp only [nx_alloc, nx_upd, len_cons, len_nil, List.length_set, List.length_map, List.length_append] <;> omega) | fail)) only [go_sem, r2]
    · simp (maxSteps := 1000000) (disch := (first | omega | (simp only [nx_alloc, nx_upd, len_cons, len_nil, List.length_set, List.length_map, List.length_append] <;> omega) | fail)) only [go_sem, r4]
    · simp (maxSteps := 1000000) (disch := (first | omega | (simp only [nx_alloc, nx_upd, len_cons, len_nil, List.length_set, List.length_map, List.length_append] <;> omega) | fail)) only [go_sem, r10]
      rw [hy2l]
    · simp (maxSteps := 1000000) (disch := (first | omega | (simp only [nx_alloc, nx_upd, len_cons, len_nil, List.length_set, List.length_map, List.length_append] <;> omega) | fail)) only [go_sem]
end Go.Fw
