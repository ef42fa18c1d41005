import Derived.Test.YtpjacnialnlilaaFwPre11
import Derived.Test.YtpjacnialnlilaaFw36
set_option linter.unusedSimpArgs false
set_option linter.unusedVariables false
set_option maxRecDepth 4000
namespace Go.Fw
open Go.Proofs Go.RowKit
/-! The document's trees: the lightest one, the taking of one. -/
theorem Try.enters44 : Enters Try.prog 44 := enters_of Try.func44 rfl (by kernel_rfl)
theorem Try.enters43 : Enters Try.prog 43 := enters_of Try.func43 rfl (by kernel_rfl)
theorem Row.ge {A A' : St} {e sz lo : Nat} {cs : List Value} {len : Nat} {v : Value} (h : Row A e sz lo cs len v) (g : Ge A A') : Row A' e sz lo cs len v := by
  refine ⟨h.1, ?_⟩
  rcases h.2 with h | ⟨b, sp, rfl, h1, h2, h3, h4⟩
  · exact .inl h
  · exact .inr ⟨b, sp, rfl, h1, h2, Nat.lt_of_lt_of_le h3 g.next, g.get b _ h3 h4⟩
def W2 (cs : List Value) : Prop := ∃ (w : Int) (sv : Value), cs = [.int .i64 w, sv] ∧ cell1 sv = true
theorem W2.len {cs : List Value} (h : W2 cs) : cs.length = 2 := by obtain ⟨w, sv, rfl, _⟩ := h; rfl
theorem W2.cell {cs : List Value} (h : W2 cs) : cs.all cell1 = true := by obtain ⟨w, sv, rfl, h⟩ := h; rw [List.all_cons, List.all_cons, h]; rfl
theorem tl_at {A : St} {css : List (List Value)} {v : Value} (hv : View A 2 css.flatten css.length v) (h2 : ∀ cs ∈ css, cs.length = 2) {i : Nat} {cs : List Value} (hi : css[i]? = some cs) :
    ∃ b off, b < A.next ∧ (∀ k : IntKind, indexAddrU Try.prog (some (.slice 89)) v (.int k i) = some (.pointer (some ⟨b, off, none⟩))) ∧ ∃ cells e' m, A.get b = some (.cells cells e' m) ∧ loadC (some true) (some 2) (some (.cells cells e' m)) off = some (.agg cs.toArray) ∧ cells[off]? = cs[0]? ∧ cells[off + 1]? = cs[1]? := by
  have hlt : i < css.length := (List.getElem?_eq_some_iff.1 hi).1
  obtain ⟨b, off, q1, q2, q3, cells, e', m, q4, q5, q6⟩ := hv.at (P := Try.prog) (e := 89) Try.sz89 hlt
  rw [flat_elem h2 hi] at q6
  refine ⟨b, off, q1, q3, cells, e', m, q4, by rw [loadC_agg _ _ _ _ _ q5, q6], ?_, ?_⟩
  · rw [← q6, List.getElem?_take, if_pos (by decide), List.getElem?_drop, Nat.add_zero]
  · rw [← q6, List.getElem?_take, if_pos (by decide), List.getElem?_drop]
def WtC (t : HT) (cs : List Value) : Prop := ∃ sv, cs = [.int .i64 t.wt, sv] ∧ cell1 sv = true
theorem WtC.w2 {t : HT} {cs : List Value} (h : WtC t cs) : W2 cs := by obtain ⟨sv, e, h⟩ := h; exact ⟨_, sv, e, h⟩
set_option maxHeartbeats 2000000 in
theorem rlight_ok (w0 : World) (A : St) (l : List HT) (css : List (List Value)) (v : Value) (hl : All2 WtC l css) (hv : View A 2 css.flatten css.length v) (hn : l ≠ []) (hlen : l.length ≤ 1000000) :
    ACalls Try.prog w0 44 #[v] A fun e A' => ∃ l1 x l2, e = .returned (.int .i64 (l1.length : Nat)) ∧ A' = A ∧ l = l1 ++ x :: l2 ∧ (∀ y ∈ l1, x.wt < y.wt) ∧ ∀ y ∈ l2, x.wt ≤ y.wt := by
  refine call_E (l := [v]) Try.enters44 Try.func44 rfl (Nat.le_of_ble_eq_true rfl) fun hw hbd => ?_
  have hcl := hl.length
  have hlenU : ∀ X, lenU X (some (.slice 89)) v = some (.int .i64 l.length, X) := fun X => by rw [hcl]; exact View.lenX hv X
  have h2 : ∀ cs ∈ css, cs.length = 2 := fun cs hc => by obtain ⟨t, _, ht⟩ := hl.mem_r cs hc; exact ht.w2.len
  obtain ⟨t0, lt, rfl⟩ : ∃ t0 lt, l = t0 :: lt := by
    cases l with
    | nil => exact absurd rfl hn
    | cons a l => exact ⟨a, l, rfl⟩
  simp (maxSteps := 1000000) (disch := (first | omega | (simp only [nx_alloc, nx_upd, len_cons, len_nil, List.length_set, List.length_map, List.length_append] <;> omega) | fail)) only [go_sem, Try.ntmps44, Try.results44]
  refine aw_loop (fun m x A' => ∃ (ρ : Nat → Value) (m1 m2 r : List HT) (x0 : HT), x = E 24 ρ [] ∧ A' = A ∧ m = r.length ∧ t0 :: lt = m1 ++ x0 :: m2 ++ r ∧ (∀ y ∈ m1, x0.wt < y.wt) ∧ (∀ y ∈ m2, x0.wt ≤ y.wt) ∧ ρ 0 = v ∧ ρ 3 = .int .i64 (m1.length : Nat) ∧ ρ 4 = .int .i64 (((m1 ++ x0 :: m2).length : Nat) : Int)) lt.length
    ⟨_, [], [], lt, t0, rfl, rfl, rfl, rfl, fun y hy => (by cases hy), fun y hy => (by cases hy), rfl, rfl, rfl⟩ ?_
  rintro m x A' ⟨ρ, m1, m2, r, x0, rfl, rfl, rfl, hsp, hm1, hm2, g0, g3, g4⟩
  refine aw_of ?_
  have hll := congrArg List.length hsp
  rw [List.length_append] at hll
  have hq : ∀ k, m1.length + (m2.length + 1) = k → (m1 ++ x0 :: m2).length = k := fun k hk => by rw [List.length_append, List.length_cons]; exact hk
  generalize hK : (m1 ++ x0 :: m2).length = K at g4 hll
  have hK' : m1.length < K := by rw [← hK, List.length_append, List.length_cons]; omega
  cases r with
  | nil =>
    have e1 : ¬ ((K : Int) < ((t0 :: lt).length : Nat)) := by rw [hll]; simp
    simp (maxSteps := 1000000) (disch := (first | omega | (simp only [nx_alloc, nx_upd, len_cons, len_nil, List.length_set, List.length_map, List.length_append] <;> omega) | fail)) only [go_sem, g0, g3, g4, hlenU, e1, Try.results44]
    exact gc_here ⟨m1, x0, m2, rfl, rfl, by rw [List.append_nil] at hsp; exact hsp, hm1, hm2⟩
  | cons y r =>
    have e1 : ((K : Int) < ((t0 :: lt).length : Nat)) := by rw [hll, List.length_cons]; omega
    have i1 : (t0 :: lt)[m1.length]? = some x0 := by rw [hsp, List.append_assoc]; exact at_app ..
    have i2 : (t0 :: lt)[K]? = some y := by rw [hsp, ← hK]; exact at_app ..
    obtain ⟨c1, hc1, s1, rfl, _⟩ := hl.get i1
    obtain ⟨c2, hc2, s2, rfl, _⟩ := hl.get i2
    obtain ⟨b1, o1, q1, q2, ce1, e1', n1, q3, q4, q5, q6⟩ := tl_at hv h2 hc1
    obtain ⟨b2, o2, p1, p2, ce2, e2', n2, p3, p4, p5, p6⟩ := tl_at hv h2 hc2
    by_cases hlt : y.wt < x0.wt
    · simp (maxSteps := 1000000) (disch := (first | omega | (simp only [nx_alloc, nx_upd, len_cons, len_nil, List.length_set, List.length_map, List.length_append] <;> omega) | fail)) only [go_sem, g0, g3, g4, hlenU, e1]
      refine aw_draw (by kernel_rfl) ?_
      simp (maxSteps := 1000000) (disch := (first | omega | (simp only [nx_alloc, nx_upd, len_cons, len_nil, List.length_set, List.length_map, List.length_append] <;> omega) | fail)) only [go_sem, g0, g3, g4, q2, q3, q5, p2, p3, p5, hlt]
      refine ⟨r.length, by simp, _, m1 ++ x0 :: m2, [], r, y, rfl, rfl, by rw [hsp]; simp, fun z hz => ?_, fun z hz => (by cases hz), ?_, ?_, ?_⟩
      · rcases List.mem_append.1 hz with hz | hz
        · have := hm1 z hz; omega
        · rcases List.mem_cons.1 hz with rfl | hz
          · exact hlt
          · have := hm2 z hz; omega
      · simp (maxSteps := 1000000) (disch := (first | omega | (simp only [nx_alloc, nx_upd, len_cons, len_nil, List.length_set, List.length_map, List.length_append] <;> omega) | fail)) only [go_sem, g0]
      · simp (maxSteps := 1000000) (disch := (first | omega | (simp only [nx_alloc, nx_upd, len_cons, len_nil, List.length_set, List.length_map, List.length_append] <;> omega) | fail)) only [go_sem, hK]
      · simp (maxSteps := 1000000) (disch := (first | omega | (simp only [nx_alloc, nx_upd, len_cons, len_nil, List.length_set, List.length_map, List.length_append] <;> omega) | fail)) only [go_sem]
        rw [List.length_append, hK]; rfl
    · simp (maxSteps := 1000000) (disch := (first | omega | (simp only [nx_alloc, nx_upd, len_cons, len_nil, List.length_set, List.length_map, List.length_append] <;> omega) | fail)) only [go_sem, g0, g3, g4, hlenU, e1]
      refine aw_draw (by kernel_rfl) ?_
      simp (maxSteps := 1000000) (disch := (first | omega | (simp only [nx_alloc, nx_upd, len_cons, len_nil, List.length_set, List.length_map, List.length_append] <;> omega) | fail)) only [go_sem, g0, g3, g4, q2, q3, q5, p2, p3, p5, hlt]
      refine ⟨r.length, by simp, _, m1, m2 ++ [y], r, x0, rfl, rfl, by rw [hsp]; simp, hm1, fun z hz => ?_, ?_, ?_, ?_⟩
      · rcases List.mem_append.1 hz with hz | hz
        · exact hm2 z hz
        · rw [List.mem_singleton.1 hz]; exact Int.not_lt.1 hlt
      · simp (maxSteps := 1000000) (disch := (first | omega | (simp only [nx_alloc, nx_upd, len_cons, len_nil, List.length_set, List.length_map, List.length_append] <;> omega) | fail)) only [go_sem, g0]
      · simp (maxSteps := 1000000) (disch := (first | omega | (simp only [nx_alloc, nx_upd, len_cons, len_nil, List.length_set, List.length_map, List.length_append] <;> omega) | fail)) only [go_sem, g3]
      · simp (maxSteps := 1000000) (disch := (first | omega | (simp only [nx_alloc, nx_upd, len_cons, len_nil, List.length_set, List.length_map, List.length_append] <;> omega) | fail)) only [go_sem]
        rw [show m1 ++ x0 :: (m2 ++ [y]) = (m1 ++ x0 :: m2) ++ [y] by simp, List.length_append, hK]; rfl
theorem tr_push {A : St} {lo : Nat} {css : List (List Value)} {cs : List Value} {v : Value} (h : Row A 89 2 lo css.flatten css.length v) (hx : W2 cs) (hlo : lo ≤ A.next) (hl : css.length ≤ 1000000) :
    ∃ v' A', aappend Try.prog (A.alloc (.cells cs 89 (some 0))) 87 87 v (.slice (some ⟨A.next, 0, none⟩) 1 1) = some (v', A') ∧ Row A' 89 2 lo (css ++ [cs]).flatten (css ++ [cs]).length v' ∧ A'.next = A.next + 2 ∧ rowB v' = some (A.next + 1) ∧ ∀ b, b < A.next → rowB v ≠ some b → A'.get b = A.get b := by
  obtain ⟨v', A2, hap, hr2, hn2, hrb, hf2⟩ := row_push (A := A) (sp := none) (c := 1) (xs := cs) Try.el87 Try.underlying87 (by intro k; exact TypeDesc.noConfusion) Try.sz89 Try.byt89 Try.zero89 rfl h hlo (by omega) (by omega) hx.cell hx.len
  refine ⟨v', A2, hap, ?_, hn2, hrb, hf2⟩
  rw [List.flatten_append, List.length_append]
  simpa using hr2
set_option maxHeartbeats 4000000 in
theorem rtake_ok (w0 : World) (A : St) (c1 c2 : List (List Value)) (cs : List Value) (v : Value) (hw2 : ∀ c ∈ c1 ++ cs :: c2, W2 c) (hv : View A 2 (c1 ++ cs :: c2).flatten (c1 ++ cs :: c2).length v) (hlen : (c1 ++ cs :: c2).length ≤ 1000000) :
    ACalls Try.prog w0 43 #[v, .int .i64 (c1.length : Nat)] A fun e A' => ∃ v', e = .returned (.tuple #[.agg cs.toArray, v']) ∧ Over A A' ∧ Row A' 89 2 A.next (c1 ++ c2).flatten (c1 ++ c2).length v' := by
  refine call_E (l := [v, .int .i64 (c1.length : Nat)]) Try.enters43 Try.func43 rfl (Nat.le_of_ble_eq_true rfl) fun hw hbd => ?_
  generalize hC : c1 ++ cs :: c2 = C at *
  have hlenU : ∀ X, lenU X (some (.slice 89)) v = some (.int .i64 C.length, X) := fun X => View.lenX hv X
  have h2 : ∀ c ∈ C, c.length = 2 := fun c hc => (hw2 c hc).len
  have hCl : C.length = c1.length + (c2.length + 1) := by rw [← hC, List.length_append, List.length_cons]
  have hat : C[c1.length]? = some cs := by rw [← hC]; exact at_app ..
  have hfin : C.eraseIdx c1.length = c1 ++ c2 := by rw [← hC, List.eraseIdx_append_of_length_le (Nat.le_refl _), Nat.sub_self]; rfl
  have hskip : (C.take (c1.length + 1)).eraseIdx c1.length = (C.take c1.length).eraseIdx c1.length := by
    have hl : (C.take c1.length).length = c1.length := List.length_take_of_le (by omega)
    rw [List.take_add_one, hat]
    show (C.take c1.length ++ [cs]).eraseIdx _ = _
    rw [List.eraseIdx_append_of_length_le (by omega), hl, Nat.sub_self, List.eraseIdx_of_length_le (l := C.take c1.length) (by omega)]
    exact List.append_nil _
  have hstep : ∀ i c, C[i]? = some c → i ≠ c1.length → (C.take (i + 1)).eraseIdx c1.length = (C.take i).eraseIdx c1.length ++ [c] := fun i c hi hne => by
    have hlt := (List.getElem?_eq_some_iff.1 hi).1
    have hl : (C.take i).length = i := List.length_take_of_le (by omega)
    rw [List.take_add_one, hi]
    show (C.take i ++ [c]).eraseIdx _ = _
    rcases Nat.lt_or_ge c1.length i with h | h
    · rw [List.eraseIdx_append_of_lt_length (by omega)]
    · rw [List.eraseIdx_of_length_le (by rw [List.length_append, hl, List.length_singleton]; omega), List.eraseIdx_of_length_le (by omega)]
  simp (maxSteps := 1000000) (disch := (first | omega | (simp only [nx_alloc, nx_upd, len_cons, len_nil, List.length_set, List.length_map, List.length_append] <;> omega) | fail)) only [go_sem, Try.ntmps43, Try.results43]
  refine aw_loop (fun m x A' => ∃ (ρ : Nat → Value) (i : Nat) (ov : Value), x = E 30 ρ [] ∧ m = C.length - i ∧ i ≤ C.length ∧ A.next + 1 ≤ A'.next ∧ (∀ b, b < A.next → A'.get b = A.get b) ∧ A'.get A.next = some (.cells [.int .i64 0, .slice none 0 0] 89 (some 0)) ∧ Row A' 89 2 (A.next + 1) ((C.take i).eraseIdx c1.length).flatten ((C.take i).eraseIdx c1.length).length ov ∧
      ρ 0 = v ∧ ρ 1 = .int .i64 (c1.length : Nat) ∧ ρ 4 = .pointer (some ⟨A.next, 0, none⟩) ∧ ρ 6 = ov ∧ ρ 7 = .int .i64 i) C.length
    ⟨_, 0, _, rfl, rfl, Nat.zero_le _, by simp only [nx_alloc]; omega, fun b hb => by rw [get_alloc_old (by simp only [nx_alloc]; omega), get_alloc_old hb], by rw [get_alloc_old (by simp only [nx_alloc]; omega)]; exact get_alloc_same .., ⟨rfl, .inr ⟨A.next + 1, none, rfl, .inl rfl, Nat.le_refl _, by simp only [nx_alloc]; omega, get_alloc_same ..⟩⟩, rfl, rfl, rfl, rfl, rfl⟩ ?_
  rintro m x A' ⟨ρ, i, ov, rfl, hm, hi, hn1, hov, hg4, hr, g0, g1, g4, g6, g7⟩
  refine aw_of ?_
  have hvA : View A' 2 C.flatten C.length v := View.over hv ⟨by omega, hov⟩
  by_cases hend : i = C.length
  · have e1 : ¬ ((i : Int) < (C.length : Nat)) := by omega
    obtain ⟨b1, o1, q1, q2, ce1, e1', n1, q3, q4, q5, q6⟩ := tl_at hvA h2 hat
    rw [hend, List.take_length, hfin] at hr
    have hcs := hw2 cs (List.mem_of_getElem? hat)
    obtain ⟨wt, sv, rfl, hsv⟩ := hcs
    simp (maxSteps := 1000000) (disch := (first | omega | (simp only [nx_alloc, nx_upd, len_cons, len_nil, List.length_set, List.length_map, List.length_append] <;> omega) | fail)) only [go_sem, g0, g1, g4, g6, g7, hlenU, e1, q2, q3, q4, hg4, hsv, Try.results43]
    exact gc_here ⟨ov, rfl, ⟨by rw [nx_upd]; omega, fun b hb => (get_upd_old (by omega)).trans (hov b hb)⟩, hr.keep (Nat.le_refl _) (fun b _ hb _ => get_upd_old (by omega)) (by omega)⟩
  have e1 : ((i : Int) < (C.length : Nat)) := by omega
  by_cases hic : i = c1.length
  · have e2 : ¬ ((i : Int) ≠ (c1.length : Nat)) := by omega
    simp (maxSteps := 1000000) (disch := (first | omega | (simp only [nx_alloc, nx_upd, len_cons, len_nil, List.length_set, List.length_map, List.length_append] <;> omega) | fail)) only [go_sem, g0, g1, g4, g6, g7, hlenU, e1, e2]
    refine ⟨m - 1, by omega, _, i + 1, ov, rfl, by omega, by omega, hn1, hov, hg4, ?_, ?_, ?_, ?_, ?_, ?_⟩
    · rw [hic] at hr ⊢
      rw [hskip]; exact hr
    · simp (maxSteps := 1000000) (disch := (first | omega | (simp only [nx_alloc, nx_upd, len_cons, len_nil, List.length_set, List.length_map, List.length_append] <;> omega) | fail)) only [go_sem, g0]
    · simp (maxSteps := 1000000) (disch := (first | omega | (simp only [nx_alloc, nx_upd, len_cons, len_nil, List.length_set, List.length_map, List.length_append] <;> omega) | fail)) only [go_sem, g1]
    · simp (maxSteps := 1000000) (disch := (first | omega | (simp only [nx_alloc, nx_upd, len_cons, len_nil, List.length_set, List.length_map, List.length_append] <;> omega) | fail)) only [go_sem, g4]
    · simp (maxSteps := 1000000) (disch := (first | omega | (simp only [nx_alloc, nx_upd, len_cons, len_nil, List.length_set, List.length_map, List.length_append] <;> omega) | fail)) only [go_sem, g6]
    · simp (maxSteps := 1000000) (disch := (first | omega | (simp only [nx_alloc, nx_upd, len_cons, len_nil, List.length_set, List.length_map, List.length_append] <;> omega) | fail)) only [go_sem]
      rfl
  have e2 : ((i : Int) ≠ (c1.length : Nat)) := by omega
  obtain ⟨c, hci⟩ : ∃ c, C[i]? = some c := ⟨_, List.getElem?_eq_getElem (by omega)⟩
  obtain ⟨b1, o1, q1, q2, ce1, e1', n1, q3, q4, q5, q6⟩ := tl_at hvA h2 hci
  have hcw := hw2 c (List.mem_of_getElem? hci)
  have hll : ((C.take i).eraseIdx c1.length).length ≤ 1000000 := Nat.le_trans (List.length_eraseIdx_le ..) (Nat.le_trans (List.length_take_le ..) (by omega))
  obtain ⟨v', A2, p1, p2, p3, p4, p5⟩ := tr_push hr hcw hn1 hll
  rw [← hstep i c hci hic] at p2
  obtain ⟨wt, sv, rfl, hsv⟩ := hcw
  simp (maxSteps := 1000000) (disch := (first | omega | (simp only [nx_alloc, nx_upd, len_cons, len_nil, List.length_set, List.length_map, List.length_append] <;> omega) | fail)) only [go_sem, g0, g1, g4, g6, g7, hlenU, e1, e2, q2, q3, q4, p1]
  refine ⟨m - 1, by omega, _, i + 1, v', rfl, by omega, by omega, by omega, fun b hb => ?_, ?_, p2, ?_, ?_, ?_, ?_, ?_⟩
  · rw [p5 b (by omega) (hr.ne (by omega))]; exact hov b hb
  · rw [p5 _ (by omega) (hr.ne (by omega))]; exact hg4
  · simp (maxSteps := 1000000) (disch := (first | omega | (simp only [nx_alloc, nx_upd, len_cons, len_nil, List.length_set, List.length_map, List.length_append] <;> omega) | fail)) only [go_sem, g0]
  · simp (maxSteps := 1000000) (disch := (first | omega | (simp only [nx_alloc, nx_upd, len_cons, len_nil, List.length_set, List.length_map, List.length_append] <;> omega) | fail)) only [go_sem, g1]
  · simp (maxSteps := 1000000) (disch := (first | omega | (simp only [nx_alloc, nx_upd, len_cons, len_nil, List.length_set, List.length_map, List.length_append] <;> omega) | fail)) only [go_sem, g4]
  · simp (maxSteps := 1000000) (disch := (first | omega | (simp only [nx_alloc, nx_upd, len_cons, len_nil, List.length_set, List.length_map, List.length_append] <;> omega) | fail)) only [go_sem]
  · simp (maxSteps := 1000000) (disch := (first | omega | (simp only [nx_alloc, nx_upd, len_cons, len_nil, List.length_set, List.length_map, List.length_append] <;> omega) | fail)) only [go_sem]
    rfl
end Go.Fw
