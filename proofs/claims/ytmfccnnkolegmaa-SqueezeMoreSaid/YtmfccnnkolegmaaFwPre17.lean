import Derived.Test.YtmfccnnkolegmaaFwPre11
import Derived.Test.YtmfccnnkolegmaaFw36
set_option linter.unusedSimpArgs false
set_option linter.unusedVariables false
set_option maxRecDepth 4000
namespace Go.Fw
open Go.Proofs Go.RowKit
/-! The document's trees: the lightest one, the taking of one. -/
theorem Try.enters63 : Enters Try.prog 63 := enters_of Try.func63 rfl (by kernel_rfl)
theorem Try.enters62 : Enters Try.prog 62 := enters_of Try.func62 rfl (by kernel_rfl)
theorem Row.ge {A A' : St} {e sz lo : Nat} {cs : List Value} {len : Nat} {v : Value} (h : Row A e sz lo cs len v) (g : Ge A A') : Row A' e sz lo cs len v := by
  refine ⟨h.1, ?_⟩
  rcases h.2 with h | ⟨b, sp, rfl, h1, h2, h3, h4⟩
  · exact .inl h
  · exact .inr ⟨b, sp, rfl, h1, h2, Nat.lt_of_lt_of_le h3 g.next, g.get b _ h3 h4⟩
def W2 (cs : List Value) : Prop := ∃ (w : Int) (sv : Value), cs = [.int .i64 w, sv] ∧ cell1 sv = true
theorem W2.len {cs : List Value} (h : W2 cs) : cs.length = 2 := by obtain ⟨w, sv, rfl, _⟩ := h; rfl
theorem W2.cell {cs : List Value} (h : W2 cs) : cs.all cell1 = true := by obtain ⟨w, sv, rfl, h⟩ := h; rw [List.all_cons, List.all_cons, h]; rfl
theorem tl_at {A : St} {css : List (List Value)} {v : Value} (hv : View A 2 css.flatten css.length v) (h2 : ∀ cs ∈ css, cs.length = 2) {i : Nat} {cs : List Value} (hi : css[i]? = some cs) :
    ∃ b off, b < A.next ∧ (∀ k : IntKind, indexAddrU Try.prog (some (.slice 118)) v (.int k i) = some (.pointer (some ⟨b, off, none⟩))) ∧ ∃ cells e' m, A.get b = some (.cells cells e' m) ∧ loadC (some true) (some 2) (some (.cells cells e' m)) off = some (.agg cs.toArray) ∧ cells[off]? = cs[0]? ∧ cells[off + 1]? = cs[1]? := by
  have hlt : i < css.length := (List.getElem?_eq_some_iff.1 hi).1
  obtain ⟨b, off, q1, q2, q3, cells, e', m, q4, q5, q6⟩ := hv.at (P := Try.prog) (e := 118) Try.sz118 hlt
  rw [flat_elem h2 hi] at q6
  refine ⟨b, off, q1, q3, cells, e', m, q4, by rw [loadC_agg _ _ _ _ _ q5, q6], ?_, ?_⟩
  · rw [← q6, List.getElem?_take, if_pos (by decide), List.getElem?_drop, Nat.add_zero]
  · rw [← q6, List.getElem?_take, if_pos (by decide), List.getElem?_drop]
def WtC (t : HT) (cs : List Value) : Prop := ∃ sv, cs = [.int .i64 t.wt, sv] ∧ cell1 sv = true
theorem WtC.w2 {t : HT} {cs : List Value} (h : WtC t cs) : W2 cs := by obtain ⟨sv, e, h⟩ := h; exact ⟨_, sv, e, h⟩
set_option maxHeartbeats 2000000 in
theorem rlight_ok (w0 : World) (A : St) (l : List HT) (css : List (List Value)) (v : Value) (hl : All2 WtC l css) (hv : View A 2 css.flatten css.length v) (hn : l ≠ []) (hlen : l.length ≤ 1000000) :
    ACalls Try.prog w0 63 #[v] A fun e A' => ∃ l1 x l2, e = .returned (.int .i64 (l1.length : Nat)) ∧ A' = A ∧ l = l1 ++ x :: l2 ∧ (∀ y ∈ l1, x.wt < y.wt) ∧ ∀ y ∈ l2, x.wt ≤ y.wt := by
  refine call_E (l := [v]) Try.enters63 Try.func63 rfl (Nat.le_of_ble_eq_true rfl) fun hw hbd => ?_
  have hcl := hl.length
  have hlenU : ∀ X, lenU X (some (.slice 118)) v = some (.int .i64 l.length, X) := fun X => by rw [hcl]; exact View.lenX hv X
  have h2 : ∀ cs ∈ css, cs.length = 2 := fun cs hc => by obtain ⟨t, _, ht⟩ := hl.mem_r cs hc; exact ht.w2.len
  obtain ⟨t0, lt, rfl⟩ : ∃ t0 lt, l = t0 :: lt := by
    cases l with
    | nil => exact absurd rfl hn
    | cons a l => exact ⟨a, l, rfl⟩
  simp (maxSteps := 1000000) (disch := first | omega | (simp only [Fw.z1, Fw.z2, Fw.z3, Fw.z4, Fw.z5, Fw.z6, Fw.z7] <;> omega) | fail) only [go_sem, Try.ntmps63, Try.results63]
  refine aw_loop (fun m x A' => ∃ (ρ : Nat → Value) (m1 m2 r : List HT) (x0 : HT), x = E 24 ρ [] ∧ A' = A ∧ m = r.length ∧ t0 :: lt = m1 ++ x0 :: m2 ++ r ∧ (∀ y ∈ m1, x0.wt < y.wt) ∧ (∀ y ∈ m2, x0.wt ≤ y.wt) ∧ ρ 0 = v ∧ ρ 3 = .int .i64 (m1.length : Nat) ∧ ρ 4 = .int .i64 (((m1 ++ x0 :: m2).length : Nat) : Int)) lt.length
    ⟨_, [], [], lt, t0, rfl, rfl, rfl, rfl, fun y hy => (by cases hy), fun y hy => (by cases hy), rfl, rfl, rfl⟩ ?_
  rintro m x A' ⟨ρ, m1, m2, r, x0, rfl, rfl, rfl, hsp, hm1, hm2, g0, g3, g4⟩
  refine aw_of ?_
  have hll := congrArg List.length hsp
  rw [List.length_append] at hll
  have hq : ∀ k, m1.length + (m2.length + 1) = k → (m1 ++ x0 :: m2).length = k := fun k hk => by rw [List.length_append, List.length_cons]; exact hk
  generalize hK : (m1 ++ x0 :: m2).length = K at g4 hll
  have hK' : m1.length < K := by rw [← hK, List.length_append, List.length_cons]; omega
  cases r with
  | nil =>
    have e1 : ¬ ((K : Int) < ((t0 :: lt).length : Nat)) := by rw [hll]; simp
    simp (maxSteps := 1000000) (disch := first | omega | (simp only [Fw.z1, Fw.z2, Fw.z3, Fw.z4, Fw.z5, Fw.z6, Fw.z7] <;> omega) | fail) only [go_sem, g0, g3, g4, hlenU, e1, Try.results63]
    exact gc_here ⟨m1, x0, m2, rfl, rfl, by rw [List.append_nil] at hsp; exact hsp, hm1, hm2⟩
  | cons y r =>
    have e1 : ((K : Int) < ((t0 :: lt).length : Nat)) := by rw [hll, List.length_cons]; omega
    have i1 : (t0 :: lt)[m1.length]? = some x0 := by rw [hsp, List.append_assoc]; exact at_app ..
    have i2 : (t0 :: lt)[K]? = some y := by rw [hsp, ← hK]; exact at_app ..
    obtain ⟨c1, hc1, s1, rfl, _⟩ := hl.get i1
    obtain ⟨c2, hc2, s2, rfl, _⟩ := hl.get i2
    obtain ⟨b1, o1, q1, q2, ce1, e1', n1, q3, q4, q5, q6⟩ := tl_at hv h2 hc1
    obtain ⟨b2, o2, p1, p2, ce2, e2', n2, p3, p4, p5, p6⟩ := tl_at hv h2 hc2
    by_cases hlt : y.wt < x0.wt
    · simp (maxSteps := 1000000) (disch := first | omega | (simp only [Fw.z1, Fw.z2, Fw.z3, Fw.z4, Fw.z5, Fw.z6, Fw.z7] <;> omega) | fail) only [go_sem, g0, g3, g4, hlenU, e1]
      refine aw_draw (by kernel_rfl) ?_
      simp (maxSteps := 1000000) (disch := first | omega | (simp only [Fw.z1, Fw.z2, Fw.z3, Fw.z4, Fw.z5, Fw.z6, Fw.z7] <;> omega) | fail) only [go_sem, g0, g3, g4, q2, q3, q5, p2, p3, p5, hlt]
      refine ⟨r.length, by simp, _, m1 ++ x0 :: m2, [], r, y, rfl, rfl, by rw [hsp]; simp, fun z hz => ?_, fun z hz => (by cases hz), ?_, ?_, ?_⟩
      · rcases List.mem_append.1 hz with hz | hz
        · have := hm1 z hz; omega
        · rcases List.mem_cons.1 hz with rfl | hz
          · exact hlt
          · have := hm2 z hz; omega
      · simp (maxSteps := 1000000) (disch := first | omega | (simp only [Fw.z1, Fw.z2, Fw.z3, Fw.z4, Fw.z5, Fw.z6, Fw.z7] <;> omega) | fail) only [go_sem, g0]
      · simp (maxSteps := 1000000) (disch := first | omega | (simp only [Fw.z1, Fw.z2, Fw.z3, Fw.z4, Fw.z5, Fw.z6, Fw.z7] <;> omega) | fail) only [go_sem, hK]
      · simp (maxSteps := 1000000) (disch := first | omega | (simp only [Fw.z1, Fw.z2, Fw.z3, Fw.z4, Fw.z5, Fw.z6, Fw.z7] <;> omega) | fail) only [go_sem]
        rw [List.length_append, hK]; rfl
    · simp (maxSteps := 1000000) (disch := first | omega | (simp only [Fw.z1, Fw.z2, Fw.z3, Fw.z4, Fw.z5, Fw.z6, Fw.z7] <;> omega) | fail) only [go_sem, g0, g3, g4, hlenU, e1]
      refine aw_draw (by kernel_rfl) ?_
      simp (maxSteps := 1000000) (disch := first | omega | (simp only [Fw.z1, Fw.z2, Fw.z3, Fw.z4, Fw.z5, Fw.z6, Fw.z7] <;> omega) | fail) only [go_sem, g0, g3, g4, q2, q3, q5, p2, p3, p5, hlt]
      refine ⟨r.length, by simp, _, m1, m2 ++ [y], r, x0, rfl, rfl, by rw [hsp]; simp, hm1, fun z hz => ?_, ?_, ?_, ?_⟩
      · rcases List.mem_append.1 hz with hz | hz
        · exact hm2 z hz
        · rw [List.mem_singleton.1 hz]; exact Int.not_lt.1 hlt
      · simp (maxSteps := 1000000) (disch := first | omega | (simp only [Fw.z1, Fw.z2, Fw.z3, Fw.z4, Fw.z5, Fw.z6, Fw.z7] <;> omega) | fail) only [go_sem, g0]
      · simp (maxSteps := 1000000) (disch := first | omega | (simp only [Fw.z1, Fw.z2, Fw.z3, Fw.z4, Fw.z5, Fw.z6, Fw.z7] <;> omega) | fail) only [go_sem, g3]
      · simp (maxSteps := 1000000) (disch := first | omega | (simp only [Fw.z1, Fw.z2, Fw.z3, Fw.z4, Fw.z5, Fw.z6, Fw.z7] <;> omega) | fail) only [go_sem]
        rw [show m1 ++ x0 :: (m2 ++ [y]) = (m1 ++ x0 :: m2) ++ [y] by simp, List.length_append, hK]; rfl
theorem tr_push {A : St} {lo : Nat} {css : List (List Value)} {cs : List Value} {v : Value} (h : Row A 118 2 lo css.flatten css.length v) (hx : W2 cs) (hlo : lo ≤ A.next) (hl : css.length ≤ 1000000) :
    ∃ v' A', aappend Try.prog (A.alloc (.cells cs 118 (some 0))) 116 116 v (.slice (some ⟨A.next, 0, none⟩) 1 1) = some (v', A') ∧ Row A' 118 2 lo (css ++ [cs]).flatten (css ++ [cs]).length v' ∧ A'.next = A.next + 2 ∧ rowB v' = some (A.next + 1) ∧ ∀ b, b < A.next → rowB v ≠ some b → A'.get b = A.get b := by
  obtain ⟨v', A2, hap, hr2, hn2, hrb, hf2⟩ := row_push (A := A) (sp := none) (c := 1) (xs := cs) Try.el116 Try.underlying116 (by intro k; exact TypeDesc.noConfusion) Try.sz118 Try.byt118 Try.zero118 rfl h hlo (by omega) (by omega) hx.cell hx.len
  refine ⟨v', A2, hap, ?_, hn2, hrb, hf2⟩
  rw [List.flatten_append, List.length_append]
  simpa using hr2
set_option maxHeartbeats 4000000 in
theorem rtake_ok (w0 : World) (A : St) (c1 c2 : List (List Value)) (cs : List Value) (v : Value) (hw2 : ∀ c ∈ c1 ++ cs :: c2, W2 c) (hv : View A 2 (c1 ++ cs :: c2).flatten (c1 ++ cs :: c2).length v) (hlen : (c1 ++ cs :: c2).length ≤ 1000000) :
    ACalls Try.prog w0 62 #[v, .int .i64 (c1.length : Nat)] A fun e A' => ∃ v', e = .returned (.tuple #[.agg cs.toArray, v']) ∧ Over A A' ∧ Row A' 118 2 A.next (c1 ++ c2).flatten (c1 ++ c2).length v' := by
  refine call_E (l := [v, .int .i64 (c1.length : Nat)]) Try.enters62 Try.func62 rfl (Nat.le_of_ble_eq_true rfl) fun hw hbd => ?_
  generalize hC : c1 ++ cs :: c2 = C at *
  have hlenU : ∀ X, lenU X (some (.slice 118)) v = some (.int .i64 C.length, X) := fun X => View.lenX hv X
  have h2 : ∀ c ∈ C, c.length = 2 := fun c hc => (hw2 c hc).len
  have hCl : C.length = c1.length + (c2.length + 1) := by rw [← hC, List.length_append, List.length_cons]
  have hat : C[c1.length]? = some cs := by rw [← hC]; exact at_app ..
  have hfin : C.eraseIdx c1.length = c1 ++ c2 := by rw [← hC, List.eraseIdx_append_of_length_le (Nat.le_refl _), Nat.sub_self]; rfl
  have hskip : (C.take (c1.length + 1)).eraseIdx c1.length = (C.take c1.length).eraseIdx c1.length := by
    have hl : (C.take c1.length).length = c1.length := List.length_take_of_le (by omega)
    rw [List.take_add_one, hat]
    show (C.take c1.length ++ [cs]).eraseIdx _ = _
    rw [List.eraseIdx_append_of_length_le (by omega), hl, Nat.sub_self, List.eraseIdx_of_length_le (l := C.take c1.length) (by omega)]
    exact List.append_nil _
  have hstep : ∀ i c, C[i]? = some c → i ≠ c1.length → (C.take (i + 1)).eraseIdx c1.length = (C.take i).eraseIdx c1.length ++ [c] := fun i c hi hne => by
    have hlt := (List.getElem?_eq_some_iff.1 hi).1
    have hl : (C.take i).length = i := List.length_take_of_le (by omega)
    rw [List.take_add_one, hi]
    show (C.take i ++ [c]).eraseIdx _ = _
    rcases Nat.lt_or_ge c1.length i with h | h
    · rw [List.eraseIdx_append_of_lt_length (by omega)]
    · rw [List.eraseIdx_of_length_le (by rw [List.length_append, hl, List.length_singleton]; omega), List.eraseIdx_of_length_le (by omega)]
  simp (maxSteps := 1000000) (disch := first | omega | (simp only [Fw.z1, Fw.z2, Fw.z3, Fw.z4, Fw.z5, Fw.z6, Fw.z7] <;> omega) | fail) only [go_sem, Try.ntmps62, Try.results62]
  refine aw_loop (fun m x A' => ∃ (ρ : Nat → Value) (i : Nat) (ov : Value), x = E 30 ρ [] ∧ m = C.length - i ∧ i ≤ C.length ∧ A.next + 1 ≤ A'.next ∧ (∀ b, b < A.next → A'.get b = A.get b) ∧ A'.get A.next = some (.cells [.int .i64 0, .slice none 0 0] 118 (some 0)) ∧ Row A' 118 2 (A.next + 1) ((C.take i).eraseIdx c1.length).flatten ((C.take i).eraseIdx c1.length).length ov ∧
      ρ 0 = v ∧ ρ 1 = .int .i64 (c1.length : Nat) ∧ ρ 4 = .pointer (some ⟨A.next, 0, none⟩) ∧ ρ 6 = ov ∧ ρ 7 = .int .i64 i) C.length
    ⟨_, 0, _, rfl, rfl, Nat.zero_le _, by simp only [nx_alloc]; omega, fun b hb => by rw [get_alloc_old (by simp only [nx_alloc]; omega), get_alloc_old hb], by rw [get_alloc_old (by simp only [nx_alloc]; omega)]; exact get_alloc_same .., ⟨rfl, .inr ⟨A.next + 1, none, rfl, .inl rfl, Nat.le_refl _, by simp only [nx_alloc]; omega, get_alloc_same ..⟩⟩, rfl, rfl, rfl, rfl, rfl⟩ ?_
  rintro m x A' ⟨ρ, i, ov, rfl, hm, hi, hn1, hov, hg4, hr, g0, g1, g4, g6, g7⟩
  refine aw_of ?_
  have hvA : View A' 2 C.flatten C.length v := View.over hv ⟨by omega, hov⟩
  by_cases hend : i = C.length
  · have e1 : ¬ ((i : Int) < (C.length : Nat)) := by omega
    obtain ⟨b1, o1, q1, q2, ce1, e1', n1, q3, q4, q5, q6⟩ := tl_at hvA h2 hat
    rw [hend, List.take_length, hfin] at hr
    have hcs := hw2 cs (List.mem_of_getElem? hat)
    obtain ⟨wt, sv, rfl, hsv⟩ := hcs
    simp (maxSteps := 1000000) (disch := first | omega | (simp only [Fw.z1, Fw.z2, Fw.z3, Fw.z4, Fw.z5, Fw.z6, Fw.z7] <;> omega) | fail) only [go_sem, g0, g1, g4, g6, g7, hlenU, e1, q2, q3, q4, hg4, hsv, Try.results62]
    exact gc_here ⟨ov, rfl, ⟨by rw [nx_upd]; omega, fun b hb => (get_upd_old (by omega)).trans (hov b hb)⟩, hr.keep (Nat.le_refl _) (fun b _ hb _ => get_upd_old (by omega)) (by omega)⟩
  have e1 : ((i : Int) < (C.length : Nat)) := by omega
  by_cases hic : i = c1.length
  · have e2 : ¬ ((i : Int) ≠ (c1.length : Nat)) := by omega
    simp (maxSteps := 1000000) (disch := first | omega | (simp only [Fw.z1, Fw.z2, Fw.z3, Fw.z4, Fw.z5, Fw.z6, Fw.z7] <;> omega) | fail) only [go_sem, g0, g1, g4, g6, g7, hlenU, e1, e2]
    refine ⟨m - 1, by omega, _, i + 1, ov, rfl, by omega, by omega, hn1, hov, hg4, ?_, ?_, ?_, ?_, ?_, ?_⟩
    · rw [hic] at hr ⊢
      rw [hskip]; exact hr
    · simp (maxSteps := 1000000) (disch := first | omega | (simp only [Fw.z1, Fw.z2, Fw.z3, Fw.z4, Fw.z5, Fw.z6, Fw.z7] <;> omega) | fail) only [go_sem, g0]
    · simp (maxSteps := 1000000) (disch := first | omega | (simp only [Fw.z1, Fw.z2, Fw.z3, Fw.z4, Fw.z5, Fw.z6, Fw.z7] <;> omega) | fail) only [go_sem, g1]
    · simp (maxSteps := 1000000) (disch := first | omega | (simp only [Fw.z1, Fw.z2, Fw.z3, Fw.z4, Fw.z5, Fw.z6, Fw.z7] <;> omega) | fail) only [go_sem, g4]
    · simp (maxSteps := 1000000) (disch := first | omega | (simp only [Fw.z1, Fw.z2, Fw.z3, Fw.z4, Fw.z5, Fw.z6, Fw.z7] <;> omega) | fail) only [go_sem, g6]
    · simp (maxSteps := 1000000) (disch := first | omega | (simp only [Fw.z1, Fw.z2, Fw.z3, Fw.z4, Fw.z5, Fw.z6, Fw.z7] <;> omega) | fail) only [go_sem]
      rfl
  have e2 : ((i : Int) ≠ (c1.length : Nat)) := by omega
  obtain ⟨c, hci⟩ : ∃ c, C[i]? = some c := ⟨_, List.getElem?_eq_getElem (by omega)⟩
  obtain ⟨b1, o1, q1, q2, ce1, e1', n1, q3, q4, q5, q6⟩ := tl_at hvA h2 hci
  have hcw := hw2 c (List.mem_of_getElem? hci)
  have hll : ((C.take i).eraseIdx c1.length).length ≤ 1000000 := Nat.le_trans (List.length_eraseIdx_le ..) (Nat.le_trans (List.length_take_le ..) (by omega))
  obtain ⟨v', A2, p1, p2, p3, p4, p5⟩ := tr_push hr hcw hn1 hll
  rw [← hstep i c hci hic] at p2
  obtain ⟨wt, sv, rfl, hsv⟩ := hcw
  simp (maxSteps := 1000000) (disch := first | omega | (simp only [Fw.z1, Fw.z2, Fw.z3, Fw.z4, Fw.z5, Fw.z6, Fw.z7] <;> omega) | fail) only [go_sem, g0, g1, g4, g6, g7, hlenU, e1, e2, q2, q3, q4, p1]
  refine ⟨m - 1, by omega, _, i + 1, v', rfl, by omega, by omega, by omega, fun b hb => ?_, ?_, p2, ?_, ?_, ?_, ?_, ?_⟩
  · rw [p5 b (by omega) (hr.ne (by omega))]; exact hov b hb
  · rw [p5 _ (by omega) (hr.ne (by omega))]; exact hg4
  · simp (maxSteps := 1000000) (disch := first | omega | (simp only [Fw.z1, Fw.z2, Fw.z3, Fw.z4, Fw.z5, Fw.z6, Fw.z7] <;> omega) | fail) only [go_sem, g0]
  · simp (maxSteps := 1000000) (disch := first | omega | (simp only [Fw.z1, Fw.z2, Fw.z3, Fw.z4, Fw.z5, Fw.z6, Fw.z7] <;> omega) | fail) only [go_sem, g1]
  · simp (maxSteps := 1000000) (disch := first | omega | (simp only [Fw.z1, Fw.z2, Fw.z3, Fw.z4, Fw.z5, Fw.z6, Fw.z7] <;> omega) | fail) only [go_sem, g4]
  · simp (maxSteps := 1000000) (disch := first | omega | (simp only [Fw.z1, Fw.z2, Fw.z3, Fw.z4, Fw.z5, Fw.z6, Fw.z7] <;> omega) | fail) only [go_sem]
  · simp (maxSteps := 1000000) (disch := first | omega | (simp only [Fw.z1, Fw.z2, Fw.z3, Fw.z4, Fw.z5, Fw.z6, Fw.z7] <;> omega) | fail) only [go_sem]
    rfl
end Go.Fw

set_option linter.unusedSimpArgs false
set_option linter.unusedVariables false
set_option maxRecDepth 4000
namespace Go.Fw
open Go.Proofs Go.RowKit
/-! The document's list of trees, and its row of depths: the heap. -/
theorem Row.keepT {A A' : St} {e sz lo lo' : Nat} {cs : List Value} {len : Nat} {v : Value} (h : Row A e sz lo cs len v) (hn : A.next ≤ A'.next) (hg : ∀ b cs, lo ≤ b → b < A.next → A.get b = some (.cells cs e (some 0)) → A'.get b = A.get b) (hl : lo' ≤ lo) : Row A' e sz lo' cs len v := by
  refine ⟨h.1, ?_⟩
  rcases h.2 with h | ⟨b, sp, rfl, h1, h2, h3, h4⟩
  · exact .inl h
  · exact .inr ⟨b, sp, rfl, h1, by omega, by omega, by rw [hg b cs h2 h3 h4]; exact h4⟩
theorem Row.tag {A : St} {e e' sz lo b : Nat} {cs cs' : List Value} {len : Nat} {v : Value} (h : Row A e sz lo cs len v) (he : e ≠ e') (hb : A.get b = some (.cells cs' e' (some 0))) : rowB v ≠ some b := by
  rcases h.2 with ⟨_, rfl⟩ | ⟨b', sp, rfl, h1, h2, h3, h4⟩
  · exact fun h => by cases h
  · intro h
    injection h with h
    subst h
    rw [hb] at h4
    injection h4 with h4
    injection h4 with _ h4 _
    exact he h4.symm
def rbL (v : Value) : List Nat := (rowB v).toList
theorem mem_rbL {v : Value} {b : Nat} : b ∈ rbL v ↔ rowB v = some b := by
  unfold rbL; cases rowB v <;> simp [eq_comm]
/-- Blocks of numbers stay. -/
def KpI (B B' : St) : Prop := B.next ≤ B'.next ∧ ∀ b cs, b < B.next → B.get b = some (.cells cs 3 (some 0)) → B'.get b = B.get b
theorem KpI.ge {B B' : St} (h : Ge B B') : KpI B B' := ⟨h.next, fun b cs hb hx => (h.get b _ hb hx).trans hx.symm⟩
theorem KpI.hide {A A' : St} {L L' : List Nat} (hn : A.next ≤ A'.next) (hg : ∀ b cs, b < A.next → b ∉ L → A.get b = some (.cells cs 3 (some 0)) → b ∉ L' ∧ A'.get b = A.get b) : KpI (A.hide L) (A'.hide L') := by
  refine ⟨by rw [hide_next, hide_next]; exact hn, fun b cs hb hx => ?_⟩
  rw [hide_next] at hb
  rw [hide_get] at hx ⊢
  by_cases h : b ∈ L
  · rw [if_pos h] at hx; cases hx
  · rw [if_neg h] at hx
    obtain ⟨h1, h2⟩ := hg b cs hb h hx
    rw [if_neg h1, h2, hide_get, if_neg h]
def symC (t : HT) : List Value := t.syms.map fun s : Nat => Value.int .i64 (s : Int)
theorem symC_cell (t : HT) : (symC t).all cell1 = true := by unfold symC; rw [List.all_map, List.all_eq_true]; intro x _; rfl
/-- A tree's cells. -/
def TrR (A : St) (lo : Nat) (t : HT) (cs : List Value) : Prop := ∃ sv, cs = [.int .i64 t.wt, sv] ∧ Row A 3 1 lo (symC t) t.syms.length sv
theorem TrR.wt {A : St} {lo : Nat} {t : HT} {cs : List Value} (h : TrR A lo t cs) : WtC t cs := by
  obtain ⟨sv, rfl, h⟩ := h
  refine ⟨sv, rfl, ?_⟩
  rcases h.2 with ⟨_, rfl⟩ | ⟨_, _, rfl, _⟩ <;> rfl
theorem TrR.kp {B B' : St} {lo : Nat} {t : HT} {cs : List Value} (h : TrR B lo t cs) (k : KpI B B') : TrR B' lo t cs := by
  obtain ⟨sv, rfl, h⟩ := h
  exact ⟨sv, rfl, h.keepT k.1 (fun b cs _ hb hx => k.2 b cs hb hx) (Nat.le_refl _)⟩
structure DI (A A' : St) (o : List Int) (ov : Value) (l : List HT) (v : Value) : Prop where
  nx : A.next ≤ A'.next
  get : ∀ b, b < A.next → A'.get b = A.get b
  out : Row A' 3 1 A.next (o.map (Value.int .i64 ·)) o.length ov
  row : ∃ css, All2 (TrR (A'.hide (rbL ov)) A.next) l css ∧ Row A' 118 2 A.next css.flatten css.length v
theorem DI.zero {A A' : St} {o : List Int} {ov : Value} {l : List HT} {v : Value} (h : DI A A' o ov l v) (ho : o.length ≤ 1000000) :
    ∃ ov' A2, aappend Try.prog (A'.alloc (.cells [.int .i64 0] 3 (some 0))) 35 35 ov (.slice (some ⟨A'.next, 0, none⟩) 1 1) = some (ov', A2) ∧ DI A A2 (o ++ [0]) ov' l v := by
  obtain ⟨v', A2, h1, h2, h3, h4, h5⟩ := row_push (A := A') (sp := none) (c := 1) (xs := [.int .i64 0]) Try.el35 Try.underlying35 (by intro k; exact TypeDesc.noConfusion) Try.sz3 Try.byt3 Try.zero3 rfl h.out h.nx (by omega) (by omega) rfl rfl
  obtain ⟨css, ha, hr⟩ := h.row
  have hnx := h.nx
  refine ⟨v', A2, h1, ⟨by omega, fun b hb => (h5 b (by omega) (h.out.ne hb)).trans (h.get b hb), by rw [List.map_append, List.length_append]; exact h2, css, ha.imp fun t cs ht => ht.kp (KpI.hide (by omega) fun b cs hb hL _ => ⟨fun e => ?_, h5 b hb fun e => hL (mem_rbL.2 e)⟩), hr.keepT (by omega) (fun b cs _ hb hx => h5 b hb (h.out.tag (by decide) hx)) (Nat.le_refl _)⟩⟩
  have e := mem_rbL.1 e
  rw [h4] at e
  cases e
  omega
theorem DI.leaf {A A' : St} {o : List Int} {ov : Value} {l : List HT} {v : Value} (h : DI A A' o ov l v) (f : Int) (i : Nat) (hl : l.length ≤ 1000000) :
    ∃ v' A2, aappend Try.prog ((A'.alloc (.cells [.int .i64 i] 3 (some 0))).alloc (.cells [.int .i64 f, .slice (some ⟨A'.next, 0, none⟩) 1 1] 118 (some 0))) 116 116 v (.slice (some ⟨A'.next + 1, 0, none⟩) 1 1) = some (v', A2) ∧ DI A A2 o ov (l ++ [.leaf f i]) v' := by
  obtain ⟨css, ha, hr⟩ := h.row
  have hcl := ha.length
  have hnx := h.nx
  have o1 : Over A' (A'.alloc (.cells [.int .i64 i] 3 (some 0))) := (Over.refl A').alloc _
  obtain ⟨v', A2, h1, h2, h3, h4, h5⟩ := tr_push (A := A'.alloc (.cells [.int .i64 i] 3 (some 0))) (cs := [.int .i64 f, .slice (some ⟨A'.next, 0, none⟩) 1 1]) (hr.over o1) ⟨f, _, rfl, rfl⟩ (by rw [nx_alloc]; omega) (by omega)
  rw [nx_alloc] at h3 h4 h5
  have hob : ∀ b, rowB ov = some b → b < A'.next := fun b hb => (h.out.rb b hb).2
  have kk : KpI ((A'.alloc (.cells [.int .i64 i] 3 (some 0))).hide (rbL ov)) (A2.hide (rbL ov)) := KpI.hide (by rw [nx_alloc]; omega) fun b cs hb hL hx => ⟨hL, h5 b hb ((hr.over o1).tag (by decide) hx)⟩
  refine ⟨v', A2, by rw [nx_alloc] at h1; exact h1, ⟨by omega, fun b hb => ?_, (h.out.over o1).keepT (by rw [nx_alloc]; omega) (fun b cs _ hb hx => h5 b hb ((hr.over o1).tag (by decide) hx)) (Nat.le_refl _), css ++ [[.int .i64 f, .slice (some ⟨A'.next, 0, none⟩) 1 1]], All2.app (ha.imp fun t cs ht => (ht.kp (KpI.ge (hide_over o1 _))).kp kk) (.cons (TrR.kp ?_ kk) .nil), h2⟩⟩
  · rw [h5 b (by omega) (hr.ne hb), get_alloc_old (by omega)]; exact h.get b hb
  · refine ⟨_, rfl, rfl, .inr ⟨A'.next, none, rfl, .inl rfl, hnx, by rw [hide_next, nx_alloc]; omega, ?_⟩⟩
    rw [hide_get, if_neg (fun e => by have := hob _ (mem_rbL.1 e); omega)]
    exact get_alloc_same ..
/-- A row of numbers, some of them one more. -/
def incL (ss : List Nat) (o : List Int) : List Int := ss.foldl (fun o s => o.set s (o.getD s 0 + 1)) o
theorem incL_len : ∀ (ss : List Nat) (o : List Int), (incL ss o).length = o.length
  | [], o => rfl
  | s :: ss, o => by unfold incL; rw [List.foldl_cons]; exact (incL_len ss _).trans (List.length_set ..)
theorem incL_snoc (ss : List Nat) (s : Nat) (o : List Int) : incL (ss ++ [s]) o = (incL ss o).set s ((incL ss o).getD s 0 + 1) := by unfold incL; rw [List.foldl_append]; rfl
theorem incL_at : ∀ (ss : List Nat) (o : List Int) (s : Nat) (x : Int), o[s]? = some x → (incL ss o)[s]? = some (x + (ss.count s : Nat))
  | [], o, s, x, h => by unfold incL; simp [h]
  | j :: ss, o, s, x, h => by
    have hs := (List.getElem?_eq_some_iff.1 h).1
    unfold incL
    rw [List.foldl_cons]
    by_cases hj : j = s
    · subst hj
      have e : (o.set j (o.getD j 0 + 1))[j]? = some (x + 1) := by
        rw [List.getElem?_set_self hs, List.getD_eq_getElem?_getD, h]; rfl
      refine (incL_at ss _ j (x + 1) e).trans ?_
      rw [List.count_cons_self]; congr 1; omega
    · have e : (o.set j (o.getD j 0 + 1))[s]? = some x := by rw [List.getElem?_set_ne hj]; exact h
      refine (incL_at ss _ s x e).trans ?_
      rw [List.count_cons_of_ne hj]
theorem cnt_syms (s : Nat) : ∀ t : HT, cntS s t = (t.syms.count s : Nat)
  | .leaf _ j => by
    unfold cntS HT.syms
    by_cases h : j = s
    · subst h; simp
    · rw [if_neg h, List.count_cons_of_ne h]; rfl
  | .br _ a b => by unfold cntS HT.syms; rw [List.count_append, cnt_syms s a, cnt_syms s b]; omega
theorem sumG_cut (g : HT → Int) (l1 : List HT) (x : HT) (l2 : List HT) : sumG g (l1 ++ x :: l2) = g x + sumG g (l1 ++ l2) := by rw [sumG_app, sumG_app, sumG_cons]; omega
theorem dpt_sum {s : Nat} : ∀ {l : List HT}, sumG (cntS s) l ≤ 1 → sumG (dpt s) l ≤ sumG HT.cnt l
  | [], _ => Int.le_refl _
  | t :: l, h => by
    rw [sumG_cons] at h
    have h1 := cntS_nn s t
    have h2 : 0 ≤ sumG (cntS s) l := sumG_nn _ fun t _ => cntS_nn s t
    have h3 := dpt_sum (s := s) (l := l) (by omega)
    have h4 := dpt_ht s t (by omega)
    have h5 := ht_cnt t
    rw [sumG_cons, sumG_cons]; omega
theorem DI.push {A A' : St} {o : List Int} {ov : Value} {l : List HT} {v : Value} (h : DI A A' o ov l v) {t : HT} {cs : List Value} (ht : TrR (A'.hide (rbL ov)) A.next t cs) (hl : l.length ≤ 1000000) :
    ∃ v' A2, aappend Try.prog (A'.alloc (.cells cs 118 (some 0))) 116 116 v (.slice (some ⟨A'.next, 0, none⟩) 1 1) = some (v', A2) ∧ DI A A2 o ov (l ++ [t]) v' := by
  obtain ⟨css, ha, hr⟩ := h.row
  have hcl := ha.length
  have hnx := h.nx
  obtain ⟨v', A2, h1, h2, h3, h4, h5⟩ := tr_push (A := A') (cs := cs) hr ht.wt.w2 h.nx (by omega)
  have kk : KpI (A'.hide (rbL ov)) (A2.hide (rbL ov)) := KpI.hide (by omega) fun b cs hb hL hx => ⟨hL, h5 b hb (hr.tag (by decide) hx)⟩
  exact ⟨v', A2, h1, ⟨by omega, fun b hb => by rw [h5 b (by omega) (hr.ne hb)]; exact h.get b hb, h.out.keepT (by omega) (fun b cs _ hb hx => h5 b hb (hr.tag (by decide) hx)) (Nat.le_refl _), css ++ [cs], All2.app (ha.imp fun t cs ht => ht.kp kk) (.cons (ht.kp kk) .nil), h2⟩⟩
/-- The symbols of two trees, one after the other. -/
theorem both_heap {B : St} {lo na nb : Nat} {ca cb : List Value} {sva svb : Value} (X : Blk) (w : Int) (ha : Row B 3 1 lo ca na sva) (hb : Row B 3 1 lo cb nb svb) (hca : ca.all cell1 = true) (hcb : cb.all cell1 = true) (hna : na ≤ 1000000) (hnb : nb ≤ 1000000) :
    ∃ v1 A4, aappend Try.prog ((B.alloc X).upd B.next (some (.cells [.int .i64 w, .slice none 0 0] 118 (some 0)))) 35 35 (.slice none 0 0) sva = some (v1, A4) ∧ A4.get B.next = some (.cells [.int .i64 w, .slice none 0 0] 118 (some 0)) ∧ one1 v1 = true ∧ Over B (A4.upd B.next (some (.cells [.int .i64 w, v1] 118 (some 0)))) ∧
    ∃ v2 A5, aappend Try.prog (A4.upd B.next (some (.cells [.int .i64 w, v1] 118 (some 0)))) 35 35 v1 svb = some (v2, A5) ∧ A5.get B.next = some (.cells [.int .i64 w, v1] 118 (some 0)) ∧ one1 v2 = true ∧
    Over B (A5.upd B.next (some (.cells [.int .i64 w, v2] 118 (some 0)))) ∧ Row (A5.upd B.next (some (.cells [.int .i64 w, v2] 118 (some 0)))) 3 1 (B.next + 1) (ca ++ cb) (na + nb) v2 ∧ B.next < A5.next := by
  have o3 : Over B ((B.alloc X).upd B.next (some (.cells [.int .i64 w, .slice none 0 0] 118 (some 0)))) := ((Over.refl B).alloc X).upd (Nat.le_refl _) _
  obtain ⟨v1, A4, a1, a2, a3, a4, a5, a6⟩ := row_src (A := (B.alloc X).upd B.next (some (.cells [.int .i64 w, .slice none 0 0] 118 (some 0)))) (lo := B.next + 1) (x := sva) (m := na) (new := ca) Try.el35 Try.underlying35 (by intro k; exact TypeDesc.noConfusion) Try.sz3 Try.byt3 Try.zero3 rfl (Row.nil _ _ _ _) (by rw [nx_upd, nx_alloc]; omega) (View.src ((ha.over o3).view)) (by have := ha.1; omega) (by omega) (by omega) hca
  rw [nx_upd, nx_alloc] at a3 a4
  have g4 : A4.get B.next = some (.cells [.int .i64 w, .slice none 0 0] 118 (some 0)) := (a4 _ (by omega) (by intro h; cases h)).trans (get_upd_same ..)
  have r1 := a2.rb
  have o4 : Over B (A4.upd B.next (some (.cells [.int .i64 w, v1] 118 (some 0)))) := ⟨by rw [nx_upd]; omega, fun b hb => by
    rw [get_upd_old (by omega), a4 b (by omega) (by intro h; cases h)]; exact o3.get b hb⟩
  have a2' : Row (A4.upd B.next (some (.cells [.int .i64 w, v1] 118 (some 0)))) 3 1 (B.next + 1) ([] ++ ca) (0 + na) v1 := a2.keep (Nat.le_refl _) (fun b _ hb _ => get_upd_old (by omega)) (Nat.le_refl _)
  obtain ⟨v2, A5, b1, b2, b3, b4, b5, b6⟩ := row_src (A := A4.upd B.next (some (.cells [.int .i64 w, v1] 118 (some 0)))) (lo := B.next + 1) (x := svb) (m := nb) (new := cb) Try.el35 Try.underlying35 (by intro k; exact TypeDesc.noConfusion) Try.sz3 Try.byt3 Try.zero3 rfl a2' (by rw [nx_upd]; omega) (View.src ((hb.over o4).view)) (by have := hb.1; omega) (by omega) (by omega) hcb
  rw [nx_upd] at b3 b4
  have ne1 : ∀ b, b ≤ B.next → rowB v1 ≠ some b := fun b hb e => by have := (r1 b e).1; omega
  have g5 : A5.get B.next = some (.cells [.int .i64 w, v1] 118 (some 0)) := (b4 _ (by omega) (ne1 _ (Nat.le_refl _))).trans (get_upd_same ..)
  refine ⟨v1, A4, a1, g4, a2.sing, o4, v2, A5, b1, g5, b2.sing, ⟨by rw [nx_upd]; omega, fun b hb => ?_⟩, ?_, by omega⟩
  · rw [get_upd_old (by omega), b4 b (by omega) (ne1 b (by omega))]; exact o4.get b hb
  · have := b2.keep (A' := A5.upd B.next (some (.cells [.int .i64 w, v2] 118 (some 0)))) (Nat.le_refl _) (fun b _ hb _ => get_upd_old (by omega)) (Nat.le_refl _)
    rw [List.nil_append, Nat.zero_add na] at this
    exact this
theorem QOk.cut {n : Nat} {l1 : List HT} {x : HT} {l2 : List HT} (h : QOk n [] (l1 ++ x :: l2)) : QOk n [] (l1 ++ l2) ∧ (0 ≤ x.wt ∧ ∀ s ∈ x.syms, s < n) ∧ x.wt + sumG HT.wt (l1 ++ l2) ≤ 1099511627776 ∧ x.cnt + sumG HT.cnt (l1 ++ l2) ≤ 1000 := by
  have hw := h.wt
  have hc := h.cnt
  rw [sumG_nil, sumG_cut] at hw hc
  have hx := h.nn x (.inr (by simp))
  have hp := cnt_pos x
  refine ⟨⟨fun t ht => h.nn t (.inr ?_), ?_, ?_⟩, hx, by omega, by omega⟩
  · rcases ht with ht | ht
    · cases ht
    · rcases List.mem_append.1 ht with ht | ht
      · exact List.mem_append_left _ ht
      · exact List.mem_append_right _ (List.mem_cons_of_mem _ ht)
  · rw [sumG_nil]; have := hx.1; omega
  · rw [sumG_nil]; omega
end Go.Fw

set_option linter.unusedSimpArgs false
set_option linter.unusedVariables false
set_option maxRecDepth 4000
namespace Go.Fw
open Go.Proofs Go.RowKit
/-! depths of the document: what it answers. -/
theorem Try.enters42 : Enters Try.prog 42 := enters_of Try.func42 rfl (by kernel_rfl)
theorem DI.block {A A' : St} {o : List Int} {ov : Value} {l : List HT} {v : Value} (h : DI A A' o ov l v) (hn : 0 < o.length) : ∃ ob sp, ov = .slice (some ⟨ob, 0, sp⟩) o.length o.length ∧ A.next ≤ ob ∧ ob < A'.next ∧ A'.get ob = intB o ∧ (∀ i : Nat, i < o.length → indexAddrU Try.prog (some (.slice 3)) ov (.int .i64 i) = some (.pointer (some ⟨ob, i, none⟩))) ∧
    ∀ o', o'.length = o.length → DI A (A'.upd ob (intB o')) o' ov l v := by
  have hout := h.out
  rcases hout.2 with ⟨h0, _⟩ | ⟨ob, sp, rfl, h1, h2, h3, h4⟩
  · omega
  · refine ⟨ob, sp, rfl, h2, h3, h4, fun i hi => ?_, fun o' ho' => ⟨h.nx, fun b hb => (get_upd_old (by omega)).trans (h.get b hb), ?_, ?_⟩⟩
    · refine (indexAddr_slice Try.prog .i64 3 ob 0 sp o.length o.length i (by omega) (by omega)).trans ?_
      rw [Try.sz3]; simp
    · exact ⟨by rw [List.length_map, Nat.mul_one], .inr ⟨ob, sp, by rw [ho'], h1, h2, h3, get_upd_same ..⟩⟩
    · obtain ⟨css, ha, hr⟩ := h.row
      refine ⟨css, ha.imp fun t cs ht => ht.kp (KpI.hide (Nat.le_refl _) fun b cs hb hL _ => ⟨hL, get_upd_old fun e => hL (by rw [e]; exact mem_rbL.2 rfl)⟩), hr.keepT (Nat.le_refl _) (fun b cs _ hb hx => get_upd_old fun e => ?_) (Nat.le_refl _)⟩
      rw [e, h4] at hx
      injection hx with hx
      injection hx with _ hx
      exact absurd hx (by decide)
theorem All2.split {α β : Type} {R : α → β → Prop} : ∀ {l1 : List α} {x : α} {l2 : List α} {m : List β}, All2 R (l1 ++ x :: l2) m → ∃ m1 y m2, m = m1 ++ y :: m2 ∧ All2 R l1 m1 ∧ R x y ∧ All2 R l2 m2
  | [], x, l2, _, .cons h t => ⟨[], _, _, rfl, .nil, h, t⟩
  | a :: l1, x, l2, _, .cons h t => by
    obtain ⟨m1, y, m2, rfl, h1, h2, h3⟩ := All2.split (l1 := l1) t
    exact ⟨_ :: m1, y, m2, rfl, .cons h h1, h2, h3⟩
set_option maxHeartbeats 8000000 in
theorem rdepths_ok (w0 : World) (A : St) (f : List Int) (v : Value) (hv : InView A f v) (hf : ∀ x ∈ f, 0 ≤ x ∧ x ≤ 1048576) (hn : f.length ≤ 1000) :
    ACalls Try.prog w0 42 #[v] A (RowPost A (grownP f)) := by
  refine call_E (l := [v]) Try.enters42 Try.func42 rfl (Nat.le_of_ble_eq_true rfl) fun hw hbd => ?_
  have hlen : ∀ X, lenU X (some (.slice 3)) v = some (.int .i64 f.length, X) := View.lenX hv
  have hvx : ∀ A' : St, A.next ≤ A'.next → (∀ b, b < A.next → A'.get b = A.get b) → InView A' f v := fun A' h1 h2 => View.over hv ⟨h1, h2⟩
  simp (maxSteps := 1000000) (disch := first | omega | (simp only [Fw.z1, Fw.z2, Fw.z3, Fw.z4, Fw.z5, Fw.z6, Fw.z7] <;> omega) | fail) only [go_sem, Try.ntmps42, Try.results42]
  have hdi0 : DI A ((A.alloc (.cells [] 3 (some 0))).alloc (.cells [] 118 (some 0))) [] (.slice (some ⟨A.next, 0, none⟩) 0 0) [] (.slice (some ⟨A.next + 1, 0, none⟩) 0 0) := by
    refine ⟨by simp only [nx_alloc]; omega, fun b hb => by rw [get_alloc_old (by simp only [nx_alloc]; omega), get_alloc_old hb], ⟨rfl, .inr ⟨A.next, none, rfl, .inl rfl, Nat.le_refl _, by simp only [nx_alloc]; omega, ?_⟩⟩, [], .nil, rfl, .inr ⟨A.next + 1, none, rfl, .inl rfl, by omega, by simp only [nx_alloc]; omega, get_alloc_same ..⟩⟩
    rw [get_alloc_old (by rw [nx_alloc]; omega)]; exact get_alloc_same ..
  refine cutL 0 (fun a' A' => ∃ (ρ : Nat → Value) (ov lv : Value), a' = E 112 ρ [] ∧ DI A A' (List.replicate f.length 0) ov (leafs f 0) lv ∧ ρ 3 = ov ∧ ρ 4 = lv) ?_ ?_
  · refine aw_loop (fun m x A' => ∃ (ρ : Nat → Value) (i : Nat) (ov lv : Value), x = E 112 ρ [] ∧ m = f.length - i ∧ i ≤ f.length ∧ DI A A' (List.replicate i 0) ov (leafs (f.take i) 0) lv ∧ ρ 0 = v ∧ ρ 3 = ov ∧ ρ 4 = lv ∧ ρ 5 = .int .i64 i) f.length
      ⟨_, 0, _, _, rfl, rfl, Nat.zero_le _, by exact hdi0, rfl, rfl, rfl, rfl⟩ ?_
    clear hdi0
    rintro m x A' ⟨ρ, i, ov, lv, rfl, hm, hi, d, r0, r3, r4, r5⟩
    refine aw_of ?_
    have hlf := leafs_len (f.take i) 0
    have htk : (f.take i).length ≤ i := List.length_take_le ..
    by_cases hend : i = f.length
    · have e1 : ¬ ((i : Int) < (f.length : Int)) := by omega
      rw [hend, List.take_length] at d
      simp (maxSteps := 1000000) (disch := first | omega | (simp only [Fw.z1, Fw.z2, Fw.z3, Fw.z4, Fw.z5, Fw.z6, Fw.z7] <;> omega) | fail) only [go_sem, r0, r3, r4, r5, hlen, e1, exitQ_exit]
      refine ⟨_, ov, lv, rfl, d, ?_, ?_⟩
      · simp (maxSteps := 1000000) (disch := first | omega | (simp only [Fw.z1, Fw.z2, Fw.z3, Fw.z4, Fw.z5, Fw.z6, Fw.z7] <;> omega) | fail) only [go_sem, r3]
      · simp (maxSteps := 1000000) (disch := first | omega | (simp only [Fw.z1, Fw.z2, Fw.z3, Fw.z4, Fw.z5, Fw.z6, Fw.z7] <;> omega) | fail) only [go_sem, r4]
    have e1 : (i : Int) < (f.length : Int) := by omega
    obtain ⟨n, hx⟩ : ∃ x, f[i]? = some x := ⟨_, List.getElem?_eq_getElem (by omega)⟩
    obtain ⟨ov', A2, z1, z2⟩ := d.zero (by rw [List.length_replicate]; omega)
    rw [show List.replicate i (0 : Int) ++ [0] = List.replicate (i + 1) 0 from List.replicate_succ'.symm] at z2
    obtain ⟨pb, po, hb1, hb2, hb3, cells, e', md, hb4, hb5⟩ := View.at1 (P := Try.prog) (e := 3) (hvx A2 z2.nx z2.get) Try.sz3 (i64E_at _ i n hx)
    have htl : (f.take i).length = i := List.length_take_of_le hi
    have hlx : leafs (f.take (i + 1)) 0 = if 0 < n then leafs (f.take i) 0 ++ [.leaf n i] else leafs (f.take i) 0 := by
      rw [List.take_add_one, hx]; show leafs (f.take i ++ [n]) 0 = _
      rw [leafs_app, htl, Nat.zero_add]
    by_cases h0 : n > 0
    · rw [if_pos h0] at hlx
      obtain ⟨v', A3, y1, y2⟩ := z2.leaf n i (by omega)
      rw [← hlx] at y2
      simp (maxSteps := 1000000) (disch := first | omega | (simp only [Fw.z1, Fw.z2, Fw.z3, Fw.z4, Fw.z5, Fw.z6, Fw.z7] <;> omega) | fail) only [go_sem, r0, r3, r4, r5, hlen, e1, z1, hb3, hb4, hb5, h0, y1]
      refine ⟨m - 1, by omega, _, i + 1, ov', v', rfl, by omega, by omega, y2, ?_, ?_, ?_, ?_⟩
      · simp (maxSteps := 1000000) (disch := first | omega | (simp only [Fw.z1, Fw.z2, Fw.z3, Fw.z4, Fw.z5, Fw.z6, Fw.z7] <;> omega) | fail) only [go_sem, r0]
      · simp (maxSteps := 1000000) (disch := first | omega | (simp only [Fw.z1, Fw.z2, Fw.z3, Fw.z4, Fw.z5, Fw.z6, Fw.z7] <;> omega) | fail) only [go_sem]
      · simp (maxSteps := 1000000) (disch := first | omega | (simp only [Fw.z1, Fw.z2, Fw.z3, Fw.z4, Fw.z5, Fw.z6, Fw.z7] <;> omega) | fail) only [go_sem]
      · simp (maxSteps := 1000000) (disch := first | omega | (simp only [Fw.z1, Fw.z2, Fw.z3, Fw.z4, Fw.z5, Fw.z6, Fw.z7] <;> omega) | fail) only [go_sem]
        rfl
    · rw [if_neg h0] at hlx
      rw [← hlx] at z2
      simp (maxSteps := 1000000) (disch := first | omega | (simp only [Fw.z1, Fw.z2, Fw.z3, Fw.z4, Fw.z5, Fw.z6, Fw.z7] <;> omega) | fail) only [go_sem, r0, r3, r4, r5, hlen, e1, z1, hb3, hb4, hb5, h0]
      refine ⟨m - 1, by omega, _, i + 1, ov', lv, rfl, by omega, by omega, z2, ?_, ?_, ?_, ?_⟩
      · simp (maxSteps := 1000000) (disch := first | omega | (simp only [Fw.z1, Fw.z2, Fw.z3, Fw.z4, Fw.z5, Fw.z6, Fw.z7] <;> omega) | fail) only [go_sem, r0]
      · simp (maxSteps := 1000000) (disch := first | omega | (simp only [Fw.z1, Fw.z2, Fw.z3, Fw.z4, Fw.z5, Fw.z6, Fw.z7] <;> omega) | fail) only [go_sem]
      · simp (maxSteps := 1000000) (disch := first | omega | (simp only [Fw.z1, Fw.z2, Fw.z3, Fw.z4, Fw.z5, Fw.z6, Fw.z7] <;> omega) | fail) only [go_sem, r4]
      · simp (maxSteps := 1000000) (disch := first | omega | (simp only [Fw.z1, Fw.z2, Fw.z3, Fw.z4, Fw.z5, Fw.z6, Fw.z7] <;> omega) | fail) only [go_sem]
        rfl
  clear hdi0
  rintro a' A' ⟨ρ, ov, lv, rfl, d, r3, r4⟩
  simp only [blockQ_exit, if_true, thenQ_normal]
  rw [wpA_seq]
  have hlf := leafs_len f 0
  refine cutW (fun a' A' => ∃ (ρ : Nat → Value) (o : List Int) (ov lv : Value), a' = E 112 ρ [] ∧ DI A A' o ov (leafs f 0) lv ∧ o.length = f.length ∧ ((leafs f 0).length = 1 → o = grownP f) ∧ ((leafs f 0).length ≠ 1 → o = List.replicate f.length 0) ∧ ρ 3 = ov ∧ ρ 4 = lv) ?_ ?_
  · obtain ⟨css, ha, hr⟩ := d.row
    have hcl := ha.length
    have hll : ∀ X, lenU X (some (.slice 118)) lv = some (.int .i64 (leafs f 0).length, X) := fun X => by rw [hcl]; exact View.lenX hr.view X
    by_cases h1 : (leafs f 0).length = 1
    · obtain ⟨t, ht⟩ := List.length_eq_one_iff.1 h1
      obtain ⟨w, j, rfl, hw1, hw2, _, hj⟩ := leafs_mem (by rw [ht]; exact List.mem_singleton.2 rfl : t ∈ leafs f 0)
      have hjf : j < f.length := by omega
      generalize hoo : List.replicate f.length (0 : Int) = oo at d
      have hol : oo.length = f.length := by rw [← hoo, List.length_replicate]
      obtain ⟨ob, sp, rfl, hb1, hb2, hb3, hb4, hb5⟩ := d.block (by omega)
      have d2 := hb5 (grownP f) ((grownP_len f).trans hol.symm)
      have hgr := one_grown ht
      rw [hoo] at hgr
      obtain ⟨cs0, hc0, sv0, rfl, hs0⟩ := ha.get (by rw [ht]; rfl : (leafs f 0)[0]? = some (.leaf w j))
      have h2 : ∀ cs ∈ css, cs.length = 2 := fun cs hc => by obtain ⟨t, _, ht⟩ := ha.mem_r cs hc; exact ht.wt.w2.len
      obtain ⟨b1, o1, q1, q2, ce1, e1', n1, q3, q4, q5, q6⟩ := tl_at hr.view h2 hc0
      obtain ⟨b2, o2, p1, p2, p3, ce2, e2', n2, p4, p5⟩ := View.at1 (P := Try.prog) (e := 3) ((hs0.view).ge (hide_ge _ _)) Try.sz3 (by rfl : (symC (.leaf w j))[0]? = some (.int .i64 j))
      have e1 : (((leafs f 0).length : Nat) : Int) = 1 := by omega
      have q2' : indexAddrU Try.prog (some (.slice 118)) lv (.int .i64 0) = _ := q2 .i64
      have p3' : indexAddrU Try.prog (some (.slice 3)) sv0 (.int .i64 0) = _ := p3 .i64
      have q6' : ce1[o1 + 1]? = some sv0 := q6
      have hb4' := hb4 j (by omega)
      have hst := map_set oo j 1
      rw [← hgr] at hst
      unfold intB at hb3 d2
      simp (maxSteps := 1000000) (disch := first | omega | (simp only [Fw.z1, Fw.z2, Fw.z3, Fw.z4, Fw.z5, Fw.z6, Fw.z7] <;> omega) | fail) only [go_sem, r3, r4, hll, e1, q2', q3, q6', p3', p4, p5, hb4', hb3, hst]
      rw [normQ_normal]
      refine ⟨_, grownP f, _, lv, rfl, d2, grownP_len f, fun _ => rfl, fun h => absurd h1 h, ?_, ?_⟩
      · simp (maxSteps := 1000000) (disch := first | omega | (simp only [Fw.z1, Fw.z2, Fw.z3, Fw.z4, Fw.z5, Fw.z6, Fw.z7] <;> omega) | fail) only [go_sem, r3]
      · simp (maxSteps := 1000000) (disch := first | omega | (simp only [Fw.z1, Fw.z2, Fw.z3, Fw.z4, Fw.z5, Fw.z6, Fw.z7] <;> omega) | fail) only [go_sem, r4]
    · have e1 : ¬ (((leafs f 0).length : Nat) : Int) = 1 := by omega
      simp (maxSteps := 1000000) (disch := first | omega | (simp only [Fw.z1, Fw.z2, Fw.z3, Fw.z4, Fw.z5, Fw.z6, Fw.z7] <;> omega) | fail) only [go_sem, r3, r4, hll, e1]
      rw [normQ_normal]
      refine ⟨_, _, ov, lv, rfl, d, List.length_replicate, fun h => absurd h h1, fun _ => rfl, ?_, ?_⟩
      · simp (maxSteps := 1000000) (disch := first | omega | (simp only [Fw.z1, Fw.z2, Fw.z3, Fw.z4, Fw.z5, Fw.z6, Fw.z7] <;> omega) | fail) only [go_sem, r3]
      · simp (maxSteps := 1000000) (disch := first | omega | (simp only [Fw.z1, Fw.z2, Fw.z3, Fw.z4, Fw.z5, Fw.z6, Fw.z7] <;> omega) | fail) only [go_sem, r4]
  clear r3 r4 d
  rintro a' A' ⟨ρ, o, ov, lv, rfl, d, hol, ho1, ho2, r3, r4⟩
  simp (maxSteps := 1000000) (disch := first | omega | (simp only [Fw.z1, Fw.z2, Fw.z3, Fw.z4, Fw.z5, Fw.z6, Fw.z7] <;> omega) | fail) only [go_sem]
  have hq1 : QOk f.length [] (leafs f 0) := by
    have h := QOk.init (fun x hx => (hf x hx).2) hn
    refine ⟨fun t ht => h.nn t (.inl (((srtK_same (k := HT.wt) (leafs f 0)).mem t).1 (ht.elim (fun h => by cases h) id))), ?_, ?_⟩
    · have := h.wt; rw [sumG_srtK] at this; omega
    · have := h.cnt; rw [sumG_srtK] at this; omega
  have hc1 : ∀ s, sumG (cntS s) (leafs f 0) ≤ 1 := fun s => by rw [leafs_cnt]; split <;> omega
  refine aw_loop (fun m x A' => ∃ (ρ : Nat → Value) (o : List Int) (ov : Value) (l : List HT) (lv : Value), x = E 112 ρ [] ∧ m = l.length ∧ l.length ≤ f.length ∧ DI A A' o ov l lv ∧ o.length = f.length ∧ QOk f.length [] l ∧ (∀ s, sumG (cntS s) l ≤ 1) ∧ (∀ k, l.length ≤ k + 1 → huff k (srtK HT.wt l) = hufP f) ∧ ((leafs f 0).length = 1 → l.length = 1 ∧ o = grownP f) ∧ ((leafs f 0).length ≠ 1 → ∀ s, s < f.length → o[s]? = some (sumG (dpt s) l)) ∧ ρ 3 = ov ∧ ρ 4 = lv) (leafs f 0).length
    ⟨_, o, ov, _, lv, rfl, rfl, by omega, d, hol, hq1, hc1, fun k hk => ?_, fun h => ⟨h, ho1 h⟩, fun h s hs => ?_, r3, r4⟩ ?_
  · unfold hufP
    rcases Nat.le_total k f.length with h | h
    · exact (huff_fuel k _ (by rw [srtK_len]; exact hk) _ h).symm
    · exact huff_fuel f.length _ (by rw [srtK_len]; omega) _ h
  · rw [ho2 h, List.getElem?_replicate, if_pos hs]
    congr 1
    have : ∀ l : List HT, (∀ t ∈ l, dpt s t = 0) → sumG (dpt s) l = 0 := fun l => by
      induction l with
      | nil => intro _; rfl
      | cons t l ih =>
        intro h
        rw [sumG_cons, h t (List.mem_cons_self ..), ih fun q hq => h q (List.mem_cons_of_mem _ hq)]; rfl
    exact (this _ fun t ht => by obtain ⟨x, j, rfl, _⟩ := leafs_mem ht; rfl).symm
  clear r3 r4 d hol ho1 ho2 hq1 hc1
  rintro m x A' ⟨ρ, o, ov, l, lv, rfl, rfl, hlf2, d, hol, hq, hc1, hhf, ho1, ho2, r3, r4⟩
  refine aw_of ?_
  obtain ⟨css, ha, hr⟩ := d.row
  have hcl := ha.length
  have hll : ∀ X, lenU X (some (.slice 118)) lv = some (.int .i64 l.length, X) := fun X => by rw [hcl]; exact View.lenX hr.view X
  have hql := hq.len
  rw [List.length_nil, Nat.zero_add] at hql
  by_cases hgt : 1 < l.length
  rotate_left
  · have e1 : ¬ ((l.length : Nat) : Int) > 1 := by omega
    simp (maxSteps := 1000000) (disch := first | omega | (simp only [Fw.z1, Fw.z2, Fw.z3, Fw.z4, Fw.z5, Fw.z6, Fw.z7] <;> omega) | fail) only [go_sem, r3, r4, hll, e1, Try.results42]
    have hog : o = grownP f := by
      by_cases h1 : (leafs f 0).length = 1
      · exact (ho1 h1).2
      · refine out_grown h1 hol fun s hs => ?_
        have e2 : hufP f = l := by
          rw [← hhf 0 (by omega)]
          show srtK HT.wt l = l
          match l, hgt with
          | [], _ => rfl
          | [t], _ => rfl
          | a :: b :: l, h => exact absurd (by simp) h
        rw [e2]; exact ho2 h1 s hs
    refine gc_here ⟨ov, rfl, ⟨d.nx, d.get⟩, ?_⟩
    rw [← hog]
    unfold InRow
    rw [flat_i64]
    exact d.out
  have e1 : ((l.length : Nat) : Int) > 1 := by omega
  have h1 : ¬ (leafs f 0).length = 1 := fun h => by have := (ho1 h).1; omega
  have ho := ho2 h1
  simp (maxSteps := 1000000) (disch := first | omega | (simp only [Fw.z1, Fw.z2, Fw.z3, Fw.z4, Fw.z5, Fw.z6, Fw.z7] <;> omega) | fail) only [go_sem, r3, r4, hll, e1]
  have hne : l ≠ [] := fun h => by rw [h] at hgt; simp at hgt
  obtain ⟨ob, sp, hovv, hb1, hb2, hb3, hb4, hb5⟩ := d.block (by rw [hol]; omega)
  refine (rlight_ok w0 A' l css lv (ha.imp fun t cs h => h.wt) hr.view hne (by omega)).mono ?_
  rintro e B ⟨l1, a, l2, rfl, rfl, rfl, m1, m2⟩
  obtain ⟨c1, cs1, c2, rfl, ha1, hx1, ha2⟩ := ha.split
  have tk := rtake_ok w0 B c1 c2 cs1 lv (fun c hc => by obtain ⟨t, _, ht⟩ := ha.mem_r c hc; exact ht.wt.w2) hr.view (by omega)
  rw [← ha1.length] at tk
  simp (maxSteps := 1000000) (disch := first | omega | (simp only [Fw.z1, Fw.z2, Fw.z3, Fw.z4, Fw.z5, Fw.z6, Fw.z7] <;> omega) | fail) only [go_sem]
  refine tk.mono ?_
  clear tk hr hll
  rintro e A1 ⟨rv, rfl, ov1, rr⟩
  obtain ⟨sva, rfl, ra⟩ := hx1
  have hsa : cell1 sva = true := by rcases ra.2 with ⟨_, rfl⟩ | ⟨_, _, rfl, _⟩ <;> rfl
  simp (maxSteps := 1000000) (disch := first | omega | (simp only [Fw.z1, Fw.z2, Fw.z3, Fw.z4, Fw.z5, Fw.z6, Fw.z7] <;> omega) | fail) only [go_sem, hsa]
  have oB1 : Over A1 ((A1.alloc (.cells [.int .i64 0, .slice none 0 0] 118 (some 0))).upd A1.next (some (.cells [.int .i64 a.wt, sva] 118 (some 0)))) := ((Over.refl A1).alloc _).upd (Nat.le_refl _) _
  have gB1 : ((A1.alloc (.cells [.int .i64 0, .slice none 0 0] 118 (some 0))).upd A1.next (some (.cells [.int .i64 a.wt, sva] 118 (some 0)))).get A1.next = _ := get_upd_same ..
  have nB1 : ((A1.alloc (.cells [.int .i64 0, .slice none 0 0] 118 (some 0))).upd A1.next (some (.cells [.int .i64 a.wt, sva] 118 (some 0)))).next = A1.next + 1 := rfl
  generalize (A1.alloc (.cells [.int .i64 0, .slice none 0 0] 118 (some 0))).upd A1.next (some (.cells [.int .i64 a.wt, sva] 118 (some 0))) = B1 at oB1 gB1 nB1 ⊢
  have hs1 := srtK_split m1 m2
  obtain ⟨q1, wa, ea, fa⟩ := hq.cut
  have ha' := All2.app ha1 ha2
  have hcs : ∀ s, cntS s a + sumG (cntS s) (l1 ++ l2) ≤ 1 := fun s => by have := hc1 s; rw [sumG_cut] at this; exact this
  have hds : ∀ s, sumG (dpt s) (l1 ++ a :: l2) = dpt s a + sumG (dpt s) (l1 ++ l2) := fun s => sumG_cut _ _ _ _
  have hll' : (l1 ++ a :: l2).length = (l1 ++ l2).length + 1 := by simp; omega
  have hcl' := ha'.length
  generalize hl' : l1 ++ l2 = l' at *
  generalize hc' : c1 ++ c2 = css' at *
  have hne' : l' ≠ [] := fun h => by rw [h] at hll'; rw [hll'] at hgt; simp at hgt
  have rr1 := rr.over oB1
  refine (rlight_ok w0 B1 l' css' rv (ha'.imp fun t cs h => h.wt) rr1.view hne' (by omega)).mono ?_
  rintro e B0 ⟨k1, b, k2, rfl, rfl, rfl, n1, n2⟩
  obtain ⟨d1, cs2, d2, rfl, hd1, hx2, hd2⟩ := ha'.split
  have tk := rtake_ok w0 B0 d1 d2 cs2 rv (fun c hc => by obtain ⟨t, _, ht⟩ := ha'.mem_r c hc; exact ht.wt.w2) rr1.view (by omega)
  rw [← hd1.length] at tk
  simp (maxSteps := 1000000) (disch := first | omega | (simp only [Fw.z1, Fw.z2, Fw.z3, Fw.z4, Fw.z5, Fw.z6, Fw.z7] <;> omega) | fail) only [go_sem]
  refine tk.mono ?_
  clear tk rr rr1
  rintro e A2 ⟨rv2, rfl, ov2, rr2⟩
  obtain ⟨svb, rfl, rb⟩ := hx2
  have hsb : cell1 svb = true := by rcases rb.2 with ⟨_, rfl⟩ | ⟨_, _, rfl, _⟩ <;> rfl
  simp (maxSteps := 1000000) (disch := first | omega | (simp only [Fw.z1, Fw.z2, Fw.z3, Fw.z4, Fw.z5, Fw.z6, Fw.z7] <;> omega) | fail) only [go_sem, hsb]
  have oB2 : Over A2 ((A2.alloc (.cells [.int .i64 0, .slice none 0 0] 118 (some 0))).upd A2.next (some (.cells [.int .i64 b.wt, svb] 118 (some 0)))) := ((Over.refl A2).alloc _).upd (Nat.le_refl _) _
  have gB2 : ((A2.alloc (.cells [.int .i64 0, .slice none 0 0] 118 (some 0))).upd A2.next (some (.cells [.int .i64 b.wt, svb] 118 (some 0)))).get A2.next = _ := get_upd_same ..
  have nB2 : ((A2.alloc (.cells [.int .i64 0, .slice none 0 0] 118 (some 0))).upd A2.next (some (.cells [.int .i64 b.wt, svb] 118 (some 0)))).next = A2.next + 1 := rfl
  generalize (A2.alloc (.cells [.int .i64 0, .slice none 0 0] 118 (some 0))).upd A2.next (some (.cells [.int .i64 b.wt, svb] 118 (some 0))) = B2 at oB2 gB2 nB2 ⊢
  have gA1 : B2.get A1.next = some (.cells [.int .i64 a.wt, sva] 118 (some 0)) := by
    rw [oB2.get _ (by have := ov2.next; omega), ov2.get _ (by omega)]; exact gB1
  have oB : Over B B2 := ((ov1.trans oB1).trans ov2).trans oB2
  have ra2 : Row B2 3 1 A.next (symC a) a.syms.length sva := (ra.ge (hide_ge _ _)).over oB
  have rb2 : Row B2 3 1 A.next (symC b) b.syms.length svb := (rb.ge (hide_ge _ _)).over oB
  obtain ⟨q2, wb, eb, fb⟩ := q1.cut
  have pa := cnt_pos a
  have pb := cnt_pos b
  have na0 : 0 ≤ sumG HT.wt (k1 ++ k2) := sumG_nn _ fun t ht => (q2.nn t (.inr ht)).1
  have nc0 := len_cnt (k1 ++ k2)
  have hwc := hq.wt
  have hcc := hq.cnt
  rw [sumG_cut] at ea fa
  have hal : (a.syms.length : Int) = a.cnt := rfl
  have hbl : (b.syms.length : Int) = b.cnt := rfl
  obtain ⟨v1, A4, y1, y2, y3, o4, v2, A5, z1, z2, z3, o5, r5, n5⟩ := both_heap (.cells [.int .i64 0, .slice none 0 0] 118 (some 0)) (a.wt + b.wt) ra2 rb2 (symC_cell a) (symC_cell b) (by omega) (by omega)
  have o3 : Over B2 ((B2.alloc (.cells [.int .i64 0, .slice none 0 0] 118 (some 0))).upd B2.next (some (.cells [.int .i64 (a.wt + b.wt), .slice none 0 0] 118 (some 0)))) := ((Over.refl B2).alloc _).upd (Nat.le_refl _) _
  have gA3 := (o3.get A1.next (by have := ov2.next; have := oB2.next; omega)).trans gA1
  have gB4 := (o4.get A2.next (by omega)).trans gB2
  have s1 := fun X => storeC_val (A := X) (b := B2.next) (off := 1) (k := 0) (cs := [.int .i64 (a.wt + b.wt), .slice none 0 0]) (e := 118) y3 (by omega) (by simp)
  have s2 := fun X => storeC_val (A := X) (b := B2.next) (off := 1) (k := 0) (cs := [.int .i64 (a.wt + b.wt), v1]) (e := 118) z3 (by omega) (by simp)
  simp (maxSteps := 1000000) (disch := first | omega | (simp only [Fw.z1, Fw.z2, Fw.z3, Fw.z4, Fw.z5, Fw.z6, Fw.z7] <;> omega) | fail) only [go_sem, gA1, gB2, gA3, gB4, y1, y2, s1, s2, z1, z2]
  have g10 : (A5.upd B2.next (some (.cells [.int .i64 (a.wt + b.wt), v2] 118 (some 0)))).get B2.next = some (.cells [.int .i64 (a.wt + b.wt), v2] 118 (some 0)) := get_upd_same ..
  have n5' : B2.next + 1 ≤ (A5.upd B2.next (some (.cells [.int .i64 (a.wt + b.wt), v2] 118 (some 0)))).next := n5
  generalize A5.upd B2.next (some (.cells [.int .i64 (a.wt + b.wt), v2] 118 (some 0))) = B5 at o5 r5 g10 n5' ⊢
  clear y1 y2 z1 z2 o4 o3 gA3 gB4 s1 s2
  have oBB := oB.trans o5
  have hbo : ob < B2.next := Nat.lt_of_lt_of_le hb2 oB.next
  have gob : B5.get ob = intB o := (oBB.get ob hb2).trans hb3
  have hsy : symC a ++ symC b = (a.syms ++ b.syms).map fun s : Nat => Value.int .i64 (s : Int) := by unfold symC; rw [List.map_append]
  have hsl : a.syms.length + b.syms.length = (a.syms ++ b.syms).length := (List.length_append ..).symm
  have hsn : ∀ s ∈ a.syms ++ b.syms, s < f.length := fun s hs => by
    rcases List.mem_append.1 hs with hs | hs
    · exact wa.2 s hs
    · exact wb.2 s hs
  rw [hsl] at r5
  rw [hsy] at r5
  have hS : (a.syms ++ b.syms).length ≤ 1000 := by rw [← hsl]; omega
  have hcnt : ∀ s, ((a.syms ++ b.syms).count s : Int) = cntS s a + cntS s b := fun s => by rw [List.count_append, cnt_syms, cnt_syms]; omega
  have hdb : ∀ s, 0 ≤ sumG (dpt s) (l1 ++ a :: l2) ∧ sumG (dpt s) (l1 ++ a :: l2) ≤ 1000 := fun s => by
    have h1 := dpt_sum (hc1 s)
    have h2 := hq.cnt
    rw [sumG_nil] at h2
    exact ⟨sumG_nn _ fun t _ => dpt_nn s t, by omega⟩
  generalize hss : a.syms ++ b.syms = ss at *
  refine aw_loop (fun m x A' => ∃ (ρ : Nat → Value) (i : Nat), x = E 112 ρ [] ∧ m = ss.length - i ∧ i ≤ ss.length ∧ A' = B5.upd ob (intB (incL (ss.take i) o)) ∧ ρ 3 = ov ∧ ρ 9 = rv2 ∧ ρ 10 = .pointer (some ⟨B2.next, 0, none⟩) ∧ ρ 11 = .int .i64 i) ss.length
    ⟨_, 0, rfl, rfl, Nat.zero_le _, (upd_id gob).symm, r3, rfl, rfl, rfl⟩ ?_
  rintro m x A' ⟨ρ', i, rfl, hm, hi, hA', r3', r9, r10, r11⟩
  refine aw_of ?_
  have hol2 := incL_len (ss.take i) o
  have gC : A'.get ob = intB (incL (ss.take i) o) := by rw [hA']; exact get_upd_same ..
  have gC10 : A'.get B2.next = some (.cells [.int .i64 (a.wt + b.wt), v2] 118 (some 0)) := by rw [hA', get_upd_old (by omega)]; exact g10
  have rC : Row A' 3 1 (B2.next + 1) (ss.map fun s : Nat => Value.int .i64 (s : Int)) ss.length v2 := by
    rw [hA']; exact r5.keep (Nat.le_refl _) (fun b hb hlo _ => get_upd_old (by omega)) (Nat.le_refl _)
  have hlv : ∀ X, lenU X (some (.slice 3)) v2 = some (.int .i64 ss.length, X) := View.lenX rC.view
  by_cases hend : i = ss.length
  rotate_left
  · have e2 : (i : Int) < (ss.length : Nat) := by omega
    obtain ⟨s, hs⟩ : ∃ s, ss[i]? = some s := ⟨_, List.getElem?_eq_getElem (by omega)⟩
    obtain ⟨b2, o2, p1, p2, p3, ce2, e2', n2', p4, p5⟩ := View.at1 (P := Try.prog) (e := 3) rC.view Try.sz3 (show (ss.map fun s : Nat => Value.int .i64 (s : Int))[i]? = some (.int .i64 (s : Int)) by rw [List.getElem?_map, hs]; rfl)
    have hsf := hsn s (List.mem_of_getElem? hs)
    have hix := hb4 s (by omega)
    have hx := incL_at (ss.take i) o s _ (ho s hsf)
    have hcb : (ss.take i).count s ≤ 1000 := Nat.le_trans List.count_le_length (Nat.le_trans (List.length_take_le ..) (by omega))
    have hdb' := hdb s
    have hinc := incL_snoc (ss.take i) s o
    rw [List.getD_eq_getElem?_getD, hx, Option.getD_some] at hinc
    have hxx : 0 ≤ sumG (dpt s) (l1 ++ a :: l2) + ((ss.take i).count s : Nat) ∧ sumG (dpt s) (l1 ++ a :: l2) + ((ss.take i).count s : Nat) ≤ 2000 := by omega
    generalize sumG (dpt s) (l1 ++ a :: l2) + ((ss.take i).count s : Nat) = xx at hx hinc hxx
    have hx' : ((incL (ss.take i) o).map (Value.int .i64 ·))[s]? = some (.int .i64 xx) := by rw [List.getElem?_map, hx]; rfl
    have hst := map_set (incL (ss.take i) o) s (xx + 1)
    rw [← hinc] at hst
    have htk : ss.take (i + 1) = ss.take i ++ [s] := by rw [List.take_add_one, hs]; rfl
    unfold intB at gC
    simp (maxSteps := 1000000) (disch := first | omega | (simp only [Fw.z1, Fw.z2, Fw.z3, Fw.z4, Fw.z5, Fw.z6, Fw.z7] <;> omega) | fail) only [go_sem, r3', r9, r10, r11, gC10, hlv, e2]
    refine aw_draw2 [⟨false, [], [0]⟩, ⟨false, [], [0]⟩, ⟨false, [1], [0]⟩, ⟨false, [], [0]⟩, ⟨false, [1, 2, 3], [0]⟩, ⟨false, [1, 2, 3, 4], [0]⟩, ⟨false, [], [0]⟩, ⟨false, [], [0]⟩, ⟨false, [7], [0]⟩, ⟨false, [], [0]⟩, ⟨false, [7, 8, 9], [0]⟩, ⟨false, [7, 8, 9, 10], [0]⟩, ⟨false, [6, 7, 8, 9, 10, 11], [0]⟩, ⟨false, [6, 7, 8, 9, 10, 11, 12], [0]⟩, ⟨false, [6, 7, 8, 9, 10, 11, 12, 13], [0]⟩, ⟨false, [0, 1, 2, 3, 4, 5, 6, 7, 8, 9, 10, 11, 12, 13, 14], [0]⟩, ⟨true, [0, 1, 2, 3, 4, 5, 6, 7, 8, 9, 10, 11, 12, 13, 14, 15], [0]⟩] [A', A'.upd ob (intB (incL (ss.take i ++ [s]) o))] 1 (by kernel_rfl) (by kernel_rfl) rfl ?_
    simp (maxSteps := 1000000) (disch := first | omega | (simp only [Fw.z1, Fw.z2, Fw.z3, Fw.z4, Fw.z5, Fw.z6, Fw.z7] <;> omega) | fail) only [go_sem, r3', r10, r11, gC10, p3, p4, p5, hix, gC, hx', hst]
    refine ⟨m - 1, by omega, _, i + 1, rfl, by omega, by omega, ?_, ?_, ?_, ?_, ?_⟩
    · rw [hA', upd_upd, htk]
    · simp (maxSteps := 1000000) (disch := first | omega | (simp only [Fw.z1, Fw.z2, Fw.z3, Fw.z4, Fw.z5, Fw.z6, Fw.z7] <;> omega) | fail) only [go_sem, r3']
    · simp (maxSteps := 1000000) (disch := first | omega | (simp only [Fw.z1, Fw.z2, Fw.z3, Fw.z4, Fw.z5, Fw.z6, Fw.z7] <;> omega) | fail) only [go_sem, r9]
    · simp (maxSteps := 1000000) (disch := first | omega | (simp only [Fw.z1, Fw.z2, Fw.z3, Fw.z4, Fw.z5, Fw.z6, Fw.z7] <;> omega) | fail) only [go_sem, r10]
    · simp (maxSteps := 1000000) (disch := first | omega | (simp only [Fw.z1, Fw.z2, Fw.z3, Fw.z4, Fw.z5, Fw.z6, Fw.z7] <;> omega) | fail) only [go_sem]
      rfl
  have e2 : ¬ ((i : Int) < (ss.length : Nat)) := by omega
  rw [hend, List.take_length] at hA' hol2
  have hnA : A'.next = B5.next := by rw [hA']; rfl
  have hrbo : ∀ b, b ∈ rbL ov → b = ob := fun b hb => by
    have := mem_rbL.1 hb
    rw [hovv] at this
    cases this; rfl
  have gAo : ∀ b, b ≠ ob → A'.get b = B5.get b := fun b hb => by rw [hA']; exact get_upd_old hb
  have oC : Over (B.upd ob (intB (incL ss o))) A' := ⟨by rw [nx_upd, hnA]; exact oBB.next, fun c hc => by
    rw [hA', St.get_upd, St.get_upd]
    split
    · rfl
    · exact oBB.get c hc⟩
  have dC : DI A A' (incL ss o) ov (k1 ++ k2) rv2 := by
    refine ⟨by have := d.nx; have := oBB.next; omega, fun c hc => ?_, (hb5 _ hol2).out.over oC, d1 ++ d2, (All2.app hd1 hd2).imp fun t cs ht => ht.kp (KpI.hide (by rw [hnA]; exact oBB.next) fun c cs hc hL _ => ⟨hL, ?_⟩), ?_⟩
    · rw [gAo c (by omega), oBB.get c (by have := d.nx; omega)]; exact d.get c hc
    · have hne : c ≠ ob := fun e => hL (mem_rbL.2 (by rw [hovv, e]; rfl))
      rw [gAo c hne]; exact oBB.get c hc
    · have hlo : B.next ≤ B0.next := Nat.le_trans ov1.next oB1.next
      exact ((rr2.over oB2).over o5).keep (by rw [hnA]; exact Nat.le_refl _) (fun c _ hc _ => gAo c (by omega)) (by have := d.nx; omega)
  have hsyb : symC (.br (a.wt + b.wt) a b) = ss.map fun s : Nat => Value.int .i64 (s : Int) := by unfold symC HT.syms; rw [hss]
  have hsyl : (HT.br (a.wt + b.wt) a b).syms.length = ss.length := by unfold HT.syms; rw [hss]
  have htr : TrR (A'.hide (rbL ov)) A.next (.br (a.wt + b.wt) a b) [.int .i64 (a.wt + b.wt), v2] := by
    refine ⟨v2, rfl, ?_⟩
    rw [hsyb, hsyl]
    exact rC.keep (by rw [hide_next]; exact Nat.le_refl _) (fun c _ hc _ => by rw [hide_get, if_neg fun hm => by have := hrbo c hm; omega]) (by have := d.nx; have := oB.next; omega)
  have hkl : (k1 ++ b :: k2).length = (k1 ++ k2).length + 1 := by simp; omega
  obtain ⟨lv', A7, x1, x2⟩ := dC.push htr (by omega)
  have hcv2 : cell1 v2 = true := by rcases rC.2 with ⟨_, rfl⟩ | ⟨_, _, rfl, _⟩ <;> rfl
  simp (maxSteps := 1000000) (disch := first | omega | (simp only [Fw.z1, Fw.z2, Fw.z3, Fw.z4, Fw.z5, Fw.z6, Fw.z7] <;> omega) | fail) only [go_sem, r3', r9, r10, r11, gC10, hlv, e2, hcv2, x1]
  have hs2 := srtK_split n1 n2
  refine ⟨(k1 ++ k2).length + 1, by omega, _, incL ss o, ov, (k1 ++ k2) ++ [.br (a.wt + b.wt) a b], lv', rfl, by simp; omega, by simp; simp at hlf2 hll' hkl; omega, x2, hol2.trans hol, q2.push wa wb ?_ ?_, fun s => ?_, fun k hk => ?_, fun h => absurd h h1, fun _ s hs => ?_, ?_, ?_⟩
  · rw [sumG_nil]; omega
  · rw [sumG_nil]; omega
  · have h1 := hcs s
    rw [sumG_cut] at h1
    rw [sumG_app, sumG_cons, sumG_nil]
    show _ + (cntS s a + cntS s b + 0) ≤ 1
    omega
  · rw [srtK_app, ← hhf (k + 1) (by rw [List.length_append, List.length_singleton] at hk; omega), hs1, hs2]
    rfl
  · rw [incL_at ss o s _ (ho s hs), hcnt, hds, sumG_cut, sumG_app (dpt s) (k1 ++ k2), sumG_cons, sumG_nil]
    show some _ = some (_ + (dpt s a + cntS s a + (dpt s b + cntS s b) + 0))
    congr 1; omega
  · simp (maxSteps := 1000000) (disch := first | omega | (simp only [Fw.z1, Fw.z2, Fw.z3, Fw.z4, Fw.z5, Fw.z6, Fw.z7] <;> omega) | fail) only [go_sem, r3']
  · simp (maxSteps := 1000000) (disch := first | omega | (simp only [Fw.z1, Fw.z2, Fw.z3, Fw.z4, Fw.z5, Fw.z6, Fw.z7] <;> omega) | fail) only [go_sem]
end Go.Fw

set_option linter.unusedSimpArgs false
set_option linter.unusedVariables false
set_option maxRecDepth 4000
namespace Go.Fw
open Go.Proofs Go.RowKit
/-! Weights are halved till no word is too long: it comes to an end. -/
/-- What holds of all trees while all leaves weigh one. -/
structure Lv (k : Nat) (Q : List HT) : Prop where
  all : ∀ t ∈ Q, (2 : Int) ^ k ≤ t.wt ∧ t.wt ≤ 2 ^ (k + 1) ∧ t.ht ≤ k + 1 ∧ (t.wt = 2 ^ k → t.ht ≤ k)
  one : sumG (fun t => if (2 : Int) ^ k < t.wt ∧ t.wt < 2 ^ (k + 1) then 1 else 0) Q ≤ 1
theorem sumG_mem {g : HT → Int} (hg : ∀ t, 0 ≤ g t) : ∀ {Q : List HT} {t : HT}, t ∈ Q → g t ≤ sumG g Q
  | q :: Q, t, h => by
    have := sumG_nn g (l := Q) fun t _ => hg t
    have := hg q
    rw [sumG_cons]
    rcases List.mem_cons.1 h with rfl | h
    · omega
    · have := sumG_mem hg h; omega
theorem insK_memH {t x : HT} {Q : List HT} : t ∈ insK HT.wt Q x ↔ t = x ∨ t ∈ Q := insK_mem Q x t
theorem pow_dbl (k : Nat) : (2 : Int) ^ (k + 1) = 2 * 2 ^ k := by rw [Int.pow_succ]; omega
theorem pow_pos' (k : Nat) : (0 : Int) < 2 ^ k := by
  induction k with
  | zero => decide
  | succ k ih => rw [pow_dbl]; omega
theorem Lv.step {k : Nat} {a b : HT} {Q : List HT} (h : Lv k (a :: b :: Q)) (hs : Srtd HT.wt (a :: b :: Q)) : ∃ k', Lv k' (insK HT.wt Q (.br (a.wt + b.wt) a b)) := by
  have hp := pow_dbl k
  have hp2 := pow_dbl (k + 1)
  have h0 := pow_pos' k
  obtain ⟨a1, a2, a3, a4⟩ := h.all a (by simp)
  obtain ⟨b1, b2, b3, b4⟩ := h.all b (by simp)
  unfold Srtd at hs
  rw [List.pairwise_cons, List.pairwise_cons] at hs
  have hab : a.wt ≤ b.wt := hs.1 b (by simp)
  have hone := h.one
  have g0 : ∀ t : HT, (0 : Int) ≤ (if (2 : Int) ^ k < t.wt ∧ t.wt < 2 ^ (k + 1) then 1 else 0) := fun t => by split <;> omega
  rw [sumG_cons, sumG_cons] at hone
  have ga := g0 a
  have gb := g0 b
  have hht : (HT.br (a.wt + b.wt) a b).ht = max a.ht b.ht + 1 := rfl
  have hwt : (HT.br (a.wt + b.wt) a b).wt = a.wt + b.wt := rfl
  by_cases hb : b.wt = 2 ^ k
  · have ha : a.wt = 2 ^ k := by omega
    have := a4 ha
    have := b4 hb
    refine ⟨k, fun t ht => ?_, ?_⟩
    · rcases insK_memH.1 ht with rfl | ht
      · rw [hht, hwt]
        exact ⟨by omega, by omega, by omega, fun e => by omega⟩
      · exact h.all t (by simp [ht])
    · rw [sumG_insK, if_neg (by rw [hwt]; omega)]
      omega
  · -- all that is left is twice as heavy
    have hQ : ∀ t ∈ Q, t.wt = 2 ^ (k + 1) := fun t ht => by
      have h1 := h.all t (by simp [ht])
      have h2 := hs.2.1 t ht
      by_cases hm : t.wt < 2 ^ (k + 1)
      · exfalso
        have e1 : (if (2 : Int) ^ k < t.wt ∧ t.wt < 2 ^ (k + 1) then (1 : Int) else 0) = 1 := if_pos ⟨by omega, hm⟩
        have e2 : (if (2 : Int) ^ k < b.wt ∧ b.wt < 2 ^ (k + 1) then (1 : Int) else 0) = 1 := if_pos ⟨by omega, by omega⟩
        have e3 := sumG_mem g0 ht
        rw [e1] at e3
        rw [e2] at hone
        omega
      · omega
    have hsum : a.wt + b.wt > 2 ^ (k + 1) := by
      by_cases hm : b.wt = 2 ^ (k + 1)
      · omega
      · by_cases ha : a.wt = 2 ^ k
        · omega
        · exfalso
          have e1 : (if (2 : Int) ^ k < a.wt ∧ a.wt < 2 ^ (k + 1) then (1 : Int) else 0) = 1 := if_pos ⟨by omega, by omega⟩
          have e2 : (if (2 : Int) ^ k < b.wt ∧ b.wt < 2 ^ (k + 1) then (1 : Int) else 0) = 1 := if_pos ⟨by omega, by omega⟩
          have e3 := sumG_nn (fun t : HT => if (2 : Int) ^ k < t.wt ∧ t.wt < 2 ^ (k + 1) then (1 : Int) else 0) (l := Q) fun t _ => g0 t
          rw [e1, e2] at hone
          omega
    refine ⟨k + 1, fun t ht => ?_, ?_⟩
    · rcases insK_memH.1 ht with rfl | ht
      · rw [hht, hwt]
        exact ⟨by omega, by omega, by omega, fun e => by omega⟩
      · have h1 := h.all t (by simp [ht])
        have h2 := hQ t ht
        exact ⟨by omega, by omega, by omega, fun _ => h1.2.2.1⟩
    · rw [sumG_insK]
      have hz : sumG (fun t : HT => if (2 : Int) ^ (k + 1) < t.wt ∧ t.wt < 2 ^ (k + 1 + 1) then (1 : Int) else 0) Q ≤ 0 := by
        have := sumG_le (fun t : HT => if (2 : Int) ^ (k + 1) < t.wt ∧ t.wt < 2 ^ (k + 1 + 1) then (1 : Int) else 0) 0 (l := Q) (fun t ht => by rw [if_neg (by have := hQ t ht; omega)]; exact Int.le_refl _)
        omega
      have : (if (2 : Int) ^ (k + 1) < (HT.br (a.wt + b.wt) a b).wt ∧ (HT.br (a.wt + b.wt) a b).wt < 2 ^ (k + 1 + 1) then (1 : Int) else 0) ≤ 1 := by split <;> omega
      omega
theorem insH_srtd {Q : List HT} (h : Srtd HT.wt Q) (x : HT) : Srtd HT.wt (insK HT.wt Q x) := by
  have e : Q = srtK HT.wt Q := srtK_of h (SameF.refl HT.wt Q)
  rw [e, ← srtK_app]; exact srtK_srtd _
theorem Srtd.tail2 {a b : HT} {Q : List HT} (h : Srtd HT.wt (a :: b :: Q)) : Srtd HT.wt Q := by
  unfold Srtd at *
  rw [List.pairwise_cons, List.pairwise_cons] at h
  exact h.2.2
theorem Lv.huff : ∀ (n k : Nat) (Q : List HT), Srtd HT.wt Q → Lv k Q → ∃ k', Lv k' (huff n Q)
  | 0, k, Q, _, h => ⟨k, h⟩
  | n + 1, k, [], _, h => ⟨k, h⟩
  | n + 1, k, [a], _, h => ⟨k, h⟩
  | n + 1, k, a :: b :: Q, hs, h => by
    obtain ⟨k', h'⟩ := h.step hs
    exact Lv.huff n k' _ (insH_srtd hs.tail2 _) h'
def usedN (f : List Int) : Nat := (leafs f 0).length
/-- Of weights that are all one, no word is too long. -/
theorem ht_ones {f : List Int} {lim : Nat} (hf : ∀ x ∈ f, x ≤ 1) (hu : usedN f ≤ 2 ^ lim) {t : HT} (ht : hufP f = [t]) : t.ht ≤ lim := by
  have hl : ∀ t ∈ leafs f 0, t.wt = 1 ∧ t.ht = 0 := fun t ht => by
    obtain ⟨x, j, rfl, h1, h2, _⟩ := leafs_mem ht
    have := hf x h2
    exact ⟨by show x = 1; omega, rfl⟩
  have hz : ∀ Q : List HT, (∀ t ∈ Q, t.wt = 1) → sumG (fun t : HT => if (2 : Int) ^ 0 < t.wt ∧ t.wt < 2 ^ (0 + 1) then (1 : Int) else 0) Q ≤ 0 := fun Q hQ => by
    have := sumG_le (fun t : HT => if (2 : Int) ^ 0 < t.wt ∧ t.wt < 2 ^ (0 + 1) then (1 : Int) else 0) 0 (l := Q) (fun t ht => by rw [if_neg (by rw [hQ t ht]; decide)]; exact Int.le_refl _)
    omega
  have hm : ∀ t ∈ srtK HT.wt (leafs f 0), t.wt = 1 ∧ t.ht = 0 := fun t ht => hl t (((srtK_same (k := HT.wt) (leafs f 0)).mem t).2 ht)
  have h0 : Lv 0 (srtK HT.wt (leafs f 0)) := ⟨fun t ht => by
    obtain ⟨h1, h2⟩ := hm t ht
    rw [h1, h2]
    exact ⟨by decide, by decide, by omega, fun _ => Nat.le_refl _⟩, Int.le_trans (hz _ fun t ht => (hm t ht).1) (by decide)⟩
  obtain ⟨k, hk⟩ := Lv.huff f.length 0 _ (srtK_srtd _) h0
  have hwt : t.wt = (usedN f : Int) := by
    have e := sumG_huff HT.wt (fun _ _ => rfl) f.length (srtK HT.wt (leafs f 0))
    have e2 : huff f.length (srtK HT.wt (leafs f 0)) = [t] := ht
    rw [e2, sumG_cons, sumG_nil, sumG_srtK] at e
    have : ∀ Q : List HT, (∀ t ∈ Q, t.wt = 1) → sumG HT.wt Q = (Q.length : Nat) := fun Q => by
      induction Q with
      | nil => intro _; rfl
      | cons q Q ih =>
        intro h
        rw [sumG_cons, h q (List.mem_cons_self ..), ih fun t ht => h t (List.mem_cons_of_mem _ ht), List.length_cons]; omega
    rw [this _ fun t ht => (hl t ht).1] at e
    unfold usedN
    omega
  obtain ⟨k1, k2, k3, k4⟩ := hk.all t (by have e2 : huff f.length (srtK HT.wt (leafs f 0)) = [t] := ht; rw [e2]; exact List.mem_singleton.2 rfl)
  have hcast : ((2 ^ lim : Nat) : Int) = (2 : Int) ^ lim := by simp
  have hle : (2 : Int) ^ k ≤ 2 ^ lim := by rw [← hcast]; omega
  have hkl : k ≤ lim := by
    have : (2 : Nat) ^ k ≤ 2 ^ lim := by
      have e : ((2 ^ k : Nat) : Int) = (2 : Int) ^ k := by simp
      have : ((2 ^ k : Nat) : Int) ≤ ((2 ^ lim : Nat) : Int) := by rw [e, hcast]; exact hle
      omega
    exact (Nat.pow_le_pow_iff_right (by decide)).1 this
  rcases Nat.lt_or_ge k lim with h | h
  · omega
  · have hk' : k = lim := by omega
    have h3 : (usedN f : Int) ≤ (2 : Int) ^ lim := by rw [← hcast]; omega
    rw [← hk'] at h3
    have := k4 (by omega)
    omega
def half (x : Int) : Int := (x + 1) / 2
def halfL (f : List Int) : List Int := f.map half
theorem half_pos {x : Int} (h : 0 ≤ x) : 0 ≤ half x ∧ (0 < half x ↔ 0 < x) ∧ half x ≤ x := by unfold half; omega
theorem half_le {x : Int} {j : Nat} (h : x ≤ 2 ^ (j + 1)) : half x ≤ 2 ^ j := by have := pow_dbl j; unfold half; omega
theorem leafs_half : ∀ (f : List Int) (i : Nat), (∀ x ∈ f, 0 ≤ x) → (leafs (halfL f) i).length = (leafs f i).length
  | [], _, _ => rfl
  | x :: f, i, h => by
    have h1 := half_pos (h x (List.mem_cons_self ..))
    have ih := leafs_half f (i + 1) fun y hy => h y (List.mem_cons_of_mem _ hy)
    unfold halfL at *
    rw [List.map_cons, leafs, leafs]
    by_cases hx : 0 < x
    · rw [if_pos (h1.2.1.2 hx), if_pos hx]; simp [ih]
    · rw [if_neg (fun h => hx (h1.2.1.1 h)), if_neg hx]; exact ih
def okL (l : List Int) (lim : Int) : Bool := l.all fun x => decide (x ≤ lim)
/-- The lengths. -/
def lenF : Nat → List Int → Int → List Int
  | 0, f, _ => grownP f
  | j + 1, f, lim => if okL (grownP f) lim then grownP f else lenF j (halfL f) lim
theorem grownP_at {f : List Int} {t : HT} (ht : hufP f = [t]) {s : Nat} (hs : s < f.length) : (grownP f)[s]? = some (if cntS s t = 1 then mx1 (dpt s t) else 0) := by
  rw [grownP_tree ht, deepL_at _ _ _ _ (hufP_cnt1 ht s).1 (by rw [List.length_replicate]; exact hs), List.getElem?_replicate, if_pos hs, Int.zero_add]
  split <;> rfl
theorem grownP_le {f : List Int} {lim : Nat} (h1 : 1 ≤ lim) (h : ∀ t, hufP f = [t] → t.ht ≤ lim) : okL (grownP f) lim = true := by
  unfold okL
  rw [List.all_eq_true]
  intro x hx
  obtain ⟨s, hs⟩ := List.mem_iff_getElem?.1 hx
  have hsl : s < f.length := by rw [← grownP_len f]; exact (List.getElem?_eq_some_iff.1 hs).1
  simp only [decide_eq_true_eq]
  by_cases h0 : leafs f 0 = []
  · rw [grownP_none (hufP_none h0), List.getElem?_replicate, if_pos hsl] at hs
    cases hs
    omega
  · obtain ⟨t, ht⟩ := hufP_some h0
    rw [grownP_at ht hsl] at hs
    injection hs with hs
    have := h t ht
    have hd := dpt_ht s t (hufP_cnt1 ht s).1
    split at hs
    · unfold mx1 at hs; split at hs <;> omega
    · omega
/-- At ones it ends. -/
theorem ones_ok {f : List Int} {lim : Nat} (h1 : 1 ≤ lim) (hf : ∀ x ∈ f, x ≤ 1) (hu : usedN f ≤ 2 ^ lim) : okL (grownP f) lim = true := grownP_le h1 fun t ht => ht_ones hf hu ht
/-- What the halving keeps. -/
structure HOk (j : Nat) (f : List Int) (lim : Nat) : Prop where
  nn : ∀ x ∈ f, 0 ≤ x
  le : ∀ x ∈ f, x ≤ 2 ^ j
  us : usedN f ≤ 2 ^ lim
theorem HOk.half {j : Nat} {f : List Int} {lim : Nat} (h : HOk (j + 1) f lim) : HOk j (halfL f) lim := by
  refine ⟨fun x hx => ?_, fun x hx => ?_, ?_⟩
  · obtain ⟨y, hy, rfl⟩ := List.mem_map.1 hx; exact (half_pos (h.nn y hy)).1
  · obtain ⟨y, hy, rfl⟩ := List.mem_map.1 hx; exact half_le (h.le y hy)
  · unfold usedN; rw [leafs_half f 0 h.nn]; exact h.us
theorem HOk.fin {f : List Int} {lim : Nat} (h : HOk 0 f lim) (h1 : 1 ≤ lim) : okL (grownP f) lim = true := ones_ok h1 (fun x hx => h.le x hx) h.us
theorem lenF_ok : ∀ (j : Nat) (f : List Int) (lim : Nat), 1 ≤ lim → HOk j f lim → okL (lenF j f lim) lim = true
  | 0, f, lim, h1, h => h.fin h1
  | j + 1, f, lim, h1, h => by
    rw [lenF]
    split
    · rename_i h2; exact h2
    · exact lenF_ok j _ lim h1 h.half
theorem lenF_len : ∀ (j : Nat) (f : List Int) (lim : Int), (lenF j f lim).length = f.length
  | 0, f, lim => grownP_len f
  | j + 1, f, lim => by
    rw [lenF]
    split
    · exact grownP_len f
    · rw [lenF_len j]; exact List.length_map _
end Go.Fw

set_option linter.unusedSimpArgs false
set_option linter.unusedVariables false
set_option maxRecDepth 4000
namespace Go.Fw
open Go.Proofs Go.RowKit
/-! Lengths: what it answers. -/
theorem Try.enters33 : Enters Try.prog 33 := enters_of Try.func33 rfl (by kernel_rfl)
theorem Try.enters35 : Enters Try.prog 35 := enters_of Try.func35 rfl (by kernel_rfl)
theorem Try.enters16 : Enters Try.prog 16 := enters_of Try.func16 rfl (by kernel_rfl)
theorem Try.enters22 : Enters Try.prog 22 := enters_of Try.func22 rfl (by kernel_rfl)
theorem row_block {A' : St} {lo : Nat} {o : List Int} {ov : Value} (h : Row A' 3 1 lo (o.map (Value.int .i64 ·)) o.length ov) (hn : 0 < o.length) : ∃ ob sp, ov = .slice (some ⟨ob, 0, sp⟩) o.length o.length ∧ lo ≤ ob ∧ ob < A'.next ∧ A'.get ob = intB o ∧ (∀ i : Nat, i < o.length → indexAddrU Try.prog (some (.slice 3)) ov (.int .i64 i) = some (.pointer (some ⟨ob, i, none⟩))) ∧
    ∀ (B : St) (o' : List Int), o'.length = o.length → ob < B.next → B.get ob = intB o' → Row B 3 1 lo (o'.map (Value.int .i64 ·)) o'.length ov := by
  rcases h.2 with ⟨h0, _⟩ | ⟨ob, sp, rfl, h1, h2, h3, h4⟩
  · omega
  · refine ⟨ob, sp, rfl, h2, h3, h4, fun i hi => ?_, fun B o' ho' hb hg => ⟨by rw [List.length_map, Nat.mul_one], .inr ⟨ob, sp, by rw [ho'], h1, h2, hb, hg⟩⟩⟩
    refine (indexAddr_slice Try.prog .i64 3 ob 0 sp o.length o.length i (by omega) (by omega)).trans ?_
    rw [Try.sz3]; simp
theorem InRow.map {A : St} {lo : Nat} {l : List Int} {v : Value} (h : InRow A lo l v) : Row A 3 1 lo (l.map (Value.int .i64 ·)) l.length v := by unfold InRow at h; rwa [flat_i64] at h
theorem InRow.of {A : St} {lo : Nat} {l : List Int} {v : Value} (h : Row A 3 1 lo (l.map (Value.int .i64 ·)) l.length v) : InRow A lo l v := by unfold InRow; rwa [flat_i64]
theorem int_cells (l : List Int) : (l.map (Value.int .i64 ·)).all cell1 = true := by rw [List.all_map, List.all_eq_true]; intro x _; rfl
set_option maxHeartbeats 1000000 in
theorem clone_ok (w0 : World) (A : St) (f : List Int) (v : Value) (hv : InView A f v) (hn : f.length ≤ 1000) : ACalls Try.prog w0 33 #[v] A (RowPost A f) := by
  refine call_E (l := [v]) Try.enters33 Try.func33 rfl (Nat.le_of_ble_eq_true rfl) fun hw hbd => ?_
  obtain ⟨ad, c, rfl⟩ : ∃ ad c, v = .slice ad f.length c := by
    rcases hv.2 with ⟨h0, ad, c, rfl⟩ | ⟨b, off, sp, c, cells, e, m, rfl, _⟩
    · exact ⟨ad, c, by rw [h0]⟩
    · exact ⟨_, c, rfl⟩
  cases ad with
  | none =>
    have hf0 : f = [] := by
      rcases hv.2 with ⟨h0, _⟩ | ⟨b, off, sp, c, cells, e, m, h, _⟩
      · exact List.eq_nil_of_length_eq_zero h0
      · cases h
    subst hf0
    simp (maxSteps := 1000000) (disch := first | omega | (simp only [Fw.z1, Fw.z2, Fw.z3, Fw.z4, Fw.z5, Fw.z6, Fw.z7] <;> omega) | fail) only [go_sem, Try.ntmps33, Try.results33]
    exact gc_here ⟨_, rfl, Over.refl _, Row.nil ..⟩
  | some ad =>
    have o1 : Over A (A.alloc (.cells [] 3 (some 0))) := (Over.refl A).alloc _
    have hv1 : InView (A.alloc (.cells [] 3 (some 0))) f (.slice (some ad) f.length c) := View.over hv o1
    unfold InView at hv1
    rw [flat_i64] at hv1
    obtain ⟨v', A2, h1, h2, h3, h4, h5, h6⟩ := row_src (A := A.alloc (.cells [] 3 (some 0))) (lo := A.next) (x := .slice (some ad) f.length c) (m := f.length) (new := f.map (Value.int .i64 ·)) (v := .slice (some ⟨A.next, 0, none⟩) 0 0) (cs := []) (len := 0) Try.el35 Try.underlying35 (by intro k; exact TypeDesc.noConfusion) Try.sz3 Try.byt3 Try.zero3 rfl ⟨rfl, .inr ⟨A.next, none, rfl, .inl rfl, Nat.le_refl _, by rw [nx_alloc]; omega, get_alloc_same ..⟩⟩ (by rw [nx_alloc]; omega) (View.src hv1) (by simp) (by omega) (by omega) (int_cells f)
    simp (maxSteps := 1000000) (disch := first | omega | (simp only [Fw.z1, Fw.z2, Fw.z3, Fw.z4, Fw.z5, Fw.z6, Fw.z7] <;> omega) | fail) only [go_sem, Try.ntmps33, Try.results33, h1]
    refine gc_here ⟨v', rfl, ⟨by rw [nx_alloc] at h3; omega, fun b hb => ?_⟩, InRow.of (by rw [List.nil_append, Nat.zero_add f.length] at h2; exact h2)⟩
    rw [h4 b (by rw [nx_alloc]; omega) (by intro e; cases e; omega)]; exact get_alloc_old hb
theorem okL_snoc (l : List Int) (x lim : Int) : okL (l ++ [x]) lim = (okL l lim && decide (x ≤ lim)) := by unfold okL; rw [List.all_append]; simp
set_option maxHeartbeats 2000000 in
theorem max_ok (w0 : World) (A : St) (l : List Int) (v : Value) (hv : InView A l v) (h0 : l ≠ []) (hn : l.length ≤ 1000000) : ACalls Try.prog w0 35 #[v] A fun e A' => ∃ m : Int, e = .returned (.int .i64 m) ∧ A' = A ∧ ∀ lim, m ≤ lim ↔ okL l lim = true := by
  refine call_E (l := [v]) Try.enters35 Try.func35 rfl (Nat.le_of_ble_eq_true rfl) fun hw hbd => ?_
  have hlen : ∀ X, lenU X (some (.slice 3)) v = some (.int .i64 l.length, X) := View.lenX hv
  have hl0 : 0 < l.length := List.length_pos_iff.2 h0
  have e0 : ¬ ((l.length : Nat) : Int) < 1 := by omega
  obtain ⟨y, hy⟩ : ∃ y, l[0]? = some y := ⟨_, List.getElem?_eq_getElem hl0⟩
  obtain ⟨pb, po, hb1, hb2, hb3, cells, e', md, hb4, hb5⟩ := View.at1 (P := Try.prog) (e := 3) hv Try.sz3 (i64E_at _ 0 y hy)
  have hb3' : indexAddrU Try.prog (some (.slice 3)) v (.int .i64 0) = _ := hb3 .i64
  simp (maxSteps := 1000000) (disch := first | omega | (simp only [Fw.z1, Fw.z2, Fw.z3, Fw.z4, Fw.z5, Fw.z6, Fw.z7] <;> omega) | fail) only [go_sem, Try.ntmps35, Try.results35, hlen, e0, hb3', hb4, hb5]
  refine aw_loop (fun k x A' => ∃ (ρ : Nat → Value) (i : Nat) (m : Int), x = E 25 ρ [] ∧ A' = A ∧ k = l.length - i ∧ i ≤ l.length ∧ (∀ lim, m ≤ lim ↔ okL (l.take i) lim = true) ∧ ρ 0 = v ∧ ρ 3 = .int .i64 m ∧ ρ 4 = .int .i64 i) (l.length - 1)
    ⟨_, 1, y, rfl, rfl, by omega, by omega, fun lim => ?_, rfl, rfl, rfl⟩ ?_
  · have : l.take 1 = [y] := by rw [List.take_add_one, hy]; rfl
    rw [this]; simp [okL]
  clear hb1 hb2 hb3 hb3' hb4 hb5
  rintro k x A' ⟨ρ, i, m, rfl, rfl, hk, hi, hm, g0, g3, g4⟩
  refine aw_of ?_
  by_cases hend : i = l.length
  · have e1 : ¬ ((i : Int) < l.length) := by omega
    rw [hend, List.take_length] at hm
    simp (maxSteps := 1000000) (disch := first | omega | (simp only [Fw.z1, Fw.z2, Fw.z3, Fw.z4, Fw.z5, Fw.z6, Fw.z7] <;> omega) | fail) only [go_sem, g0, g3, g4, hlen, e1, Try.results35]
    exact gc_here ⟨m, rfl, rfl, hm⟩
  have e1 : ((i : Int) < l.length) := by omega
  obtain ⟨n, hx⟩ : ∃ x, l[i]? = some x := ⟨_, List.getElem?_eq_getElem (by omega)⟩
  obtain ⟨pb, po, hb1, hb2, hb3, cells, e', md, hb4, hb5⟩ := View.at1 (P := Try.prog) (e := 3) hv Try.sz3 (i64E_at _ i n hx)
  have htk : l.take (i + 1) = l.take i ++ [n] := by rw [List.take_add_one, hx]; rfl
  simp (maxSteps := 1000000) (disch := first | omega | (simp only [Fw.z1, Fw.z2, Fw.z3, Fw.z4, Fw.z5, Fw.z6, Fw.z7] <;> omega) | fail) only [go_sem, g0, g3, g4, hlen, e1, hb3, hb4, hb5]
  refine ⟨k - 1, by omega, _, i + 1, if m < n then n else m, rfl, by omega, by omega, fun lim => ?_, ?_, ?_, ?_⟩
  · rw [htk, okL_snoc, Bool.and_eq_true, ← hm lim, decide_eq_true_eq]
    split <;> omega
  · simp (maxSteps := 1000000) (disch := first | omega | (simp only [Fw.z1, Fw.z2, Fw.z3, Fw.z4, Fw.z5, Fw.z6, Fw.z7] <;> omega) | fail) only [go_sem, g0]
  · simp (maxSteps := 1000000) (disch := first | omega | (simp only [Fw.z1, Fw.z2, Fw.z3, Fw.z4, Fw.z5, Fw.z6, Fw.z7] <;> omega) | fail) only [go_sem]
  · simp (maxSteps := 1000000) (disch := first | omega | (simp only [Fw.z1, Fw.z2, Fw.z3, Fw.z4, Fw.z5, Fw.z6, Fw.z7] <;> omega) | fail) only [go_sem]
    rfl
def lengthsP (f : List Int) (lim : Int) : List Int × Int :=
  if 300 < f.length ∨ lim < 1 ∨ 15 < lim then ([], 1)
  else if f.any (fun x => decide (x < 0) || decide (1048576 < x)) then ([], 1)
  else if 2 ^ lim.toNat < usedN f then ([], 1)
  else (lenF 20 f lim, 0)
def LenPost (A : St) (p : List Int × Int) (e : Ending) (A' : St) : Prop := ∃ v, e = .returned (.tuple #[v, .int .i64 p.2]) ∧ Over A A' ∧ InRow A' A.next p.1 v
theorem usedN_snoc (l : List Int) (x : Int) : usedN (l ++ [x]) = usedN l + if 0 < x then 1 else 0 := by
  unfold usedN
  rw [leafs_app]
  split <;> simp
theorem usedN_le (l : List Int) : usedN l ≤ l.length := leafs_len l 0
theorem any_bad {f : List Int} {x : Int} (hx : x ∈ f) (h : x < 0 ∨ 1048576 < x) : f.any (fun x => decide (x < 0) || decide (1048576 < x)) = true := by
  rw [List.any_eq_true]
  exact ⟨x, hx, by rcases h with h | h <;> simp [h]⟩
theorem no_bad {f : List Int} (h : ∀ x ∈ f, 0 ≤ x ∧ x ≤ 1048576) : ¬ f.any (fun x => decide (x < 0) || decide (1048576 < x)) = true := by
  rw [List.any_eq_true]
  rintro ⟨x, hx, hb⟩
  have := h x hx
  simp at hb
  omega
theorem ishl_lim {L : Nat} (h : L ≤ 15) : ishl .i64 1 (L : Int) = ((2 ^ L : Nat) : Int) := by
  have : ∀ L : Fin 16, ishl .i64 1 (L.1 : Int) = ((2 ^ L.1 : Nat) : Int) := by decide
  exact this ⟨L, by omega⟩
/-- Half way through the halving. -/
def hvL (i : Nat) (g : List Int) : List Int := (g.take i).map half ++ g.drop i
theorem hvL_len (i : Nat) (g : List Int) : (hvL i g).length = g.length := by
  unfold hvL; rw [List.length_append, List.length_map, ← List.length_append, List.take_append_drop]
theorem hvL_all (g : List Int) : hvL g.length g = halfL g := by unfold hvL halfL; rw [List.take_length, List.drop_length, List.append_nil]
theorem hvL_step {i : Nat} {g : List Int} {x : Int} (hx : g[i]? = some x) : (hvL i g)[i]? = some x ∧ (hvL i g).set i (half x) = hvL (i + 1) g := by
  have hi := (List.getElem?_eq_some_iff.1 hx).1
  have hd : g.drop i = x :: g.drop (i + 1) := by
    rw [List.drop_eq_getElem_cons hi]
    congr 1
    exact (List.getElem?_eq_some_iff.1 hx).2
  have hl : ((g.take i).map half).length = i := by rw [List.length_map]; exact List.length_take_of_le (by omega)
  have e1 := at_app ((g.take i).map half) x (g.drop (i + 1))
  have e2 := set_app ((g.take i).map half) x (half x) (g.drop (i + 1))
  rw [hl] at e1 e2
  unfold hvL
  rw [hd]
  refine ⟨e1, ?_⟩
  rw [e2, List.take_add_one, hx]
  show _ = List.map half (List.take i g ++ [x]) ++ _
  rw [List.map_append]; simp
set_option maxHeartbeats 8000000 in
theorem lengths_ok (w0 : World) (A : St) (f : List Int) (v : Value) (lim : Int) (hv : InView A f v) (hn : f.length ≤ 1000) :
    ACalls Try.prog w0 16 #[v, .int .i64 lim] A (LenPost A (lengthsP f lim)) := by
  refine call_E (l := [v, .int .i64 lim]) Try.enters16 Try.func16 rfl (Nat.le_of_ble_eq_true rfl) fun hw hbd => ?_
  have hlen : ∀ X, lenU X (some (.slice 3)) v = some (.int .i64 f.length, X) := View.lenX hv
  have herr : ∀ {p : List Int × Int}, p = ([], 1) → GcE A (LenPost A p) (.returned (.tuple #[.slice none 0 0, .int .i64 1])) A := by
    rintro p rfl
    exact gc_here ⟨_, rfl, Over.refl A, Row.nil ..⟩
  by_cases h1 : 300 < f.length
  · have h1' : ((f.length : Nat) : Int) > 300 := by omega
    simp (maxSteps := 1000000) (disch := first | omega | (simp only [Fw.z1, Fw.z2, Fw.z3, Fw.z4, Fw.z5, Fw.z6, Fw.z7] <;> omega) | fail) only [go_sem, Try.ntmps16, Try.results16, hlen, h1']
    exact herr (if_pos (.inl h1))
  have h1' : ¬ ((f.length : Nat) : Int) > 300 := by omega
  by_cases h2 : lim < 1
  · simp (maxSteps := 1000000) (disch := first | omega | (simp only [Fw.z1, Fw.z2, Fw.z3, Fw.z4, Fw.z5, Fw.z6, Fw.z7] <;> omega) | fail) only [go_sem, Try.ntmps16, Try.results16, hlen, h1', h2]
    exact herr (if_pos (.inr (.inl h2)))
  by_cases h3 : lim > 15
  · simp (maxSteps := 1000000) (disch := first | omega | (simp only [Fw.z1, Fw.z2, Fw.z3, Fw.z4, Fw.z5, Fw.z6, Fw.z7] <;> omega) | fail) only [go_sem, Try.ntmps16, Try.results16, hlen, h1', h2, h3]
    exact herr (if_pos (.inr (.inr h3)))
  have hP : lengthsP f lim = if f.any (fun x => decide (x < 0) || decide (1048576 < x)) then ([], 1) else if 2 ^ lim.toNat < usedN f then ([], 1) else (lenF 20 f lim, 0) := if_neg (by omega)
  simp (maxSteps := 1000000) (disch := first | omega | (simp only [Fw.z1, Fw.z2, Fw.z3, Fw.z4, Fw.z5, Fw.z6, Fw.z7] <;> omega) | fail) only [go_sem, Try.ntmps16, Try.results16, hlen, h1', h2, h3]
  refine aw_loop (fun k x A' => ∃ (ρ : Nat → Value) (i : Nat), x = E 73 ρ [] ∧ A' = A ∧ k = f.length - i ∧ i ≤ f.length ∧ (∀ x ∈ f.take i, 0 ≤ x ∧ x ≤ 1048576) ∧ ρ 0 = v ∧ ρ 1 = .int .i64 lim ∧ ρ 6 = .int .i64 (usedN (f.take i) : Nat) ∧ ρ 23 = v ∧ ρ 24 = .int .i64 f.length ∧ ρ 25 = .int .i64 i) f.length
    ⟨_, 0, rfl, rfl, rfl, Nat.zero_le _, fun x hx => (by simp at hx), rfl, rfl, rfl, rfl, rfl, rfl⟩ ?_
  rintro k x A' ⟨ρ, i, rfl, rfl, hk, hi, hok, r0, r1, r6, r23, r24, r25⟩
  refine aw_of ?_
  have hul := usedN_le (f.take i)
  have htk : (f.take i).length ≤ i := List.length_take_le ..
  by_cases hend : i = f.length
  rotate_left
  · have e1 : (i : Int) < (f.length : Int) := by omega
    obtain ⟨n, hx⟩ : ∃ x, f[i]? = some x := ⟨_, List.getElem?_eq_getElem (by omega)⟩
    obtain ⟨pb, po, hb1, hb2, hb3, cells, e', md, hb4, hb5⟩ := View.at1 (P := Try.prog) (e := 3) hv Try.sz3 (i64E_at _ i n hx)
    have hmem := List.mem_of_getElem? hx
    have htk2 : f.take (i + 1) = f.take i ++ [n] := by rw [List.take_add_one, hx]; rfl
    have hus := usedN_snoc (f.take i) n
    rw [← htk2] at hus
    by_cases b1 : n < 0
    · simp (maxSteps := 1000000) (disch := first | omega | (simp only [Fw.z1, Fw.z2, Fw.z3, Fw.z4, Fw.z5, Fw.z6, Fw.z7] <;> omega) | fail) only [go_sem, r0, r1, r23, r24, r25, e1, hb3, hb4, hb5, b1, Try.results16]
      exact herr (by rw [hP, if_pos (any_bad hmem (.inl b1))])
    by_cases b2 : n > 1048576
    · simp (maxSteps := 1000000) (disch := first | omega | (simp only [Fw.z1, Fw.z2, Fw.z3, Fw.z4, Fw.z5, Fw.z6, Fw.z7] <;> omega) | fail) only [go_sem, r0, r1, r23, r24, r25, e1, hb3, hb4, hb5, b1, b2, Try.results16]
      exact herr (by rw [hP, if_pos (any_bad hmem (.inr b2))])
    have hok2 : ∀ x ∈ f.take (i + 1), 0 ≤ x ∧ x ≤ 1048576 := fun x hx => by
      rw [htk2] at hx
      rcases List.mem_append.1 hx with hx | hx
      · exact hok x hx
      · rw [List.mem_singleton.1 hx]; omega
    simp (maxSteps := 1000000) (disch := first | omega | (simp only [Fw.z1, Fw.z2, Fw.z3, Fw.z4, Fw.z5, Fw.z6, Fw.z7] <;> omega) | fail) only [go_sem, r0, r1, r6, r23, r24, r25, e1, hb3, hb4, hb5, b1, b2]
    refine ⟨k - 1, by omega, _, i + 1, rfl, by omega, by omega, hok2, ?_, ?_, ?_, ?_, ?_, ?_⟩
    · simp (maxSteps := 1000000) (disch := first | omega | (simp only [Fw.z1, Fw.z2, Fw.z3, Fw.z4, Fw.z5, Fw.z6, Fw.z7] <;> omega) | fail) only [go_sem, r0]
    · simp (maxSteps := 1000000) (disch := first | omega | (simp only [Fw.z1, Fw.z2, Fw.z3, Fw.z4, Fw.z5, Fw.z6, Fw.z7] <;> omega) | fail) only [go_sem, r1]
    · simp (maxSteps := 1000000) (disch := first | omega | (simp only [Fw.z1, Fw.z2, Fw.z3, Fw.z4, Fw.z5, Fw.z6, Fw.z7] <;> omega) | fail) only [go_sem]
      rw [hus]
      congr 1
      split <;> split <;> omega
    · simp (maxSteps := 1000000) (disch := first | omega | (simp only [Fw.z1, Fw.z2, Fw.z3, Fw.z4, Fw.z5, Fw.z6, Fw.z7] <;> omega) | fail) only [go_sem, r23]
    · simp (maxSteps := 1000000) (disch := first | omega | (simp only [Fw.z1, Fw.z2, Fw.z3, Fw.z4, Fw.z5, Fw.z6, Fw.z7] <;> omega) | fail) only [go_sem, r24]
    · simp (maxSteps := 1000000) (disch := first | omega | (simp only [Fw.z1, Fw.z2, Fw.z3, Fw.z4, Fw.z5, Fw.z6, Fw.z7] <;> omega) | fail) only [go_sem]
      rfl
  have e1 : ¬ ((i : Int) < (f.length : Int)) := by omega
  rw [hend, List.take_length] at hok r6 hul
  obtain ⟨L, rfl⟩ := Int.eq_ofNat_of_zero_le (show 0 ≤ lim by omega)
  have hsh := ishl_lim (L := L) (by omega)
  rw [if_neg (no_bad hok), Int.toNat_natCast] at hP
  by_cases hus : 2 ^ L < usedN f
  · have e2 : ((2 ^ L : Nat) : Int) < (usedN f : Nat) := by omega
    simp (maxSteps := 1000000) (disch := first | omega | (simp only [Fw.z1, Fw.z2, Fw.z3, Fw.z4, Fw.z5, Fw.z6, Fw.z7] <;> omega) | fail) only [go_sem, r0, r1, r6, r23, r24, r25, e1, hsh, e2, Try.results16]
    exact herr (by rw [hP, if_pos hus])
  rw [if_neg hus] at hP
  have e2 : ¬ (((2 ^ L : Nat) : Int) < (usedN f : Nat)) := by omega
  simp (maxSteps := 1000000) (disch := first | omega | (simp only [Fw.z1, Fw.z2, Fw.z3, Fw.z4, Fw.z5, Fw.z6, Fw.z7] <;> omega) | fail) only [go_sem, r0, r1, r6, r23, r24, r25, e1, hsh, e2]
  refine (clone_ok w0 A' f v hv (by omega)).mono ?_
  rintro e A1 ⟨fv, rfl, o1, rf⟩
  simp (maxSteps := 1000000) (disch := first | omega | (simp only [Fw.z1, Fw.z2, Fw.z3, Fw.z4, Fw.z5, Fw.z6, Fw.z7] <;> omega) | fail) only [go_sem]
  have hk0 : HOk 20 f L := ⟨fun x hx => (hok x hx).1, fun x hx => (hok x hx).2, by omega⟩
  refine aw_loop (fun k x B => ∃ (ρ : Nat → Value) (g : List Int) (fv : Value), x = E 73 ρ [] ∧ Over A' B ∧ Row B 3 1 A'.next (g.map (Value.int .i64 ·)) g.length fv ∧ g.length = f.length ∧ HOk k g L ∧ (∀ x ∈ g, x ≤ 1048576) ∧ lenF k g L = lenF 20 f L ∧ ρ 1 = .int .i64 L ∧ ρ 9 = fv) 20
    ⟨_, f, fv, rfl, o1, rf.map, rfl, hk0, fun x hx => (hok x hx).2, rfl, by first | rfl | exact r1, rfl⟩ ?_
  clear r0 r1 r6 r23 r24 r25 o1 rf hk0
  rintro k x B ⟨ρ, g, fv, rfl, ob, rg, hgl, hko, hg20, hlf, r1, r9⟩
  refine aw_of ?_
  simp (maxSteps := 1000000) (disch := first | omega | (simp only [Fw.z1, Fw.z2, Fw.z3, Fw.z4, Fw.z5, Fw.z6, Fw.z7] <;> omega) | fail) only [go_sem, r1, r9]
  refine (grown_ok w0 B g fv (InRow.of rg).view (fun x hx => ⟨hko.nn x hx, hg20 x hx⟩) (by omega)).mono ?_
  rintro e B1 ⟨lv, rfl, o2, rl⟩
  have hll : ∀ X, lenU X (some (.slice 3)) lv = some (.int .i64 (grownP g).length, X) := View.lenX rl.view
  rw [grownP_len] at hll
  by_cases hg0 : g.length = 0
  · have e3 : ((g.length : Nat) : Int) = 0 := by omega
    simp (maxSteps := 1000000) (disch := first | omega | (simp only [Fw.z1, Fw.z2, Fw.z3, Fw.z4, Fw.z5, Fw.z6, Fw.z7] <;> omega) | fail) only [go_sem, r1, hll, e3, Try.results16]
    refine gc_here ⟨lv, by rw [hP], ob.trans o2, ?_⟩
    have : grownP g = lenF 20 f L := by
      rw [List.eq_nil_of_length_eq_zero ((grownP_len g).trans hg0), List.eq_nil_of_length_eq_zero ((lenF_len 20 f L).trans (hgl.symm.trans hg0))]
    rw [hP, ← this]
    exact rl.keep (Nat.le_refl _) (fun _ _ _ _ => rfl) ob.next
  have e3 : ¬ ((g.length : Nat) : Int) = 0 := by omega
  simp (maxSteps := 1000000) (disch := first | omega | (simp only [Fw.z1, Fw.z2, Fw.z3, Fw.z4, Fw.z5, Fw.z6, Fw.z7] <;> omega) | fail) only [go_sem, r1, hll, e3]
  refine (max_ok w0 B1 (grownP g) lv rl.view (fun h => hg0 (by rw [← grownP_len g, h]; rfl)) (by rw [grownP_len]; omega)).mono ?_
  rintro e B2 ⟨mx, rfl, rfl, hmx⟩
  have hmL := hmx L
  by_cases hle : mx ≤ (L : Int)
  · simp (maxSteps := 1000000) (disch := first | omega | (simp only [Fw.z1, Fw.z2, Fw.z3, Fw.z4, Fw.z5, Fw.z6, Fw.z7] <;> omega) | fail) only [go_sem, r1, hle, Try.results16]
    refine gc_here ⟨lv, by rw [hP], ob.trans o2, ?_⟩
    have : grownP g = lenF 20 f L := by
      rw [← hlf]
      cases k with
      | zero => rfl
      | succ k => rw [lenF, if_pos (hmL.1 hle)]
    rw [hP, ← this]
    exact rl.keep (Nat.le_refl _) (fun _ _ _ _ => rfl) ob.next
  have hnk : ¬ okL (grownP g) L = true := fun h => hle (hmL.2 h)
  obtain ⟨k', rfl⟩ : ∃ k', k = k' + 1 := by
    cases k with
    | zero => exact absurd (hko.fin (by omega)) hnk
    | succ k => exact ⟨k, rfl⟩
  rw [lenF, if_neg hnk] at hlf
  have rg2 := rg.over o2
  obtain ⟨fb, sp, hfv, hb1, hb2, hb3, hb4, hb5⟩ := row_block rg2 (by omega)
  have hlv : ∀ X, lenU X (some (.slice 3)) fv = some (.int .i64 g.length, X) := View.lenX (InRow.of rg).view
  simp (maxSteps := 1000000) (disch := first | omega | (simp only [Fw.z1, Fw.z2, Fw.z3, Fw.z4, Fw.z5, Fw.z6, Fw.z7] <;> omega) | fail) only [go_sem, r1, r9, hle, hlv]
  refine aw_loop (fun m x C => ∃ (ρ : Nat → Value) (i : Nat), x = E 73 ρ [] ∧ m = g.length - i ∧ i ≤ g.length ∧ C = B2.upd fb (intB (hvL i g)) ∧ ρ 1 = .int .i64 L ∧ ρ 9 = fv ∧ ρ 59 = .int .i64 g.length ∧ ρ 60 = .int .i64 i) g.length
    ⟨_, 0, rfl, rfl, Nat.zero_le _, (upd_id hb3).symm, by first | rfl | exact r1, by first | rfl | exact r9, rfl, rfl⟩ ?_
  clear r1 r9
  rintro m x C ⟨ρ, i, rfl, hm, hi, hC, r1, r9, r59, r60⟩
  refine aw_of ?_
  have gC : C.get fb = intB (hvL i g) := by rw [hC]; exact get_upd_same ..
  by_cases hend2 : i = g.length
  · have e4 : ¬ ((i : Int) < (g.length : Nat)) := by omega
    rw [hend2, hvL_all] at hC gC
    simp (maxSteps := 1000000) (disch := first | omega | (simp only [Fw.z1, Fw.z2, Fw.z3, Fw.z4, Fw.z5, Fw.z6, Fw.z7] <;> omega) | fail) only [go_sem, r1, r9, r59, r60, e4]
    refine ⟨k', by omega, _, halfL g, fv, rfl, ?_, ?_, ?_, hko.half, ?_, hlf, ?_, ?_⟩
    · rw [hC]; exact (ob.trans o2).upd hb1 _
    · exact hb5 C (halfL g) (List.length_map _) (by rw [hC]; exact hb2) gC
    · rw [← hgl]; exact List.length_map _
    · intro x hx
      obtain ⟨y, hy, rfl⟩ := List.mem_map.1 hx
      exact Int.le_trans (half_pos (hko.nn y hy)).2.2 (hg20 y hy)
    · simp (maxSteps := 1000000) (disch := first | omega | (simp only [Fw.z1, Fw.z2, Fw.z3, Fw.z4, Fw.z5, Fw.z6, Fw.z7] <;> omega) | fail) only [go_sem, r1]
    · simp (maxSteps := 1000000) (disch := first | omega | (simp only [Fw.z1, Fw.z2, Fw.z3, Fw.z4, Fw.z5, Fw.z6, Fw.z7] <;> omega) | fail) only [go_sem, r9]
  have e4 : (i : Int) < (g.length : Nat) := by omega
  obtain ⟨n, hx⟩ : ∃ x, g[i]? = some x := ⟨_, List.getElem?_eq_getElem (by omega)⟩
  obtain ⟨s1, s2⟩ := hvL_step hx
  have hn0 := hko.nn n (List.mem_of_getElem? hx)
  have hn1 := hg20 n (List.mem_of_getElem? hx)
  have htd : (n + 1).tdiv 2 = half n := by rw [Int.tdiv_eq_ediv_of_nonneg (by omega)]; rfl
  have hix := hb4 i (by omega)
  have s1' : ((hvL i g).map (Value.int .i64 ·))[i]? = some (.int .i64 n) := by rw [List.getElem?_map, s1]; rfl
  have hst := map_set (hvL i g) i (half n)
  rw [s2] at hst
  have hvl := hvL_len i g
  unfold intB at gC
  have hhf := half_pos hn0
  have hwr : IntKind.i64.wrap (half n) = half n := wrap_small hhf.1 (by omega)
  simp (maxSteps := 1000000) (disch := first | omega | (simp only [Fw.z1, Fw.z2, Fw.z3, Fw.z4, Fw.z5, Fw.z6, Fw.z7] <;> omega) | fail) only [go_sem, r1, r9, r59, r60, e4, hix, gC, s1', htd, hwr, hst]
  refine ⟨m - 1, by omega, _, i + 1, rfl, by omega, by omega, ?_, ?_, ?_, ?_, ?_⟩
  · rw [hC, upd_upd]
  · simp (maxSteps := 1000000) (disch := first | omega | (simp only [Fw.z1, Fw.z2, Fw.z3, Fw.z4, Fw.z5, Fw.z6, Fw.z7] <;> omega) | fail) only [go_sem, r1]
  · simp (maxSteps := 1000000) (disch := first | omega | (simp only [Fw.z1, Fw.z2, Fw.z3, Fw.z4, Fw.z5, Fw.z6, Fw.z7] <;> omega) | fail) only [go_sem, r9]
  · simp (maxSteps := 1000000) (disch := first | omega | (simp only [Fw.z1, Fw.z2, Fw.z3, Fw.z4, Fw.z5, Fw.z6, Fw.z7] <;> omega) | fail) only [go_sem, r59]
  · simp (maxSteps := 1000000) (disch := first | omega | (simp only [Fw.z1, Fw.z2, Fw.z3, Fw.z4, Fw.z5, Fw.z6, Fw.z7] <;> omega) | fail) only [go_sem]
    rfl
end Go.Fw

set_option linter.unusedSimpArgs false
set_option linter.unusedVariables false
set_option maxRecDepth 4000
namespace Go.Fw
open Go.Proofs Go.RowKit
/-! Lengths of the document. -/
theorem int_push {A : St} {lo : Nat} {l : List Int} {v : Value} (h : Row A 3 1 lo (l.map (Value.int .i64 ·)) l.length v) (x : Int) (hlo : lo ≤ A.next) (hl : l.length ≤ 1000000) :
    ∃ v' A2, aappend Try.prog (A.alloc (.cells [.int .i64 x] 3 (some 0))) 35 35 v (.slice (some ⟨A.next, 0, none⟩) 1 1) = some (v', A2) ∧ Row A2 3 1 lo ((l ++ [x]).map (Value.int .i64 ·)) (l ++ [x]).length v' ∧ A2.next = A.next + 2 ∧ rowB v' = some (A.next + 1) ∧ ∀ b, b < A.next → rowB v ≠ some b → A2.get b = A.get b := by
  obtain ⟨v', A2, h1, h2, h3, h4, h5⟩ := row_push (A := A) (sp := none) (c := 1) (xs := [.int .i64 x]) Try.el35 Try.underlying35 (by intro k; exact TypeDesc.noConfusion) Try.sz3 Try.byt3 Try.zero3 rfl h hlo (by omega) (by omega) rfl rfl
  exact ⟨v', A2, h1, by rw [List.map_append, List.length_append]; exact h2, h3, h4, h5⟩
set_option maxHeartbeats 8000000 in
theorem rlengths_ok (w0 : World) (A : St) (f : List Int) (v : Value) (lim : Int) (hv : InView A f v) (hn : f.length ≤ 1000) :
    ACalls Try.prog w0 22 #[v, .int .i64 lim] A (LenPost A (lengthsP f lim)) := by
  refine call_E (l := [v, .int .i64 lim]) Try.enters22 Try.func22 rfl (Nat.le_of_ble_eq_true rfl) fun hw hbd => ?_
  have hlen : ∀ X, lenU X (some (.slice 3)) v = some (.int .i64 f.length, X) := View.lenX hv
  have herr : ∀ {p : List Int × Int} {B : St}, Over A B → p = ([], 1) → GcE A (LenPost A p) (.returned (.tuple #[.slice none 0 0, .int .i64 1])) B := by
    rintro p B o rfl
    exact gc_here ⟨_, rfl, o, Row.nil ..⟩
  by_cases h1 : 300 < f.length
  · have h1' : ((f.length : Nat) : Int) > 300 := by omega
    simp (maxSteps := 1000000) (disch := first | omega | (simp only [Fw.z1, Fw.z2, Fw.z3, Fw.z4, Fw.z5, Fw.z6, Fw.z7] <;> omega) | fail) only [go_sem, Try.ntmps22, Try.results22, hlen, h1']
    exact herr (Over.refl _) (if_pos (.inl h1))
  have h1' : ¬ ((f.length : Nat) : Int) > 300 := by omega
  by_cases h2 : lim < 1
  · simp (maxSteps := 1000000) (disch := first | omega | (simp only [Fw.z1, Fw.z2, Fw.z3, Fw.z4, Fw.z5, Fw.z6, Fw.z7] <;> omega) | fail) only [go_sem, Try.ntmps22, Try.results22, hlen, h1', h2]
    exact herr (Over.refl _) (if_pos (.inr (.inl h2)))
  by_cases h3 : lim > 15
  · simp (maxSteps := 1000000) (disch := first | omega | (simp only [Fw.z1, Fw.z2, Fw.z3, Fw.z4, Fw.z5, Fw.z6, Fw.z7] <;> omega) | fail) only [go_sem, Try.ntmps22, Try.results22, hlen, h1', h2, h3]
    exact herr (Over.refl _) (if_pos (.inr (.inr h3)))
  have hP : lengthsP f lim = if f.any (fun x => decide (x < 0) || decide (1048576 < x)) then ([], 1) else if 2 ^ lim.toNat < usedN f then ([], 1) else (lenF 20 f lim, 0) := if_neg (by omega)
  simp (maxSteps := 1000000) (disch := first | omega | (simp only [Fw.z1, Fw.z2, Fw.z3, Fw.z4, Fw.z5, Fw.z6, Fw.z7] <;> omega) | fail) only [go_sem, Try.ntmps22, Try.results22, hlen, h1', h2, h3]
  refine aw_loop (fun k x A' => ∃ (ρ : Nat → Value) (i : Nat) (fv : Value), x = E 99 ρ [] ∧ Over A A' ∧ Row A' 3 1 A.next ((f.take i).map (Value.int .i64 ·)) (f.take i).length fv ∧ k = f.length - i ∧ i ≤ f.length ∧ (∀ x ∈ f.take i, 0 ≤ x ∧ x ≤ 1048576) ∧ ρ 0 = v ∧ ρ 1 = .int .i64 lim ∧ ρ 6 = .int .i64 (usedN (f.take i) : Nat) ∧ ρ 7 = fv ∧ ρ 8 = .int .i64 i) f.length
    ⟨_, 0, _, rfl, (Over.refl A).alloc _, ⟨rfl, .inr ⟨A.next, none, rfl, .inl rfl, Nat.le_refl _, by rw [nx_alloc]; omega, get_alloc_same ..⟩⟩, rfl, Nat.zero_le _, fun x hx => (by simp at hx), rfl, rfl, rfl, rfl, rfl⟩ ?_
  rintro k x A' ⟨ρ, i, fv, rfl, oA, rf, hk, hi, hok, r0, r1, r6, r7, r8⟩
  refine aw_of ?_
  have hul := usedN_le (f.take i)
  have htk : (f.take i).length ≤ i := List.length_take_le ..
  by_cases hend : i = f.length
  rotate_left
  · have e1 : (i : Int) < (f.length : Int) := by omega
    obtain ⟨n, hx⟩ : ∃ x, f[i]? = some x := ⟨_, List.getElem?_eq_getElem (by omega)⟩
    obtain ⟨pb, po, hb1, hb2, hb3, cells, e', md, hb4, hb5⟩ := View.at1 (P := Try.prog) (e := 3) (View.over hv oA) Try.sz3 (i64E_at _ i n hx)
    have hmem := List.mem_of_getElem? hx
    have htk2 : f.take (i + 1) = f.take i ++ [n] := by rw [List.take_add_one, hx]; rfl
    have hus := usedN_snoc (f.take i) n
    rw [← htk2] at hus
    by_cases b1 : n < 0
    · simp (maxSteps := 1000000) (disch := first | omega | (simp only [Fw.z1, Fw.z2, Fw.z3, Fw.z4, Fw.z5, Fw.z6, Fw.z7] <;> omega) | fail) only [go_sem, r0, r1, r7, r8, hlen, e1, hb3, hb4, hb5, b1, Try.results22]
      exact herr oA (by rw [hP, if_pos (any_bad hmem (.inl b1))])
    by_cases b2 : n > 1048576
    · simp (maxSteps := 1000000) (disch := first | omega | (simp only [Fw.z1, Fw.z2, Fw.z3, Fw.z4, Fw.z5, Fw.z6, Fw.z7] <;> omega) | fail) only [go_sem, r0, r1, r7, r8, hlen, e1, hb3, hb4, hb5, b1, b2, Try.results22]
      exact herr oA (by rw [hP, if_pos (any_bad hmem (.inr b2))])
    have hok2 : ∀ x ∈ f.take (i + 1), 0 ≤ x ∧ x ≤ 1048576 := fun x hx => by
      rw [htk2] at hx
      rcases List.mem_append.1 hx with hx | hx
      · exact hok x hx
      · rw [List.mem_singleton.1 hx]; omega
    obtain ⟨v', A2, q1, q2, q3, q4, q5⟩ := int_push rf n oA.next (by omega)
    rw [← htk2] at q2
    have oA2 : Over A A2 := ⟨by have := oA.next; omega, fun b hb => (q5 b (by have := oA.next; omega) (rf.ne hb)).trans (oA.get b hb)⟩
    by_cases b3 : n > 0
    · rw [if_pos b3] at hus
      simp (maxSteps := 1000000) (disch := first | omega | (simp only [Fw.z1, Fw.z2, Fw.z3, Fw.z4, Fw.z5, Fw.z6, Fw.z7] <;> omega) | fail) only [go_sem, r0, r1, r6, r7, r8, hlen, e1, hb3, hb4, hb5, b1, b2, b3, q1]
      refine ⟨k - 1, by omega, _, i + 1, v', rfl, oA2, q2, by omega, by omega, hok2, ?_, ?_, ?_, ?_, ?_⟩
      · simp (maxSteps := 1000000) (disch := first | omega | (simp only [Fw.z1, Fw.z2, Fw.z3, Fw.z4, Fw.z5, Fw.z6, Fw.z7] <;> omega) | fail) only [go_sem, r0]
      · simp (maxSteps := 1000000) (disch := first | omega | (simp only [Fw.z1, Fw.z2, Fw.z3, Fw.z4, Fw.z5, Fw.z6, Fw.z7] <;> omega) | fail) only [go_sem, r1]
      · simp (maxSteps := 1000000) (disch := first | omega | (simp only [Fw.z1, Fw.z2, Fw.z3, Fw.z4, Fw.z5, Fw.z6, Fw.z7] <;> omega) | fail) only [go_sem]
        rw [hus]; rfl
      · simp (maxSteps := 1000000) (disch := first | omega | (simp only [Fw.z1, Fw.z2, Fw.z3, Fw.z4, Fw.z5, Fw.z6, Fw.z7] <;> omega) | fail) only [go_sem]
      · simp (maxSteps := 1000000) (disch := first | omega | (simp only [Fw.z1, Fw.z2, Fw.z3, Fw.z4, Fw.z5, Fw.z6, Fw.z7] <;> omega) | fail) only [go_sem]
        rfl
    · rw [if_neg b3] at hus
      simp (maxSteps := 1000000) (disch := first | omega | (simp only [Fw.z1, Fw.z2, Fw.z3, Fw.z4, Fw.z5, Fw.z6, Fw.z7] <;> omega) | fail) only [go_sem, r0, r1, r6, r7, r8, hlen, e1, hb3, hb4, hb5, b1, b2, b3, q1]
      refine ⟨k - 1, by omega, _, i + 1, v', rfl, oA2, q2, by omega, by omega, hok2, ?_, ?_, ?_, ?_, ?_⟩
      · simp (maxSteps := 1000000) (disch := first | omega | (simp only [Fw.z1, Fw.z2, Fw.z3, Fw.z4, Fw.z5, Fw.z6, Fw.z7] <;> omega) | fail) only [go_sem, r0]
      · simp (maxSteps := 1000000) (disch := first | omega | (simp only [Fw.z1, Fw.z2, Fw.z3, Fw.z4, Fw.z5, Fw.z6, Fw.z7] <;> omega) | fail) only [go_sem, r1]
      · simp (maxSteps := 1000000) (disch := first | omega | (simp only [Fw.z1, Fw.z2, Fw.z3, Fw.z4, Fw.z5, Fw.z6, Fw.z7] <;> omega) | fail) only [go_sem, r6]
        rw [hus]; rfl
      · simp (maxSteps := 1000000) (disch := first | omega | (simp only [Fw.z1, Fw.z2, Fw.z3, Fw.z4, Fw.z5, Fw.z6, Fw.z7] <;> omega) | fail) only [go_sem]
      · simp (maxSteps := 1000000) (disch := first | omega | (simp only [Fw.z1, Fw.z2, Fw.z3, Fw.z4, Fw.z5, Fw.z6, Fw.z7] <;> omega) | fail) only [go_sem]
        rfl
  have e1 : ¬ ((i : Int) < (f.length : Int)) := by omega
  rw [hend, List.take_length] at hok r6 hul rf
  obtain ⟨L, rfl⟩ := Int.eq_ofNat_of_zero_le (show 0 ≤ lim by omega)
  have hsh := ishl_lim (L := L) (by omega)
  rw [if_neg (no_bad hok), Int.toNat_natCast] at hP
  by_cases hus : 2 ^ L < usedN f
  · have e2 : ((2 ^ L : Nat) : Int) < (usedN f : Nat) := by omega
    simp (maxSteps := 1000000) (disch := first | omega | (simp only [Fw.z1, Fw.z2, Fw.z3, Fw.z4, Fw.z5, Fw.z6, Fw.z7] <;> omega) | fail) only [go_sem, r0, r1, r6, r7, r8, hlen, e1, hsh, e2, Try.results22]
    exact herr oA (by rw [hP, if_pos hus])
  rw [if_neg hus] at hP
  have e2 : ¬ (((2 ^ L : Nat) : Int) < (usedN f : Nat)) := by omega
  simp (maxSteps := 1000000) (disch := first | omega | (simp only [Fw.z1, Fw.z2, Fw.z3, Fw.z4, Fw.z5, Fw.z6, Fw.z7] <;> omega) | fail) only [go_sem, r0, r1, r6, r7, r8, hlen, e1, hsh, e2]
  have hk0 : HOk 20 f L := ⟨fun x hx => (hok x hx).1, fun x hx => (hok x hx).2, by omega⟩
  refine aw_loop (fun k x B => ∃ (ρ : Nat → Value) (g : List Int) (fv : Value), x = E 99 ρ [] ∧ Over A B ∧ Row B 3 1 A.next (g.map (Value.int .i64 ·)) g.length fv ∧ g.length = f.length ∧ HOk k g L ∧ (∀ x ∈ g, x ≤ 1048576) ∧ lenF k g L = lenF 20 f L ∧ ρ 1 = .int .i64 L ∧ ρ 7 = fv) 20
    ⟨_, f, fv, rfl, oA, rf, rfl, hk0, fun x hx => (hok x hx).2, rfl, by first | rfl | exact r1, by first | rfl | exact r7⟩ ?_
  clear r0 r1 r6 r7 r8 rf hk0 oA
  rintro k x B ⟨ρ, g, fv, rfl, ob, rg, hgl, hko, hg20, hlf, r1, r7⟩
  refine aw_of ?_
  simp (maxSteps := 1000000) (disch := first | omega | (simp only [Fw.z1, Fw.z2, Fw.z3, Fw.z4, Fw.z5, Fw.z6, Fw.z7] <;> omega) | fail) only [go_sem, r1, r7]
  refine (rdepths_ok w0 B g fv (InRow.of rg).view (fun x hx => ⟨hko.nn x hx, hg20 x hx⟩) (by omega)).mono ?_
  rintro e B1 ⟨lv, rfl, o2, rl⟩
  simp (maxSteps := 1000000) (disch := first | omega | (simp only [Fw.z1, Fw.z2, Fw.z3, Fw.z4, Fw.z5, Fw.z6, Fw.z7] <;> omega) | fail) only [go_sem]
  have hll : ∀ X, lenU X (some (.slice 3)) lv = some (.int .i64 (grownP g).length, X) := View.lenX rl.view
  refine aw_loop (fun m x C => ∃ (ρ : Nat → Value) (i : Nat) (d : Int), x = E 99 ρ [] ∧ C = B1 ∧ m = (grownP g).length - i ∧ i ≤ (grownP g).length ∧ (∀ lim : Int, 0 ≤ lim → (d ≤ lim ↔ okL ((grownP g).take i) lim = true)) ∧ ρ 1 = .int .i64 L ∧ ρ 7 = fv ∧ ρ 9 = lv ∧ ρ 10 = .int .i64 d ∧ ρ 11 = .int .i64 i) (grownP g).length
    ⟨_, 0, 0, rfl, rfl, rfl, Nat.zero_le _, fun lim h => ⟨fun _ => rfl, fun _ => h⟩, by first | rfl | exact r1, by first | rfl | exact r7, rfl, rfl, rfl⟩ ?_
  clear r1 r7
  rintro m x C ⟨ρ, i, d, rfl, rfl, hm, hi, hd, r1, r7, r9, r10, r11⟩
  refine aw_of ?_
  by_cases hend3 : i = (grownP g).length
  rotate_left
  · have e5 : (i : Int) < ((grownP g).length : Nat) := by omega
    obtain ⟨n, hx⟩ : ∃ x, (grownP g)[i]? = some x := ⟨_, List.getElem?_eq_getElem (by omega)⟩
    obtain ⟨pb, po, hb1, hb2, hb3, cells, e', md, hb4, hb5⟩ := View.at1 (P := Try.prog) (e := 3) rl.view Try.sz3 (i64E_at _ i n hx)
    have htk : (grownP g).take (i + 1) = (grownP g).take i ++ [n] := by rw [List.take_add_one, hx]; rfl
    have hgb : (grownP g).length ≤ 1000 := by rw [grownP_len]; omega
    simp (maxSteps := 1000000) (disch := first | omega | (simp only [Fw.z1, Fw.z2, Fw.z3, Fw.z4, Fw.z5, Fw.z6, Fw.z7] <;> omega) | fail) only [go_sem, r1, r7, r9, r10, r11, hll, e5, hb3, hb4, hb5]
    refine ⟨m - 1, by omega, _, i + 1, if d < n then n else d, rfl, by omega, by omega, fun lim h0 => ?_, ?_, ?_, ?_, ?_, ?_⟩
    · rw [htk, okL_snoc, Bool.and_eq_true, ← hd lim h0, decide_eq_true_eq]
      split <;> omega
    · simp (maxSteps := 1000000) (disch := first | omega | (simp only [Fw.z1, Fw.z2, Fw.z3, Fw.z4, Fw.z5, Fw.z6, Fw.z7] <;> omega) | fail) only [go_sem, r1]
    · simp (maxSteps := 1000000) (disch := first | omega | (simp only [Fw.z1, Fw.z2, Fw.z3, Fw.z4, Fw.z5, Fw.z6, Fw.z7] <;> omega) | fail) only [go_sem, r7]
    · simp (maxSteps := 1000000) (disch := first | omega | (simp only [Fw.z1, Fw.z2, Fw.z3, Fw.z4, Fw.z5, Fw.z6, Fw.z7] <;> omega) | fail) only [go_sem, r9]
    · simp (maxSteps := 1000000) (disch := first | omega | (simp only [Fw.z1, Fw.z2, Fw.z3, Fw.z4, Fw.z5, Fw.z6, Fw.z7] <;> omega) | fail) only [go_sem]
    · simp (maxSteps := 1000000) (disch := first | omega | (simp only [Fw.z1, Fw.z2, Fw.z3, Fw.z4, Fw.z5, Fw.z6, Fw.z7] <;> omega) | fail) only [go_sem]
      rfl
  have e5 : ¬ ((i : Int) < ((grownP g).length : Nat)) := by omega
  rw [hend3, List.take_length] at hd
  have hmL := hd L (by omega)
  by_cases hle : d ≤ (L : Int)
  · simp (maxSteps := 1000000) (disch := first | omega | (simp only [Fw.z1, Fw.z2, Fw.z3, Fw.z4, Fw.z5, Fw.z6, Fw.z7] <;> omega) | fail) only [go_sem, r1, r7, r9, r10, r11, hll, e5, hle, Try.results22]
    refine gc_here ⟨lv, by rw [hP], ob.trans o2, ?_⟩
    have : grownP g = lenF 20 f L := by
      rw [← hlf]
      cases k with
      | zero => rfl
      | succ k => rw [lenF, if_pos (hmL.1 hle)]
    rw [hP, ← this]
    exact rl.keep (Nat.le_refl _) (fun _ _ _ _ => rfl) ob.next
  have hnk : ¬ okL (grownP g) L = true := fun h => hle (hmL.2 h)
  obtain ⟨k', rfl⟩ : ∃ k', k = k' + 1 := by
    cases k with
    | zero => exact absurd (hko.fin (by omega)) hnk
    | succ k => exact ⟨k, rfl⟩
  rw [lenF, if_neg hnk] at hlf
  have rg2 := rg.over o2
  have hlv : ∀ X, lenU X (some (.slice 3)) fv = some (.int .i64 g.length, X) := View.lenX (InRow.of rg).view
  have hg0 : 0 < g.length := by
    rcases Nat.eq_zero_or_pos g.length with h | h
    · exfalso; apply hnk
      rw [List.eq_nil_of_length_eq_zero ((grownP_len g).trans h)]; rfl
    · exact h
  obtain ⟨fb, sp, hfv, hb1, hb2, hb3, hb4, hb5⟩ := row_block rg2 hg0
  simp (maxSteps := 1000000) (disch := first | omega | (simp only [Fw.z1, Fw.z2, Fw.z3, Fw.z4, Fw.z5, Fw.z6, Fw.z7] <;> omega) | fail) only [go_sem, r1, r7, r9, r10, r11, hll, e5, hle]
  refine aw_loop (fun m x D => ∃ (ρ : Nat → Value) (i : Nat), x = E 99 ρ [] ∧ m = g.length - i ∧ i ≤ g.length ∧ D = C.upd fb (intB (hvL i g)) ∧ ρ 1 = .int .i64 L ∧ ρ 7 = fv ∧ ρ 12 = .int .i64 i) g.length
    ⟨_, 0, rfl, rfl, Nat.zero_le _, (upd_id hb3).symm, by first | rfl | exact r1, by first | rfl | exact r7, rfl⟩ ?_
  clear r1 r7 r9 r10 r11 hm hi
  rintro m x D ⟨ρ, i, rfl, hm, hi, hC, r1, r7, r12⟩
  refine aw_of ?_
  have gC : D.get fb = intB (hvL i g) := by rw [hC]; exact get_upd_same ..
  by_cases hend2 : i = g.length
  · have e4 : ¬ ((i : Int) < (g.length : Nat)) := by omega
    rw [hend2, hvL_all] at hC gC
    simp (maxSteps := 1000000) (disch := first | omega | (simp only [Fw.z1, Fw.z2, Fw.z3, Fw.z4, Fw.z5, Fw.z6, Fw.z7] <;> omega) | fail) only [go_sem, r1, r7, r12, hlv, e4]
    refine ⟨k', by omega, _, halfL g, fv, rfl, ?_, ?_, ?_, hko.half, ?_, hlf, ?_, ?_⟩
    · rw [hC]; exact (ob.trans o2).upd hb1 _
    · exact hb5 D (halfL g) (List.length_map _) (by rw [hC]; exact hb2) gC
    · rw [← hgl]; exact List.length_map _
    · intro x hx
      obtain ⟨y, hy, rfl⟩ := List.mem_map.1 hx
      exact Int.le_trans (half_pos (hko.nn y hy)).2.2 (hg20 y hy)
    · simp (maxSteps := 1000000) (disch := first | omega | (simp only [Fw.z1, Fw.z2, Fw.z3, Fw.z4, Fw.z5, Fw.z6, Fw.z7] <;> omega) | fail) only [go_sem, r1]
    · simp (maxSteps := 1000000) (disch := first | omega | (simp only [Fw.z1, Fw.z2, Fw.z3, Fw.z4, Fw.z5, Fw.z6, Fw.z7] <;> omega) | fail) only [go_sem, r7]
  have e4 : (i : Int) < (g.length : Nat) := by omega
  obtain ⟨n, hx⟩ : ∃ x, g[i]? = some x := ⟨_, List.getElem?_eq_getElem (by omega)⟩
  obtain ⟨s1, s2⟩ := hvL_step hx
  have hn0 := hko.nn n (List.mem_of_getElem? hx)
  have hn1 := hg20 n (List.mem_of_getElem? hx)
  have htd : (n + 1).tdiv 2 = half n := by rw [Int.tdiv_eq_ediv_of_nonneg (by omega)]; rfl
  have hix := hb4 i (by omega)
  have s1' : ((hvL i g).map (Value.int .i64 ·))[i]? = some (.int .i64 n) := by rw [List.getElem?_map, s1]; rfl
  have hst := map_set (hvL i g) i (half n)
  rw [s2] at hst
  have hvl := hvL_len i g
  have hhf := half_pos hn0
  have hwr : IntKind.i64.wrap (half n) = half n := wrap_small hhf.1 (by omega)
  unfold intB at gC
  by_cases hnp : n > 0
  · simp (maxSteps := 1000000) (disch := first | omega | (simp only [Fw.z1, Fw.z2, Fw.z3, Fw.z4, Fw.z5, Fw.z6, Fw.z7] <;> omega) | fail) only [go_sem, r1, r7, r12, hlv, e4, hix, gC, s1', hnp, htd, hwr, hst]
    refine ⟨m - 1, by omega, _, i + 1, rfl, by omega, by omega, ?_, ?_, ?_, ?_⟩
    · rw [hC, upd_upd]
    · simp (maxSteps := 1000000) (disch := first | omega | (simp only [Fw.z1, Fw.z2, Fw.z3, Fw.z4, Fw.z5, Fw.z6, Fw.z7] <;> omega) | fail) only [go_sem, r1]
    · simp (maxSteps := 1000000) (disch := first | omega | (simp only [Fw.z1, Fw.z2, Fw.z3, Fw.z4, Fw.z5, Fw.z6, Fw.z7] <;> omega) | fail) only [go_sem, r7]
    · simp (maxSteps := 1000000) (disch := first | omega | (simp only [Fw.z1, Fw.z2, Fw.z3, Fw.z4, Fw.z5, Fw.z6, Fw.z7] <;> omega) | fail) only [go_sem]
      rfl
  · have hn00 : n = 0 := by omega
    simp (maxSteps := 1000000) (disch := first | omega | (simp only [Fw.z1, Fw.z2, Fw.z3, Fw.z4, Fw.z5, Fw.z6, Fw.z7] <;> omega) | fail) only [go_sem, r1, r7, r12, hlv, e4, hix, gC, s1', hnp]
    refine ⟨m - 1, by omega, _, i + 1, rfl, by omega, by omega, ?_, ?_, ?_, ?_⟩
    · rw [hC]
      have : hvL (i + 1) g = hvL i g := by
        rw [← s2, hn00]
        have h0 : (hvL i g)[i]? = some 0 := by rw [s1, hn00]
        have hh : half 0 = 0 := rfl
        rw [hh]
        refine List.ext_getElem? fun j => ?_
        rw [List.getElem?_set]
        split
        · rename_i e; rw [← e, h0, if_pos (by omega)]
        · rfl
      rw [this]
    · simp (maxSteps := 1000000) (disch := first | omega | (simp only [Fw.z1, Fw.z2, Fw.z3, Fw.z4, Fw.z5, Fw.z6, Fw.z7] <;> omega) | fail) only [go_sem, r1]
    · simp (maxSteps := 1000000) (disch := first | omega | (simp only [Fw.z1, Fw.z2, Fw.z3, Fw.z4, Fw.z5, Fw.z6, Fw.z7] <;> omega) | fail) only [go_sem, r7]
    · simp (maxSteps := 1000000) (disch := first | omega | (simp only [Fw.z1, Fw.z2, Fw.z3, Fw.z4, Fw.z5, Fw.z6, Fw.z7] <;> omega) | fail) only [go_sem]
      rfl
end Go.Fw
