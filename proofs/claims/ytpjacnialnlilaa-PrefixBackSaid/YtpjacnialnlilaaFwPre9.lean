import Derived.Test.YtpjacnialnlilaaFwPre8
set_option linter.unusedSimpArgs false
set_option linter.unusedVariables false
set_option maxRecDepth 4000
namespace Go.Fw
open Go.Proofs Go.RowKit
/-! What the making of a tree does to the heap. -/
theorem upd_id {A : St} {b : Nat} {X : Option Blk} (h : A.get b = X) : A.upd b X = A := St.ext (fun m => by rw [St.get_upd]; split <;> simp_all) rfl
theorem flat_i64 (l : List Int) : l.flatMap i64E = l.map (Value.int .i64 ·) := by
  induction l with
  | nil => rfl
  | cons x l ih => rw [List.flatMap_cons, ih]; rfl
theorem makeSlice_ints {P : Program} {A : St} {t e bs : Nat} {k k' : IntKind} {n : Nat} (hel : telem P t = some e) (hsz : tsz P e = some 1) (hb : tbytes P e = some bs) (hz : tzero P e = some (.int .i64 0)) (hbs : bs ≤ 8) (hn : n ≤ 1000000) :
    amakeSlice P A t (.int k n) (.int k' n) = some (.slice (some ⟨A.next, 0, none⟩) n n, A.alloc (.cells (List.replicate n (.int .i64 0)) e (some 0))) := by
  have h8 : (bs : Int) * n ≤ 8 * n := Int.mul_le_mul_of_nonneg_right (by omega) (by omega)
  unfold amakeSlice
  simp only [hel, hsz, hb, hz]
  rw [if_pos ⟨by omega, Int.le_refl _, by omega, by omega, Nat.one_pos⟩, Nat.mul_one, zeros_one _ rfl]
  rfl
theorem insK_all2 {α β : Type} {R : α → β → Prop} {k : α → Int} {k' : β → Int} (hk : ∀ x y, R x y → k x = k' y) {x : α} {y : β} (hxy : R x y) : ∀ {l : List α} {m : List β}, All2 R l m → All2 R (insK k l x) (insK k' m y)
  | _, _, .nil => .cons hxy .nil
  | _, _, .cons (a := a) (b := b) h t => by
    rw [insK, insK, hk _ _ h, hk _ _ hxy]
    split
    · exact .cons h (insK_all2 hk hxy t)
    · exact .cons hxy (.cons h t)
theorem foldl_all2 {α β : Type} {R : α → β → Prop} {k : α → Int} {k' : β → Int} (hk : ∀ x y, R x y → k x = k' y) : ∀ {l : List α} {m : List β}, All2 R l m → ∀ {s : List α} {u : List β}, All2 R s u → All2 R (l.foldl (insK k) s) (m.foldl (insK k') u)
  | _, _, .nil, _, _, hs => hs
  | _, _, .cons h t, _, _, hs => foldl_all2 hk t (insK_all2 hk h hs)
theorem srtK_all2 {α β : Type} {R : α → β → Prop} {k : α → Int} {k' : β → Int} (hk : ∀ x y, R x y → k x = k' y) {l : List α} {m : List β} (h : All2 R l m) : All2 R (srtK k l) (srtK k' m) := foldl_all2 hk h .nil
theorem All2.mem_r {α β : Type} {R : α → β → Prop} {l : List α} {m : List β} (h : All2 R l m) : ∀ y ∈ m, ∃ x ∈ l, R x y := by
  induction h with
  | nil => intro y hy; cases hy
  | cons h t ih =>
    intro y hy
    rcases List.mem_cons.1 hy with rfl | hy
    · exact ⟨_, List.mem_cons_self .., h⟩
    · obtain ⟨x, hx, hr⟩ := ih y hy
      exact ⟨x, List.mem_cons_of_mem _ hx, hr⟩
theorem QR.at {A : St} {lo : Nat} {L : List HT} {v : Value} (h : QR A lo L v) {i : Nat} {t : HT} (hi : L[i]? = some t) : ∃ b off cells x, (∀ kk : IntKind, indexAddrU Try.prog (some (.slice 80)) v (.int kk i) = some (.pointer (some ⟨b, off, none⟩))) ∧ rowB v = some b ∧ lo ≤ b ∧ b < A.next ∧ A.get b = some (.cells cells 80 (some 0)) ∧ cells[off]? = some x ∧ TrA A t x := by
  have hlt : i < L.length := (List.getElem?_eq_some_iff.1 hi).1
  rcases h with ⟨rfl, _⟩ | ⟨b, off, cells, rfl, h1, h2, h3, h4, h5⟩
  · cases hi
  · obtain ⟨x, hx, hr⟩ := h5.get hi
    rw [List.getElem?_drop] at hx
    refine ⟨b, off + i, cells, x, fun kk => ?_, rfl, h1, h2, h3, hx, hr⟩
    refine (indexAddr_slice Try.prog kk 80 b off (some 1) L.length L.length i (by omega) (by omega)).trans ?_
    rw [Try.sz80]; simp
theorem qr_app {A : St} {lo : Nat} {L P : List HT} {v u : Value} (hv : QR A lo L v) (hu : QR A lo P u) (hl : L.length + P.length ≤ 1) (hlo : lo ≤ A.next) :
    ∃ v' A2, aappend Try.prog A 79 79 v u = some (v', A2) ∧ QR A2 lo (L ++ P) v' ∧ A.next ≤ A2.next ∧ ∀ b, b < lo → A2.get b = A.get b := by
  match P, hl with
  | [], hl =>
    have hsrc : srcCells A (0 + 1) u = some (0, []) := by
      rcases hu with ⟨_, rfl⟩ | ⟨b, off, cells, rfl, _⟩ <;> rfl
    rcases hv with ⟨rfl, rfl⟩ | ⟨b, off, cells, rfl, h1, h2, h3, h4, h5⟩
    · refine ⟨.slice none 0 0, A, ?_, .nil A lo, Nat.le_refl _, fun b _ => rfl⟩
      unfold aappend
      simp only [Try.el79, Try.underlying79, Try.sz80, Try.byt80, Try.zero80]
      rw [hsrc]
      rfl
    · refine ⟨.slice (some ⟨b, off, some 1⟩) L.length L.length, A, ?_, .inr ⟨b, off, cells, by rw [List.append_nil], h1, h2, h3, h4, by rw [List.append_nil]; exact h5⟩, Nat.le_refl _, fun b _ => rfl⟩
      unfold aappend
      simp only [Try.el79, Try.underlying79, Try.sz80, Try.byt80, Try.zero80]
      rw [hsrc]
      simp [Value.cells]
  | [t], hl =>
    have hl0 : L = [] := by
      cases L with
      | nil => rfl
      | cons _ _ => simp at hl
    subst hl0
    obtain ⟨b, off, cells, x, _, q1, q2, q3, q4, q5, q6, q7, _⟩ := hu.cons
    have hsrc : srcCells A (0 + 1) u = some (1, [x]) := by
      rcases hu with ⟨e, _⟩ | ⟨b', off', cells', rfl, h1, h2, h3, h4, h5⟩
      · cases e
      · cases q2
        rw [q5] at h3
        injection h3 with h3
        injection h3 with h3
        subst h3
        have e0 := q1 .i64
        have e1 := indexAddr_slice Try.prog .i64 80 b off' (some 1) 1 1 0 (by omega) (by omega)
        have e2 := e0.symm.trans e1
        rw [Try.sz80] at e2
        simp at e2
        subst e2
        have hlt := (List.getElem?_eq_some_iff.1 q6).1
        rw [show [t].length = 1 from rfl, srcCells_slice (by decide) q5 (by omega), Nat.zero_add, Nat.one_mul]
        have hd : cells.drop off = x :: cells.drop (off + 1) := by
          rw [List.drop_eq_getElem_cons hlt]
          congr 1
          exact (List.getElem?_eq_some_iff.1 q6).2
        rw [hd]; rfl
    have hxc := q7.cell
    have hk : KpN A (A.alloc (.cells [x] 80 (some 0))) := (KpN.refl A).alloc _
    rcases hv with ⟨_, rfl⟩ | ⟨b1, off1, cells1, rfl, h1, h2, h3, h4, h5⟩
    · refine ⟨_, _, append_nil Try.el79 Try.underlying79 (by intro k; exact TypeDesc.noConfusion) Try.sz80 Try.byt80 Try.zero80 rfl (by decide) hsrc (by decide) (by decide) (by decide), .inr ⟨A.next, 0, [x], rfl, hlo, by simp, get_alloc_same .., by simp, .cons (q7.kp hk) .nil⟩, by rw [nx_alloc]; omega, fun b' hb' => get_alloc_old (by omega)⟩
    · have hap := append_ownO (P := Try.prog) (A := A) (sT := 79) (xT := 79) (len := 0) (off := off1) (b := b1) (x := u) (new := [x]) (m := 1) Try.el79 Try.underlying79 (by intro k; exact TypeDesc.noConfusion) Try.sz80 Try.byt80 Try.zero80 rfl hsrc (by decide) (by decide) (by decide) h3 (by omega) (by simp [hxc])
      rw [Nat.zero_mul, List.take_zero, List.nil_append] at hap
      have hk2 : KpN A ((A.upd b1 none).alloc (.cells [x] 80 (some 0))) := by
        refine (((KpN.refl A).upd (fun cs m e => ?_) _).alloc _)
        rw [h3] at e; injection e with e; injection e with _ e; exact absurd e (by decide)
      exact ⟨_, _, hap, .inr ⟨A.next, 0, [x], rfl, hlo, by simp, get_alloc_same .., by simp, .cons (q7.kp hk2) .nil⟩, by rw [nx_alloc]; exact Nat.le_succ _, fun b' hb' => by rw [get_alloc_old (by rw [nx_upd]; omega), get_upd_old (by omega)]⟩
/-- The heap while the tree is made. -/
structure GInv (A : St) (n : Nat) (A' : St) (L P : List HT) (lv pv : Value) : Prop where
  nx : A.next + 3 ≤ A'.next
  ov : ∀ b, b < A.next → A'.get b = A.get b
  gl : A'.get A.next = intB (List.replicate n 0)
  g1 : A'.get (A.next + 1) = some (.cells [lv] 79 (some 0))
  g2 : A'.get (A.next + 2) = some (.cells [pv] 79 (some 0))
  ql : QR A' (A.next + 3) L lv
  qp : QR A' (A.next + 3) P pv
  ne : ∀ b, rowB lv = some b → rowB pv ≠ some b
theorem GInv.node {A A' : St} {n : Nat} {L P : List HT} {lv pv : Value} (h : GInv A n A' L P lv pv) (X : Blk) : GInv A n (A'.alloc X) L P lv pv := by
  have hk : KpN A' (A'.alloc X) := (KpN.refl A').alloc X
  have := h.nx
  exact ⟨by rw [nx_alloc]; omega, fun b hb => (get_alloc_old (by omega)).trans (h.ov b hb), (get_alloc_old (by omega)).trans h.gl, (get_alloc_old (by omega)).trans h.g1, (get_alloc_old (by omega)).trans h.g2,
    h.ql.kp hk fun b _ hb => get_alloc_old hb, h.qp.kp hk fun b _ hb => get_alloc_old hb, h.ne⟩
/-- One more leaf. -/
theorem GInv.leaf {A A' : St} {n : Nat} {L P : List HT} {lv pv : Value} (h : GInv A n A' L P lv pv) {t : HT} {x : Value} (hx : TrA A' t x) (hl : L.length ≤ 1000000) :
    ∃ v' A2, aappend Try.prog (A'.alloc (.cells [x] 80 (some 0))) 79 79 lv (.slice (some ⟨A'.next, 0, none⟩) 1 1) = some (v', A2) ∧ A2.get (A.next + 1) = some (.cells [lv] 79 (some 0)) ∧ one1 v' = true ∧ offZ v' ∧ GInv A n (A2.upd (A.next + 1) (some (.cells [v'] 79 (some 0)))) (L ++ [t]) P v' pv ∧ KpN A' (A2.upd (A.next + 1) (some (.cells [v'] 79 (some 0)))) := by
  obtain ⟨v', A2, h1, h2, h3, h4, h5, h6, h7⟩ := qr_push h.ql hx h.nx hl
  have hn := h.nx
  have nel : ∀ b, b < A.next + 3 → rowB lv ≠ some b := fun b hb e => by have := (h.ql.rb b e).1; omega
  have nep : ∀ b, rowB pv = some b → A.next + 3 ≤ b ∧ b < A'.next := h.qp.rb
  have g : ∀ b, b < A.next + 3 → A2.get b = A'.get b := fun b hb => h5 b (by omega) (nel b hb)
  have k : KpN A' (A2.upd (A.next + 1) (some (.cells [v'] 79 (some 0)))) := h6.upd (fun cs m e => by rw [h.g1] at e; injection e with e; injection e with _ e; exact absurd e (by decide)) _
  have k2 : KpN A2 (A2.upd (A.next + 1) (some (.cells [v'] 79 (some 0)))) := (KpN.refl A2).upd (fun cs m e => by rw [g _ (by omega), h.g1] at e; injection e with e; injection e with _ e; exact absurd e (by decide)) _
  refine ⟨v', A2, h1, (g _ (by omega)).trans h.g1, h2.one, h7, ⟨by rw [nx_upd]; omega, fun b hb => ?_, ?_, get_upd_same .., ?_, ?_, ?_, fun b hb hb' => ?_⟩, k⟩
  · rw [get_upd_old (by omega), g b (by omega)]; exact h.ov b hb
  · rw [get_upd_old (by omega), g _ (by omega)]; exact h.gl
  · rw [get_upd_old (by omega), g _ (by omega)]; exact h.g2
  · exact h2.kp k2 fun b hb hlt => get_upd_old (by rw [h4] at hb; cases hb; omega)
  · exact h.qp.kp k fun b hb hlt => by rw [get_upd_old (by have := nep b hb; omega)]; exact h5 b hlt fun e => h.ne b e hb
  · rw [h4] at hb; cases hb; have := nep _ hb'; omega
/-- One more pair. -/
theorem GInv.pair {A A' : St} {n : Nat} {L P : List HT} {lv pv : Value} (h : GInv A n A' L P lv pv) {t : HT} {x : Value} (hx : TrA A' t x) (hl : P.length ≤ 1000000) :
    ∃ v' A2, aappend Try.prog (A'.alloc (.cells [x] 80 (some 0))) 79 79 pv (.slice (some ⟨A'.next, 0, none⟩) 1 1) = some (v', A2) ∧ A2.get (A.next + 2) = some (.cells [pv] 79 (some 0)) ∧ one1 v' = true ∧ GInv A n (A2.upd (A.next + 2) (some (.cells [v'] 79 (some 0)))) L (P ++ [t]) lv v' ∧ KpN A' (A2.upd (A.next + 2) (some (.cells [v'] 79 (some 0)))) := by
  obtain ⟨v', A2, h1, h2, h3, h4, h5, h6, h7⟩ := qr_push h.qp hx h.nx hl
  have hn := h.nx
  have nep : ∀ b, b < A.next + 3 → rowB pv ≠ some b := fun b hb e => by have := (h.qp.rb b e).1; omega
  have nel : ∀ b, rowB lv = some b → A.next + 3 ≤ b ∧ b < A'.next := h.ql.rb
  have g : ∀ b, b < A.next + 3 → A2.get b = A'.get b := fun b hb => h5 b (by omega) (nep b hb)
  have k : KpN A' (A2.upd (A.next + 2) (some (.cells [v'] 79 (some 0)))) := h6.upd (fun cs m e => by rw [h.g2] at e; injection e with e; injection e with _ e; exact absurd e (by decide)) _
  have k2 : KpN A2 (A2.upd (A.next + 2) (some (.cells [v'] 79 (some 0)))) := (KpN.refl A2).upd (fun cs m e => by rw [g _ (by omega), h.g2] at e; injection e with e; injection e with _ e; exact absurd e (by decide)) _
  refine ⟨v', A2, h1, (g _ (by omega)).trans h.g2, h2.one, ⟨by rw [nx_upd]; omega, fun b hb => ?_, ?_, ?_, get_upd_same .., ?_, ?_, fun b hb hb' => ?_⟩, k⟩
  · rw [get_upd_old (by omega), g b (by omega)]; exact h.ov b hb
  · rw [get_upd_old (by omega), g _ (by omega)]; exact h.gl
  · rw [get_upd_old (by omega), g _ (by omega)]; exact h.g1
  · exact h.ql.kp k fun b hb hlt => by rw [get_upd_old (by have := nel b hb; omega)]; exact h5 b hlt (h.ne b hb)
  · exact h2.kp k2 fun b hb hlt => get_upd_old (by rw [h4] at hb; cases hb; omega)
  · rw [h4] at hb'; cases hb'; have := nel _ hb; omega
/-- The lightest one is taken: the heap behind it. -/
theorem GInv.light {A A' : St} {n : Nat} {L P : List HT} {lv pv : Value} (h : GInv A n A' L P lv pv) (w0 : World) {t : HT} {L' P' : List HT} (hp : popL L P = some (t, L', P')) (hL : L.length ≤ 1000000) (hP : P.length ≤ 1000000) :
    ∃ x v' u' A2, ACalls Try.prog w0 41 #[.pointer (some ⟨A.next + 2, 0, none⟩), .pointer (some ⟨A.next + 1, 0, none⟩)] A' (fin x A2) ∧ TrA A2 t x ∧ GInv A n A2 L' P' v' u' ∧ KpN A' A2 := by
  obtain ⟨x, v', u', A2, h1, h2, h3, h4, h5, h6, h7, h8, h9, h10, h11⟩ := lightest_ok w0 A' (A.next + 1) (A.next + 2) (A.next + 3) L P lv pv (by omega) (by omega) (by omega) h.nx h.g1 h.g2 h.ql h.qp hp hL hP
  exact ⟨x, v', u', A2, h1, h2, ⟨by rw [h3]; exact h.nx, fun b hb => (h4 b (by omega) (by omega)).trans (h.ov b hb), (h4 _ (by omega) (by omega)).trans h.gl, h5, h6, h7, h8, fun b hb hb' => h.ne b (h9 b hb) (h10 b hb')⟩, h11⟩
set_option maxHeartbeats 1000000 in
theorem insnil_ok (w0 : World) (A : St) : ACalls Try.prog w0 51 #[.slice none 0 0, .int .i64 0, .int .i64 0, cmpV] A (fin (.tuple #[]) A) := by
  refine call_E (l := [.slice none 0 0, .int .i64 0, .int .i64 0, cmpV]) Try.enters51 Try.func51 rfl (Nat.le_of_ble_eq_true rfl) fun hw hbd => ?_
  simp (maxSteps := 1000000) (disch := (first | omega | (simp only [nx_alloc, nx_upd, len_cons, len_nil, List.length_set, List.length_map, List.length_append] <;> omega) | fail)) only [go_sem, Try.ntmps51, Try.results51]
  refine aw_loop (fun m a A' => ∃ ρ : Nat → Value, a = E 53 ρ [] ∧ A' = A ∧ ρ 2 = .int .i64 0 ∧ ρ 8 = .int .i64 1) 0 ⟨_, rfl, rfl, rfl, rfl⟩ ?_
  rintro m a A' ⟨ρ, rfl, rfl, r2, r8⟩
  refine aw_of ?_
  simp (maxSteps := 1000000) (disch := (first | omega | (simp only [nx_alloc, nx_upd, len_cons, len_nil, List.length_set, List.length_map, List.length_append] <;> omega) | fail)) only [go_sem, r2, r8, Try.results51]
  exact gc_here ⟨rfl, rfl⟩
set_option maxHeartbeats 1000000 in
theorem stablenil_ok (w0 : World) (A : St) : ACalls Try.prog w0 50 #[.slice none 0 0, .int .i64 0, cmpV] A (fin (.tuple #[]) A) := by
  refine call_E (l := [.slice none 0 0, .int .i64 0, cmpV]) Try.enters50 Try.func50 rfl (Nat.le_of_ble_eq_true rfl) fun hw hbd => ?_
  simp (maxSteps := 1000000) (disch := (first | omega | (simp only [nx_alloc, nx_upd, len_cons, len_nil, List.length_set, List.length_map, List.length_append] <;> omega) | fail)) only [go_sem, Try.ntmps50, Try.results50]
  refine aw_loop (fun m a A' => ∃ ρ : Nat → Value, a = E 63 ρ [] ∧ A' = A ∧ ρ 0 = .slice none 0 0 ∧ ρ 1 = .int .i64 0 ∧ ρ 2 = cmpV ∧ ρ 6 = .int .i64 20 ∧ ρ 7 = .int .i64 0 ∧ ρ 8 = .int .i64 20) 0 ⟨_, rfl, rfl, rfl, rfl, rfl, rfl, rfl, rfl⟩ ?_
  rintro m a A' ⟨ρ, rfl, rfl, r0, r1, r2, r6, r7, r8⟩
  refine aw_of ?_
  simp (maxSteps := 1000000) (disch := (first | omega | (simp only [nx_alloc, nx_upd, len_cons, len_nil, List.length_set, List.length_map, List.length_append] <;> omega) | fail)) only [go_sem, r0, r1, r2, r6, r7, r8]
  refine call1 (insnil_ok w0 _) ?_
  simp (maxSteps := 1000000) (disch := (first | omega | (simp only [nx_alloc, nx_upd, len_cons, len_nil, List.length_set, List.length_map, List.length_append] <;> omega) | fail)) only [go_sem]
  refine aw_loop (fun m a A'' => ∃ ρ : Nat → Value, a = E 63 ρ [] ∧ A'' = A' ∧ ρ 1 = .int .i64 0 ∧ ρ 6 = .int .i64 20) 0 ⟨_, rfl, rfl, by first | rfl | exact r1, by first | rfl | exact r6⟩ ?_
  clear r0 r1 r2 r6 r7 r8
  rintro m a A' ⟨ρ, rfl, rfl, r1, r6⟩
  refine aw_of ?_
  simp (maxSteps := 1000000) (disch := (first | omega | (simp only [nx_alloc, nx_upd, len_cons, len_nil, List.length_set, List.length_map, List.length_append] <;> omega) | fail)) only [go_sem, r1, r6, Try.results50]
  exact gc_here ⟨rfl, rfl⟩
theorem sortnil_ok (w0 : World) (A : St) : ACalls Try.prog w0 39 #[.slice none 0 0, cmpV] A (fin (.tuple #[]) A) := by
  refine call_E (l := [.slice none 0 0, cmpV]) Try.enters39 Try.func39 rfl (Nat.le_of_ble_eq_true rfl) fun hw hbd => ?_
  simp (maxSteps := 1000000) (disch := (first | omega | (simp only [nx_alloc, nx_upd, len_cons, len_nil, List.length_set, List.length_map, List.length_append] <;> omega) | fail)) only [go_sem, Try.ntmps39, Try.results39]
  refine call1 (stablenil_ok w0 _) ?_
  simp (maxSteps := 1000000) (disch := (first | omega | (simp only [nx_alloc, nx_upd, len_cons, len_nil, List.length_set, List.length_map, List.length_append] <;> omega) | fail)) only [go_sem, Try.results39]
  exact gc_here ⟨rfl, rfl⟩
/-- The leaves are sorted. -/
theorem GInv.sort {A A' : St} {n : Nat} {L P : List HT} {lv pv : Value} (h : GInv A n A' L P lv pv) (w0 : World) (hz : offZ lv) (hL : L.length ≤ 1000000) (hw : ∀ t ∈ L, 0 ≤ t.wt ∧ t.wt ≤ 1099511627776) :
    ∃ A2, ACalls Try.prog w0 39 #[lv, cmpV] A' (fin (.tuple #[]) A2) ∧ GInv A n A2 (srtK HT.wt L) P lv pv := by
  have hql := h.ql
  rcases hql with ⟨rfl, rfl⟩ | ⟨b, off, cells, rfl, h1, h2, h3, h4, h5⟩
  · exact ⟨A', sortnil_ok w0 A', h⟩
  · have hz' : off = 0 := hz
    subst hz'
    rw [List.drop_zero] at h5
    have hbn : ∀ cs m, A'.get b ≠ some (.cells cs 82 m) := fun cs m e => by
      rw [h3] at e; injection e with e; injection e with _ e; exact absurd e (by decide)
    have hD : ∀ x ∈ cells, DT A' x := fun x hx => by
      obtain ⟨t, ht, hr⟩ := h5.mem_r x hx
      exact ⟨t, hr, hw t ht⟩
    have hrv : RowV (.slice (some ⟨b, 0, some 1⟩) L.length L.length) b L.length := fun kk i hi => by
      refine (indexAddr_slice Try.prog kk 80 b 0 (some 1) L.length L.length i (by omega) (by omega)).trans ?_
      rw [Try.sz80]; simp
    have c := sortstable_ok (w0 := w0) (A := A') (wt := wtA A') (D := DT A') hrv (fun X => rfl) hL (cmp_ok w0 A' b hbn) (fun x hx => hx.one) cells h5.length.symm hD
    rw [upd_id h3] at c
    have hk : KpN A' (A'.upd b (nodB (srtK (wtA A') cells))) := (KpN.refl A').upd hbn _
    have := h.nx
    refine ⟨_, c, ⟨h.nx, fun b' hb' => (get_upd_old (by omega)).trans (h.ov b' hb'), (get_upd_old (by omega)).trans h.gl, (get_upd_old (by omega)).trans h.g1, (get_upd_old (by omega)).trans h.g2, .inr ⟨b, 0, _, by rw [srtK_len], h1, h2, get_upd_same .., Nat.zero_le _, ?_⟩, h.qp.kp hk fun b' hb' _ => get_upd_old fun e => h.ne b rfl (by rw [← e]; exact hb'), h.ne⟩⟩
    rw [List.drop_zero]
    exact (srtK_all2 (R := TrA A') (fun t x ht => ht.wt.symm) h5).imp fun t x ht => ht.kp hk
end Go.Fw
