import Derived.Test.YtpjacnialnlilaaFwPre7
set_option linter.unusedSimpArgs false
set_option linter.unusedVariables false
set_option maxRecDepth 4000
namespace Go.Fw
open Go.Proofs Go.RowKit
/-! Queues of trees; the lightest one; the lengths of a tree. -/
theorem append_ownO {P : Program} {A : St} {sT xT e bs : Nat} {z x : Value} {m sz b len off : Nat} {cs new : List Value} {ux : TypeDesc} (hel : telem P sT = some e) (hx : P.underlying xT = some ux) (hux : ∀ k, ux ≠ .int k) (hsz : tsz P e = some (sz + 1)) (hb : tbytes P e = some bs) (hz : tzero P e = some z) (hzc : z.cells.size = sz + 1)
    (hsrc : srcCells A (sz + 1) x = some (m, new)) (hm : 0 < m) (hlen : (len + m) * bs ≤ 140737488355328) (hcap : len + m ≤ 9223372036854775807) (hA : A.get b = some (.cells cs e (some 0))) (hcs : off + len * (sz + 1) ≤ cs.length) (hnew : new.all cell1 = true) :
    aappend P A sT xT (.slice (some ⟨b, off, some (sz + 1)⟩) len len) x = some (.slice (some ⟨A.next, 0, some (sz + 1)⟩) (len + m) (len + m), (A.upd b none).alloc (.cells ((cs.drop off).take (len * (sz + 1)) ++ new) e (some 0))) := by
  have h1 : ¬ len + m ≤ len := by omega
  have h2 : ¬ (sz + 1 = 0 ∨ z.cells.size ≠ sz + 1) := by omega
  unfold aappend
  cases ux with
  | int k => exact absurd rfl (hux k)
  | _ => simp only [hel, hx, hsz, hb, hz, hsrc, if_neg h2, h1, if_false, hlen, hcap, hA, hcs, hnew, and_self, if_true, Nat.zero_le, Nat.zero_sub, true_and]
/-- A queue of trees. -/
def QR (A : St) (lo : Nat) (L : List HT) (v : Value) : Prop := (L = [] ∧ v = .slice none 0 0) ∨ ∃ b off cells, v = .slice (some ⟨b, off, some 1⟩) L.length L.length ∧ lo ≤ b ∧ b < A.next ∧ A.get b = some (.cells cells 80 (some 0)) ∧ off ≤ cells.length ∧ All2 (TrA A) L (cells.drop off)
theorem QR.nil (A : St) (lo : Nat) : QR A lo [] (.slice none 0 0) := .inl ⟨rfl, rfl⟩
theorem QR.one {A : St} {lo : Nat} {L : List HT} {v : Value} (h : QR A lo L v) : one1 v = true := by
  rcases h with ⟨_, rfl⟩ | ⟨b, off, cells, rfl, _⟩ <;> rfl
theorem QR.rb {A : St} {lo : Nat} {L : List HT} {v : Value} (h : QR A lo L v) : ∀ b, rowB v = some b → lo ≤ b ∧ b < A.next := by
  intro b hb
  rcases h with ⟨_, rfl⟩ | ⟨b', off, cells, rfl, h1, h2, _⟩
  · cases hb
  · cases hb; exact ⟨h1, h2⟩
theorem QR.kp {A A' : St} {lo : Nat} {L : List HT} {v : Value} (h : QR A lo L v) (hk : KpN A A') (hg : ∀ b, rowB v = some b → b < A.next → A'.get b = A.get b) : QR A' lo L v := by
  rcases h with h | ⟨b, off, cells, rfl, h1, h2, h3, h4, h5⟩
  · exact .inl h
  · exact .inr ⟨b, off, cells, rfl, h1, Nat.lt_of_lt_of_le h2 hk.1, (hg b rfl h2).trans h3, h4, h5.imp fun t x ht => ht.kp hk⟩
theorem QR.lenU {A : St} {lo : Nat} {L : List HT} {v : Value} (h : QR A lo L v) (X : St) : lenU X (some (.slice 80)) v = some (.int .i64 L.length, X) := by
  rcases h with ⟨rfl, rfl⟩ | ⟨b, off, cells, rfl, _⟩ <;> rfl
theorem TrA.cell {A : St} {t : HT} {v : Value} (h : TrA A t v) : cell1 v = true := by
  obtain ⟨k, sy, l, r, rfl, _⟩ := h.ptr; rfl
def offZ : Value → Prop
  | .slice (some ⟨_, o, _⟩) _ _ => o = 0
  | _ => True
theorem qr_push {A : St} {lo : Nat} {L : List HT} {v : Value} (h : QR A lo L v) {t : HT} {x : Value} (hx : TrA A t x) (hlo : lo ≤ A.next) (hl : L.length ≤ 1000000) :
    ∃ v' A2, aappend Try.prog (A.alloc (.cells [x] 80 (some 0))) 79 79 v (.slice (some ⟨A.next, 0, none⟩) 1 1) = some (v', A2) ∧ QR A2 lo (L ++ [t]) v' ∧ A2.next = A.next + 2 ∧ rowB v' = some (A.next + 1) ∧ (∀ b, b < A.next → rowB v ≠ some b → A2.get b = A.get b) ∧ KpN A A2 ∧ offZ v' := by
  have hsrc : srcCells (A.alloc (.cells [x] 80 (some 0))) 1 (.slice (some ⟨A.next, 0, none⟩) 1 1) = some (1, [x]) := by
    rw [srcCells_slice (by decide) (get_alloc_same ..) (by simp)]; rfl
  have hxc := hx.cell
  rcases h with ⟨rfl, rfl⟩ | ⟨b, off, cells, rfl, h1, h2, h3, h4, h5⟩
  · have hk : KpN A ((A.alloc (.cells [x] 80 (some 0))).alloc (.cells [x] 80 (some 0))) := ((KpN.refl A).alloc _).alloc _
    refine ⟨_, _, append_nil Try.el79 Try.underlying79 (by intro k; exact TypeDesc.noConfusion) Try.sz80 Try.byt80 Try.zero80 rfl (by decide) hsrc (by decide) (by decide) (by decide), .inr ⟨A.next + 1, 0, [x], rfl, by omega, by simp, get_alloc_same .., by simp, .cons (hx.kp hk) .nil⟩, rfl, rfl, fun b hb _ => ?_, hk, rfl⟩
    rw [get_alloc_old (by rw [nx_alloc]; omega), get_alloc_old hb]
  · have h5l := h5.length
    rw [List.length_drop] at h5l
    have hg : (A.alloc (.cells [x] 80 (some 0))).get b = some (.cells cells 80 (some 0)) := (get_alloc_old h2).trans h3
    have htk : (cells.drop off).take (L.length * (0 + 1)) = cells.drop off := List.take_of_length_le (by rw [List.length_drop]; omega)
    have hap := append_ownO (P := Try.prog) (A := A.alloc (.cells [x] 80 (some 0))) (sT := 79) (xT := 79) (len := L.length) (off := off) (b := b) (x := .slice (some ⟨A.next, 0, none⟩) 1 1) (new := [x]) (m := 1) Try.el79 Try.underlying79 (by intro k; exact TypeDesc.noConfusion) Try.sz80 Try.byt80 Try.zero80 rfl hsrc (by decide) (by omega) (by omega) hg (by omega) (by simp [hxc])
    rw [htk] at hap
    have hk : KpN A (((A.alloc (.cells [x] 80 (some 0))).upd b none).alloc (.cells (cells.drop off ++ [x]) 80 (some 0))) := by
      refine ((((KpN.refl A).alloc _).upd (fun cs m e => ?_) _).alloc _)
      rw [h3] at e; injection e with e; injection e with _ e; exact absurd e (by decide)
    refine ⟨_, _, hap, .inr ⟨A.next + 1, 0, _, by rw [List.length_append, List.length_singleton]; rfl, by omega, by simp, get_alloc_same .., by simp, ?_⟩, rfl, rfl, fun c hc hcb => ?_, hk, rfl⟩
    · rw [List.drop_zero]
      exact All2.app (h5.imp fun t x ht => ht.kp hk) (.cons (hx.kp hk) .nil)
    · rw [get_alloc_old (by rw [nx_upd, nx_alloc]; omega), get_upd_old (fun e => hcb (by rw [e]; rfl)), get_alloc_old hc]
/-- The first of a queue. -/
theorem QR.cons {A : St} {lo : Nat} {t : HT} {L : List HT} {v : Value} (h : QR A lo (t :: L) v) : ∃ b off cells x v', (∀ kk : IntKind, indexAddrU Try.prog (some (.slice 80)) v (.int kk 0) = some (.pointer (some ⟨b, off, none⟩))) ∧ rowB v = some b ∧ lo ≤ b ∧ b < A.next ∧ A.get b = some (.cells cells 80 (some 0)) ∧ cells[off]? = some x ∧ TrA A t x ∧
    sliceU (some (.slice 80)) (tsz Try.prog) v (some (.int .i64 1)) none none = some v' ∧ QR A lo L v' ∧ rowB v' = some b := by
  rcases h with ⟨h, _⟩ | ⟨b, off, cells, rfl, h1, h2, h3, h4, h5⟩
  · cases h
  · have hd := h5.length
    rw [List.length_drop, List.length_cons] at hd
    obtain ⟨x, hx⟩ : ∃ x, cells[off]? = some x := ⟨cells[off]'(by omega), List.getElem?_eq_getElem (by omega)⟩
    have hdr : cells.drop off = x :: cells.drop (off + 1) := by
      rw [List.drop_eq_getElem_cons (by omega)]
      congr 1
      have := List.getElem?_eq_getElem (l := cells) (i := off) (by omega)
      rw [hx] at this; injection this with this; exact this.symm
    rw [hdr] at h5
    cases h5 with
    | cons hx1 hx2 =>
    refine ⟨b, off, cells, x, .slice (some ⟨b, off + 1 * 1, some 1⟩) ((t :: L).length - 1) ((t :: L).length - 1), fun kk => ?_, rfl, h1, h2, h3, hx, hx1, ?_, ?_, rfl⟩
    · refine (indexAddr_slice Try.prog kk 80 b off (some 1) (t :: L).length (t :: L).length 0 (by omega) (by simp)).trans ?_
      rw [Try.sz80]; simp
    · have hb : abounds (t :: L).length (t :: L).length (some (.int .i64 1)) none none = some (1, (t :: L).length, (t :: L).length) := by
        have : (1 : Int) ≤ ((t :: L).length : Nat) := by simp; omega
        simp [abounds, abound1]
        omega
      rw [sliceU_slice, Try.sz80, Option.bind_some, sliceL_eq, hb]
      rw [show (none : Option Value).isSome = false from rfl, boundsL_own]
    · exact .inr ⟨b, off + 1, cells, by rw [Nat.mul_one, List.length_cons, Nat.add_sub_cancel], h1, h2, h3, by omega, hx2⟩
theorem Try.enters41 : Enters Try.prog 41 := enters_of Try.func41 rfl (by kernel_rfl)
theorem Try.enters42 : Enters Try.prog 42 := enters_of Try.func42 rfl (by kernel_rfl)
set_option maxHeartbeats 4000000 in
/-- The lightest one is taken. -/
theorem lightest_ok (w0 : World) (A : St) (c1 c2 lo : Nat) (L P : List HT) (v u : Value) (h12 : c1 ≠ c2) (hc1 : c1 < lo) (hc2 : c2 < lo) (hlo : lo ≤ A.next) (g1 : A.get c1 = some (.cells [v] 79 (some 0))) (g2 : A.get c2 = some (.cells [u] 79 (some 0))) (hv : QR A lo L v) (hu : QR A lo P u) {t : HT} {L' P' : List HT} (hp : popL L P = some (t, L', P')) (hL : L.length ≤ 1000000) (hP : P.length ≤ 1000000) :
    ∃ x v' u' A', ACalls Try.prog w0 41 #[.pointer (some ⟨c2, 0, none⟩), .pointer (some ⟨c1, 0, none⟩)] A (fin x A') ∧ TrA A' t x ∧ A'.next = A.next ∧ (∀ b, b ≠ c1 → b ≠ c2 → A'.get b = A.get b) ∧ A'.get c1 = some (.cells [v'] 79 (some 0)) ∧ A'.get c2 = some (.cells [u'] 79 (some 0)) ∧ QR A' lo L' v' ∧ QR A' lo P' u' ∧ (∀ b, rowB v' = some b → rowB v = some b) ∧ (∀ b, rowB u' = some b → rowB u = some b) ∧ KpN A A' := by
  have kpc : ∀ (c : Nat) (w : Value) (X : Option Blk), A.get c = some (.cells [w] 79 (some 0)) → KpN A (A.upd c X) := fun c w X hc => (KpN.refl A).upd (fun cs m e => by rw [hc] at e; injection e with e; injection e with _ e; exact absurd e (by decide)) _
  have lv := hv.lenU
  have lu := hu.lenU
  -- out of the leaves
  have fromL : ∀ (a : HT) (L0 : List HT), L = a :: L0 → (P = [] ∨ ∃ p P0, P = p :: P0 ∧ a.wt ≤ p.wt) → ∃ x v', ACalls Try.prog w0 41 #[.pointer (some ⟨c2, 0, none⟩), .pointer (some ⟨c1, 0, none⟩)] A (fin x (A.upd c1 (some (.cells [v'] 79 (some 0))))) ∧ TrA A a x ∧ QR A lo L0 v' ∧ (∀ b, rowB v' = some b → rowB v = some b) := by
    rintro a L0 rfl hcase
    obtain ⟨b, off, cells, x, v', q1, q2, q3, q4, q5, q6, q7, q8, q9, q10⟩ := hv.cons
    refine ⟨x, v', ?_, q7, q9, fun b' hb' => by rw [q10] at hb'; cases hb'; exact q2⟩
    obtain ⟨k, sy, l, r, rfl, k1, k2⟩ := q7.ptr
    unfold nodC at k2
    have hne0 : ¬ (((a :: L0).length : Nat) : Int) = 0 := by simp; omega
    have hgt0 : (0 : Int) < (((a :: L0).length : Nat) : Int) := by simp
    refine call_E (l := [.pointer (some ⟨c2, 0, none⟩), .pointer (some ⟨c1, 0, none⟩)]) Try.enters41 Try.func41 rfl (Nat.le_of_ble_eq_true rfl) fun hw hbd => ?_
    generalize (((a :: L0).length : Nat) : Int) = NL at lv hne0 hgt0
    rcases hcase with hP0 | ⟨p, P0, rfl, hle⟩
    · rw [hP0] at lu
      simp (maxSteps := 1000000) (disch := (first | omega | (simp only [nx_alloc, nx_upd, len_cons, len_nil, List.length_set, List.length_map, List.length_append] <;> omega) | fail)) only [go_sem, Try.ntmps41, Try.results41]
      refine aw_draw (by kernel_rfl) ?_
      simp (maxSteps := 1000000) (disch := (first | omega | (simp only [nx_alloc, nx_upd, len_cons, len_nil, List.length_set, List.length_map, List.length_append] <;> omega) | fail)) only [go_sem, g1, g2, lu]
      refine aw_draw2 [⟨false, [], [0]⟩, ⟨false, [0], [0]⟩, ⟨false, [0, 1], [0]⟩, ⟨false, [], [0]⟩, ⟨false, [3], [0]⟩, ⟨false, [0, 1, 2], [0]⟩, ⟨true, [0, 1, 2, 3, 4, 5], [0]⟩] [A, A.upd c1 (some (.cells [v'] 79 (some 0)))] 1 (by kernel_rfl) (by kernel_rfl) rfl ?_
      simp (maxSteps := 1000000) (disch := (first | omega | (simp only [nx_alloc, nx_upd, len_cons, len_nil, List.length_set, List.length_map, List.length_append] <;> omega) | fail)) only [go_sem, g1, g2, q1, q5, q6, q8, storeC_val (off := 0) (k := 0) (cs := [v]) (e := 79) q9.one (Nat.le_refl _) (Nat.le_refl _), Try.results41]
      exact gc_here ⟨rfl, rfl⟩
    · obtain ⟨b', off', cells', x', u', y1, y2, y3, y4, y5, y6, y7, y8, y9, y10⟩ := hu.cons
      obtain ⟨k', sy', l', r', rfl, k1', k2'⟩ := y7.ptr
      unfold nodC at k2'
      have hneP : ¬ (((p :: P0).length : Nat) : Int) = 0 := by simp; omega
      generalize (((p :: P0).length : Nat) : Int) = NP at lu hneP
      simp (maxSteps := 1000000) (disch := (first | omega | (simp only [nx_alloc, nx_upd, len_cons, len_nil, List.length_set, List.length_map, List.length_append] <;> omega) | fail)) only [go_sem, Try.ntmps41, Try.results41]
      refine aw_draw (by kernel_rfl) ?_
      simp (maxSteps := 1000000) (disch := (first | omega | (simp only [nx_alloc, nx_upd, len_cons, len_nil, List.length_set, List.length_map, List.length_append] <;> omega) | fail)) only [go_sem, g1, g2, lu, lv, q1, q5, q6, k2, y1, y5, y6, k2', hle]
      refine aw_draw2 [⟨false, [], [0]⟩, ⟨false, [0], [0]⟩, ⟨false, [0, 1], [0]⟩, ⟨false, [], [0]⟩, ⟨false, [3], [0]⟩, ⟨false, [0, 1, 2], [0]⟩, ⟨true, [0, 1, 2, 3, 4, 5], [0]⟩] [A, A.upd c1 (some (.cells [v'] 79 (some 0)))] 1 (by kernel_rfl) (by kernel_rfl) rfl ?_
      simp (maxSteps := 1000000) (disch := (first | omega | (simp only [nx_alloc, nx_upd, len_cons, len_nil, List.length_set, List.length_map, List.length_append] <;> omega) | fail)) only [go_sem, g1, g2, q1, q5, q6, q8, storeC_val (off := 0) (k := 0) (cs := [v]) (e := 79) q9.one (Nat.le_refl _) (Nat.le_refl _), Try.results41]
      exact gc_here ⟨rfl, rfl⟩
  have fromP : ∀ (p : HT) (P0 : List HT), P = p :: P0 → (L = [] ∨ ∃ a L0, L = a :: L0 ∧ ¬ a.wt ≤ p.wt) → ∃ x u', ACalls Try.prog w0 41 #[.pointer (some ⟨c2, 0, none⟩), .pointer (some ⟨c1, 0, none⟩)] A (fin x (A.upd c2 (some (.cells [u'] 79 (some 0))))) ∧ TrA A p x ∧ QR A lo P0 u' ∧ (∀ b, rowB u' = some b → rowB u = some b) := by
    rintro p P0 rfl hcase
    obtain ⟨b, off, cells, x, u', q1, q2, q3, q4, q5, q6, q7, q8, q9, q10⟩ := hu.cons
    refine ⟨x, u', ?_, q7, q9, fun b' hb' => by rw [q10] at hb'; cases hb'; exact q2⟩
    obtain ⟨k, sy, l, r, rfl, k1, k2⟩ := q7.ptr
    unfold nodC at k2
    have hneP : ¬ (((p :: P0).length : Nat) : Int) = 0 := by simp; omega
    refine call_E (l := [.pointer (some ⟨c2, 0, none⟩), .pointer (some ⟨c1, 0, none⟩)]) Try.enters41 Try.func41 rfl (Nat.le_of_ble_eq_true rfl) fun hw hbd => ?_
    generalize (((p :: P0).length : Nat) : Int) = NP at lu hneP
    rcases hcase with hL0 | ⟨a, L0, rfl, hle⟩
    · rw [hL0] at lv
      simp (maxSteps := 1000000) (disch := (first | omega | (simp only [nx_alloc, nx_upd, len_cons, len_nil, List.length_set, List.length_map, List.length_append] <;> omega) | fail)) only [go_sem, Try.ntmps41, Try.results41]
      refine aw_draw (by kernel_rfl) ?_
      simp (maxSteps := 1000000) (disch := (first | omega | (simp only [nx_alloc, nx_upd, len_cons, len_nil, List.length_set, List.length_map, List.length_append] <;> omega) | fail)) only [go_sem, g1, g2, lu, lv]
      refine aw_draw2 [⟨false, [], [0]⟩, ⟨false, [0], [0]⟩, ⟨false, [0, 1], [0]⟩, ⟨false, [], [0]⟩, ⟨false, [3], [0]⟩, ⟨false, [0, 1, 2], [0]⟩, ⟨true, [0, 1, 2, 3, 4, 5], [0]⟩] [A, A.upd c2 (some (.cells [u'] 79 (some 0)))] 1 (by kernel_rfl) (by kernel_rfl) rfl ?_
      simp (maxSteps := 1000000) (disch := (first | omega | (simp only [nx_alloc, nx_upd, len_cons, len_nil, List.length_set, List.length_map, List.length_append] <;> omega) | fail)) only [go_sem, g1, g2, q1, q5, q6, q8, storeC_val (off := 0) (k := 0) (cs := [u]) (e := 79) q9.one (Nat.le_refl _) (Nat.le_refl _), Try.results41]
      exact gc_here ⟨rfl, rfl⟩
    · obtain ⟨b', off', cells', x', v', y1, y2, y3, y4, y5, y6, y7, y8, y9, y10⟩ := hv.cons
      obtain ⟨k', sy', l', r', rfl, k1', k2'⟩ := y7.ptr
      unfold nodC at k2'
      have hgt0 : (0 : Int) < (((a :: L0).length : Nat) : Int) := by simp
      generalize (((a :: L0).length : Nat) : Int) = NL at lv hgt0
      simp (maxSteps := 1000000) (disch := (first | omega | (simp only [nx_alloc, nx_upd, len_cons, len_nil, List.length_set, List.length_map, List.length_append] <;> omega) | fail)) only [go_sem, Try.ntmps41, Try.results41]
      refine aw_draw (by kernel_rfl) ?_
      simp (maxSteps := 1000000) (disch := (first | omega | (simp only [nx_alloc, nx_upd, len_cons, len_nil, List.length_set, List.length_map, List.length_append] <;> omega) | fail)) only [go_sem, g1, g2, lu, lv, q1, q5, q6, k2, y1, y5, y6, k2', hle]
      refine aw_draw2 [⟨false, [], [0]⟩, ⟨false, [0], [0]⟩, ⟨false, [0, 1], [0]⟩, ⟨false, [], [0]⟩, ⟨false, [3], [0]⟩, ⟨false, [0, 1, 2], [0]⟩, ⟨true, [0, 1, 2, 3, 4, 5], [0]⟩] [A, A.upd c2 (some (.cells [u'] 79 (some 0)))] 1 (by kernel_rfl) (by kernel_rfl) rfl ?_
      simp (maxSteps := 1000000) (disch := (first | omega | (simp only [nx_alloc, nx_upd, len_cons, len_nil, List.length_set, List.length_map, List.length_append] <;> omega) | fail)) only [go_sem, g1, g2, q1, q5, q6, q8, storeC_val (off := 0) (k := 0) (cs := [u]) (e := 79) q9.one (Nat.le_refl _) (Nat.le_refl _), Try.results41]
      exact gc_here ⟨rfl, rfl⟩
  have doneL : ∀ (a : HT) (L0 : List HT), L = a :: L0 → (P = [] ∨ ∃ p P0, P = p :: P0 ∧ a.wt ≤ p.wt) → (t, L', P') = (a, L0, P) → ∃ x v' u' A', ACalls Try.prog w0 41 #[.pointer (some ⟨c2, 0, none⟩), .pointer (some ⟨c1, 0, none⟩)] A (fin x A') ∧ TrA A' t x ∧ A'.next = A.next ∧ (∀ b, b ≠ c1 → b ≠ c2 → A'.get b = A.get b) ∧ A'.get c1 = some (.cells [v'] 79 (some 0)) ∧ A'.get c2 = some (.cells [u'] 79 (some 0)) ∧ QR A' lo L' v' ∧ QR A' lo P' u' ∧ (∀ b, rowB v' = some b → rowB v = some b) ∧ (∀ b, rowB u' = some b → rowB u = some b) ∧ KpN A A' := fun a L0 e1 e2 e3 => by
    obtain ⟨x, v', k1, k2, k3, k4⟩ := fromL a L0 e1 e2
    injection e3 with e3 e4
    injection e4 with e4 e5
    subst e3 e4 e5
    have kk := kpc c1 v (some (.cells [v'] 79 (some 0))) g1
    exact ⟨x, v', u, _, k1, k2.kp kk, rfl, fun b hb _ => get_upd_old hb, get_upd_same .., (get_upd_old (fun e => h12 e.symm)).trans g2, k3.kp kk (fun b hb hlt => get_upd_old (by have := (k3.rb b hb).1; omega)), hu.kp kk (fun b hb hlt => get_upd_old (by have := (hu.rb b hb).1; omega)), k4, fun b hb => hb, kk⟩
  have doneP : ∀ (p : HT) (P0 : List HT), P = p :: P0 → (L = [] ∨ ∃ a L0, L = a :: L0 ∧ ¬ a.wt ≤ p.wt) → (t, L', P') = (p, L, P0) → ∃ x v' u' A', ACalls Try.prog w0 41 #[.pointer (some ⟨c2, 0, none⟩), .pointer (some ⟨c1, 0, none⟩)] A (fin x A') ∧ TrA A' t x ∧ A'.next = A.next ∧ (∀ b, b ≠ c1 → b ≠ c2 → A'.get b = A.get b) ∧ A'.get c1 = some (.cells [v'] 79 (some 0)) ∧ A'.get c2 = some (.cells [u'] 79 (some 0)) ∧ QR A' lo L' v' ∧ QR A' lo P' u' ∧ (∀ b, rowB v' = some b → rowB v = some b) ∧ (∀ b, rowB u' = some b → rowB u = some b) ∧ KpN A A' := fun p P0 e1 e2 e3 => by
    obtain ⟨x, u', k1, k2, k3, k4⟩ := fromP p P0 e1 e2
    injection e3 with e3 e4
    injection e4 with e4 e5
    subst e3 e4 e5
    have kk := kpc c2 u (some (.cells [u'] 79 (some 0))) g2
    exact ⟨x, v, u', _, k1, k2.kp kk, rfl, fun b _ hb => get_upd_old hb, (get_upd_old h12).trans g1, get_upd_same .., hv.kp kk (fun b hb hlt => get_upd_old (by have := (hv.rb b hb).1; omega)), k3.kp kk (fun b hb hlt => get_upd_old (by have := (k3.rb b hb).1; omega)), fun b hb => hb, k4, kk⟩
  match L, P, hp with
  | a :: L0, [], hp => injection hp with hp; exact doneL a L0 rfl (.inl rfl) hp.symm
  | [], p :: P0, hp => injection hp with hp; exact doneP p P0 rfl (.inl rfl) hp.symm
  | a :: L0, p :: P0, hp =>
    rw [popL_cc] at hp
    by_cases hle : a.wt ≤ p.wt
    · rw [if_pos hle] at hp; injection hp with hp; exact doneL a L0 rfl (.inr ⟨p, P0, rfl, hle⟩) hp.symm
    · rw [if_neg hle] at hp; injection hp with hp; exact doneP p P0 rfl (.inr ⟨a, L0, rfl, hle⟩) hp.symm
abbrev intB (ls : List Int) : Option Blk := some (.cells (ls.map (Value.int .i64 ·)) 3 (some 0))
theorem map_set (ls : List Int) (i : Nat) (x : Int) : (ls.map (Value.int .i64 ·)).set i (.int .i64 x) = (ls.set i x).map (Value.int .i64 ·) := by rw [List.map_set]
set_option maxHeartbeats 4000000 in
theorem deepen_ok (w0 : World) (b : Nat) : ∀ (t : HT) (A : St) (x : Value) (ls : List Int) (d : Int), TrA A t x → A.get b = intB ls → (∀ s ∈ t.syms, s < ls.length) → 0 ≤ d → d + t.ht ≤ 1000000 → ls.length ≤ 1000000 →
    ACalls Try.prog w0 42 #[x, .slice (some ⟨b, 0, none⟩) ls.length ls.length, .int .i64 d] A (fin (.tuple #[]) (A.upd b (intB (deepL t d ls)))) := by
  intro t
  induction t with
  | leaf w s =>
    intro A x ls d hx hb hs hd0 hd hl
    obtain ⟨k, rfl, k1, k2⟩ := hx
    have hsl := hs s (by simp [HT.syms])
    unfold nodC at k2
    refine call_E (l := [.pointer (some ⟨k, 0, none⟩), .slice (some ⟨b, 0, none⟩) ls.length ls.length, .int .i64 d]) Try.enters42 Try.func42 rfl (Nat.le_of_ble_eq_true rfl) fun hw hbd => ?_
    have ix : indexAddrU Try.prog (some (.slice 3)) (.slice (some ⟨b, 0, none⟩) ls.length ls.length) (.int .i64 (s : Int)) = some (.pointer (some ⟨b, s, none⟩)) := by
      refine (indexAddr_slice Try.prog .i64 3 b 0 none ls.length ls.length (s : Int) (by omega) (by omega)).trans ?_
      rw [Try.sz3]; simp
    have hb' := hb
    unfold intB at hb'
    have hm := map_set ls s (mx1 d)
    unfold mx1 at hm
    by_cases h1 : d < 1
    · have h1' : 1 > d := h1
      rw [if_pos h1'] at hm
      simp (maxSteps := 1000000) (disch := (first | omega | (simp only [nx_alloc, nx_upd, len_cons, len_nil, List.length_set, List.length_map, List.length_append] <;> omega) | fail)) only [go_sem, Try.ntmps42, k2, ix, hb', hm, h1, Try.results42]
      refine gc_here ⟨rfl, ?_⟩
      unfold deepL mx1
      rw [if_pos h1']
    · have h1' : ¬ 1 > d := h1
      rw [if_neg h1'] at hm
      simp (maxSteps := 1000000) (disch := (first | omega | (simp only [nx_alloc, nx_upd, len_cons, len_nil, List.length_set, List.length_map, List.length_append] <;> omega) | fail)) only [go_sem, Try.ntmps42, k2, ix, hb', hm, h1, Try.results42]
      refine gc_here ⟨rfl, ?_⟩
      unfold deepL mx1
      rw [if_neg h1']
  | br w l r ihl ihr =>
    intro A x ls d hx hb hs hd0 hd hl
    obtain ⟨k, kl, kr, rfl, k1, k2, k3, k4⟩ := hx
    unfold nodC at k2
    unfold HT.ht at hd
    have hbn : ∀ cs m, A.get b ≠ some (.cells cs 82 m) := fun cs m e => by
      rw [hb] at e; injection e with e; injection e with _ e; exact absurd e (by decide)
    have kk : KpN A (A.upd b (intB (deepL l (d + 1) ls))) := (KpN.refl A).upd hbn _
    have hkb : k ≠ b := fun e => hbn _ _ (by rw [← e]; exact k2)
    have dl := deepL_len l (d + 1) ls
    have c1 := ihl A _ ls (d + 1) k3 hb (fun s hs' => hs s (by simp [HT.syms, hs'])) (by omega) (by omega) hl
    have c2 := ihr (A.upd b (intB (deepL l (d + 1) ls))) _ (deepL l (d + 1) ls) (d + 1) (k4.kp kk) (get_upd_same ..) (fun s hs' => by rw [dl]; exact hs s (by simp [HT.syms, hs'])) (by omega) (by omega) (by rw [dl]; exact hl)
    rw [dl, upd_upd] at c2
    have k2' : (A.upd b (intB (deepL l (d + 1) ls))).get k = _ := (get_upd_old hkb).trans k2
    refine call_E (l := [.pointer (some ⟨k, 0, none⟩), .slice (some ⟨b, 0, none⟩) ls.length ls.length, .int .i64 d]) Try.enters42 Try.func42 rfl (Nat.le_of_ble_eq_true rfl) fun hw hbd => ?_
    simp (maxSteps := 1000000) (disch := (first | omega | (simp only [nx_alloc, nx_upd, len_cons, len_nil, List.length_set, List.length_map, List.length_append] <;> omega) | fail)) only [go_sem, Try.ntmps42, k2]
    refine call1 c1 ?_
    simp (maxSteps := 1000000) (disch := (first | omega | (simp only [nx_alloc, nx_upd, len_cons, len_nil, List.length_set, List.length_map, List.length_append] <;> omega) | fail)) only [go_sem, k2']
    refine call1 c2 ?_
    simp (maxSteps := 1000000) (disch := (first | omega | (simp only [nx_alloc, nx_upd, len_cons, len_nil, List.length_set, List.length_map, List.length_append] <;> omega) | fail)) only [go_sem, Try.results42]
    exact gc_here ⟨rfl, rfl⟩
end Go.Fw
