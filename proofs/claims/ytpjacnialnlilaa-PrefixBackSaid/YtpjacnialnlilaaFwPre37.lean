import Derived.Test.YtpjacnialnlilaaFwPre36
set_option linter.unusedSimpArgs false
set_option linter.unusedVariables false
set_option maxRecDepth 4000
namespace Go.Fw
open Go.Proofs Go.RowKit
/-! Next of the document. -/
theorem Try.enters20 : Enters Try.prog 20 := enters_of Try.func20 rfl (by kernel_rfl)
/-- A longer word, ahead of the place i, that these bits begin. -/
def mor (l : List Int) (k w i : Nat) : Prop := ∃ (j k' : Nat), j < i ∧ l[j]? = some (k' : Int) ∧ k < k' ∧ rv k' (wrd l j k') % 2 ^ k = rv k w
def hit (l : List Int) (k w i : Nat) : Prop := l[i]? = some (k : Int) ∧ rv k (wrd l i k) = rv k w
theorem mor_step {l : List Int} {k w i : Nat} {x : Nat} (hx : l[i]? = some (x : Int)) : mor l k w (i + 1) ↔ mor l k w i ∨ (k < x ∧ rv x (wrd l i x) % 2 ^ k = rv k w) := by
  constructor
  · rintro ⟨j, k', h1, h2, h3, h4⟩
    by_cases h : j = i
    · subst h
      rw [hx] at h2
      injection h2 with h2
      obtain rfl : x = k' := by omega
      exact .inr ⟨h3, h4⟩
    · exact .inl ⟨j, k', by omega, h2, h3, h4⟩
  · rintro (⟨j, k', h1, h2, h3, h4⟩ | ⟨h3, h4⟩)
    · exact ⟨j, k', by omega, h2, h3, h4⟩
    · exact ⟨i, x, by omega, hx, h3, h4⟩
theorem mor_zero (l : List Int) (k w : Nat) : ¬ mor l k w 0 := by
  rintro ⟨j, k', h1, _⟩; omega
theorem mor_all {l : List Int} {k w : Nat} : mor l k w l.length ↔ ∃ (i k' : Nat), l[i]? = some (k' : Int) ∧ k < k' ∧ rv k' (wrd l i k') % 2 ^ k = rv k w :=
  ⟨fun ⟨j, k', _, h⟩ => ⟨j, k', h⟩, fun ⟨j, k', h⟩ => ⟨j, k', (List.getElem?_eq_some_iff.1 h.1).1, h⟩⟩
set_option maxHeartbeats 16000000 in
theorem rnext_ok (w0 : World) (A : St) (l : List Int) (v : Value) (r : Nat) (s : ByteArray) (p : Nat) (hv : InView A l v) (hl : l.length ≤ 1000) (hr : A.get r = some (rdB 48 s p)) (hvr : rowB v ≠ some r) (hs : s.size ≤ 140737488355328) (hp : p ≤ 8 * s.size) :
    ACalls Try.prog w0 20 #[.pointer (some ⟨r, 0, none⟩), v] A (fin (nextV (nextP l (sbit s) (8 * s.size) p)) (A.upd r (some (rdB 48 s (nextP l (sbit s) (8 * s.size) p).2.2)))) := by
  refine call_E (l := [.pointer (some ⟨r, 0, none⟩), v]) Try.enters20 Try.func20 rfl (Nat.le_of_ble_eq_true rfl) fun hw hbd => ?_
  have hrn : r < A.next := (hw r _ hr).1
  have hfin : ∀ {x : Int × Int × Nat} {A' : St}, nextP l (sbit s) (8 * s.size) p = x → RdAt A r 48 s x.2.2 A' → GcE A (fin (nextV (nextP l (sbit s) (8 * s.size) p)) (A.upd r (some (rdB 48 s (nextP l (sbit s) (8 * s.size) p).2.2)))) (.returned (nextV x)) A' := by
    rintro x A' rfl h
    exact gc_upd hw hrn (RdAt.bnd _ _ _) h.over rfl (bnd_nextV _ _)
  simp (maxSteps := 1000000) (disch := (first | omega | (simp only [nx_alloc, nx_upd, len_cons, len_nil, List.length_set, List.length_map, List.length_append] <;> omega) | fail)) only [go_sem, Try.ntmps20, Try.results20]
  refine (rcodes_ok w0 A l v hv hl).mono ?_
  rintro e A1 ⟨cv, rfl, o1, rc⟩
  have rd1 : RdAt A r 48 s p A1 := ⟨o1.next, by rw [o1.get r hrn]; exact hr, fun b hb _ => o1.get b hb⟩
  rcases hc : isCode l with _ | _
  · have hcp : (codesP l).2 = 70 := by unfold codesP; rw [hc]; rfl
    simp (maxSteps := 1000000) (disch := (first | omega | (simp only [nx_alloc, nx_upd, len_cons, len_nil, List.length_set, List.length_map, List.length_append] <;> omega) | fail)) only [go_sem, hcp, Try.results20]
    exact hfin (x := (0, 70, p)) (by unfold nextP; rw [hc]; rfl) rd1
  have hcP : codesP l = (codeL l, 0) := by unfold codesP; rw [if_pos hc]
  rw [hcP] at rc ⊢
  obtain ⟨hk, hl3, h15⟩ := isCode_kr hc
  have hP : nextP l (sbit s) (8 * s.size) p = nextG l (sbit s) (8 * s.size) 15 0 0 p := if_pos hc
  have rcv := rc.view
  rw [flatP_eq] at rcv
  have hcl := codeL_len l
  have hlc : ∀ X, lenU X (some (.slice 41)) cv = some (.int .i64 (codeL l).length, X) := View.lenX rcv
  rw [hcl] at hlc
  have hcvr : ∀ b, rowB cv = some b → A.next ≤ b := fun b hb => (rc.rb b hb).1
  have hcat : ∀ (i : Nat), i < l.length → (codeL l)[i]? = some (pieceAt l i) := fun i hi => by
    unfold codeL
    rw [List.getElem?_map, List.getElem?_range hi]; rfl
  simp (maxSteps := 1000000) (disch := (first | omega | (simp only [nx_alloc, nx_upd, len_cons, len_nil, List.length_set, List.length_map, List.length_append] <;> omega) | fail)) only [go_sem]
  refine aw_loop (fun j x C => ∃ (ρ : Nat → Value) (k w q : Nat), x = E 87 ρ [] ∧ RdAt A r 48 s q C ∧ View C 2 (flatP (codeL l)) (codeL l).length cv ∧ j = 15 - k ∧ k ≤ 15 ∧ q ≤ 8 * s.size ∧ NI l k w ∧ nextP l (sbit s) (8 * s.size) p = nextG l (sbit s) (8 * s.size) (15 - k) k w q ∧ ρ 0 = .pointer (some ⟨r, 0, none⟩) ∧ ρ 6 = cv ∧ ρ 8 = .int .u32 (rv k w : Nat) ∧ ρ 9 = .int .i64 ((k + 1 : Nat) : Int)) 15
    ⟨_, 0, 0, p, rfl, rd1, rcv, rfl, Nat.zero_le _, hp, NI.zero l, hP, rfl, rfl, rfl, rfl⟩ ?_
  rintro j x C ⟨ρ, k, w, q, rfl, rdC, vC, hj, hk15, hq, hNI, hres, r0, r6, r8, r9⟩
  refine aw_of ?_
  by_cases hend : k = 15
  · have e1 : ¬ ((k + 1 : Nat) : Int) ≤ 15 := by omega
    simp (maxSteps := 1000000) (disch := (first | omega | (simp only [nx_alloc, nx_upd, len_cons, len_nil, List.length_set, List.length_map, List.length_append] <;> omega) | fail)) only [go_sem, r0, r6, r8, r9, e1, Try.results20]
    exact hfin (x := (0, 70, q)) (by rw [hres, hend]; rfl) rdC
  have e1 : ((k + 1 : Nat) : Int) ≤ 15 := by omega
  obtain ⟨fu, hfu⟩ : ∃ fu, 15 - k = fu + 1 := ⟨14 - k, by omega⟩
  rw [hfu, nextG] at hres
  simp (maxSteps := 1000000) (disch := (first | omega | (simp only [nx_alloc, nx_upd, len_cons, len_nil, List.length_set, List.length_map, List.length_append] <;> omega) | fail)) only [go_sem, r0, r6, r8, r9, e1]
  refine call1 (brtake_ok w0 C r s q 1 rdC.rd hs hq) ?_
  rw [take_one]
  by_cases hsh : 8 * s.size ≤ q
  · rw [if_pos hsh] at hres ⊢
    simp (maxSteps := 1000000) (disch := (first | omega | (simp only [nx_alloc, nx_upd, len_cons, len_nil, List.length_set, List.length_map, List.length_append] <;> omega) | fail)) only [go_sem, Try.results20]
    exact hfin (x := (0, 40, q)) hres (rdC.set q)
  rw [if_neg hsh] at hres ⊢
  have hb2 := sbit_lt s q
  generalize sbit s q = b at *
  have rdD := rdC.set (q + 1)
  have vD : View (C.upd r (some (rdB 48 s (q + 1)))) 2 (flatP (codeL l)) (codeL l).length cv := View.keep vC (Nat.le_refl _) fun c hc' _ => by
    rw [get_upd_old (by have := hcvr c hc'; omega)]
  generalize C.upd r (some (rdB 48 s (q + 1))) = D at *
  have hbit := hNI.bit hb2
  have hrl := rv_lt k w
  have hsl := u32_shl b k (by omega) hb2
  have hor := u32_or (rv k w) b k (by omega) hb2 hrl
  rw [← rv_add hb2] at hor
  have hk1 : IntKind.i64.wrap (((k + 1 : Nat) : Int) - 1) = (k : Int) := by rw [wrap_small (by omega) (by omega)]; omega
  generalize hw' : 2 * w + b = w' at *
  simp (maxSteps := 1000000) (disch := (first | omega | (simp only [nx_alloc, nx_upd, len_cons, len_nil, List.length_set, List.length_map, List.length_append] <;> omega) | fail)) only [go_sem, r0, r6, r8, r9, hk1, hsl, hor]
  have hrw := rv_lt (k + 1) w'
  obtain ⟨Q, hQ⟩ : ∃ Q, Q = 2 ^ (k + 1) := ⟨_, rfl⟩
  have hQ0 : 0 < Q := by rw [hQ]; exact Nat.pow_pos (by decide)
  have h2Q : 2 ^ (k + 1) ≤ 2 ^ 15 := Nat.pow_le_pow_right (by decide) (by omega)
  have h215 : (2 : Nat) ^ 15 = 32768 := rfl
  have hshq : ishl .u32 1 ((k + 1 : Nat) : Int) = (Q : Int) := by
    have := u32_sl (a := 1) (s := k + 1) (by omega) (by omega)
    rw [show (1 : Int) = ((1 : Nat) : Int) from rfl, this, Nat.one_shiftLeft, hQ]
  refine aw_loop (fun m y B => ∃ (ρ : Nat → Value) (i : Nat) (mo : Bool), y = E 87 ρ [] ∧ B = D ∧ m = l.length - i ∧ i ≤ l.length ∧ (∀ i', i' < i → ¬ hit l (k + 1) w' i') ∧ (mo = true ↔ mor l (k + 1) w' i) ∧ ρ 0 = .pointer (some ⟨r, 0, none⟩) ∧ ρ 6 = cv ∧ ρ 8 = .int .u32 (rv (k + 1) w' : Nat) ∧ ρ 9 = .int .i64 ((k + 1 : Nat) : Int) ∧ ρ 12 = .bool mo ∧ ρ 13 = .int .i64 i) l.length
    ⟨_, 0, false, rfl, rfl, rfl, Nat.zero_le _, fun i' h => by omega, ⟨fun h => (by cases h), fun h => (mor_zero _ _ _ h).elim⟩, by first | rfl | exact r0, by first | rfl | exact r6, rfl, by first | rfl | exact r9, rfl, rfl⟩ ?_
  clear r0 r6 r8 r9
  rintro m y B ⟨ρ, i, mo, rfl, rfl, hm, hi, hno, hmo, r0, r6, r8, r9, r12, r13⟩
  refine aw_of ?_
  by_cases hend2 : i = l.length
  · have e2 : ¬ ((i : Int) < (l.length : Int)) := by omega
    rw [hend2] at hno hmo
    have hnh : ¬ w' < bs l (k + 1) + mny l (k + 1) := fun h => by
      obtain ⟨i', h1, h2⟩ := (hit_iff hk (k := k + 1) (w := w') (by omega) (by omega) hbit.1 hbit.2).2 h
      exact hno i' (List.getElem?_eq_some_iff.1 h1).1 ⟨h1, h2⟩
    rw [if_neg hnh] at hres
    have hmi := more_iff hc (k := k + 1) (w := w') (by omega) (by omega) hbit.1 (by omega)
    rw [← mor_all, ← hmo] at hmi
    cases mo with
    | false =>
      have hl0 : lng l (k + 1) = 0 := by
        rcases Nat.eq_zero_or_pos (lng l (k + 1)) with h | h
        · exact h
        · have := hmi.2 (by omega); cases this
      rw [if_pos hl0] at hres
      simp (maxSteps := 1000000) (disch := (first | omega | (simp only [nx_alloc, nx_upd, len_cons, len_nil, List.length_set, List.length_map, List.length_append] <;> omega) | fail)) only [go_sem, r0, r6, r8, r9, r12, r13, hlc, e2, Try.results20]
      exact hfin (x := (0, 70, q + 1)) hres rdD
    | true =>
      rw [if_neg (hmi.1 rfl)] at hres
      simp (maxSteps := 1000000) (disch := (first | omega | (simp only [nx_alloc, nx_upd, len_cons, len_nil, List.length_set, List.length_map, List.length_append] <;> omega) | fail)) only [go_sem, r0, r6, r8, r9, r12, r13, hlc, e2]
      refine ⟨j - 1, by omega, _, k + 1, w', q + 1, rfl, rdD, vD, by omega, by omega, by omega, by rw [← hw']; exact hNI.step hb2 (by rw [hw']; exact hnh), by rw [hres]; congr 1; omega, ?_, ?_, ?_, ?_⟩
      · simp (maxSteps := 1000000) (disch := (first | omega | (simp only [nx_alloc, nx_upd, len_cons, len_nil, List.length_set, List.length_map, List.length_append] <;> omega) | fail)) only [go_sem, r0]
      · simp (maxSteps := 1000000) (disch := (first | omega | (simp only [nx_alloc, nx_upd, len_cons, len_nil, List.length_set, List.length_map, List.length_append] <;> omega) | fail)) only [go_sem, r6]
      · simp (maxSteps := 1000000) (disch := (first | omega | (simp only [nx_alloc, nx_upd, len_cons, len_nil, List.length_set, List.length_map, List.length_append] <;> omega) | fail)) only [go_sem, r8]
      · simp (maxSteps := 1000000) (disch := (first | omega | (simp only [nx_alloc, nx_upd, len_cons, len_nil, List.length_set, List.length_map, List.length_append] <;> omega) | fail)) only [go_sem]
        rfl
  have e2 : ((i : Int) < (l.length : Int)) := by omega
  obtain ⟨x, hx⟩ : ∃ x, l[i]? = some x := ⟨_, List.getElem?_eq_getElem (by omega)⟩
  have hx15 := h15 x (List.mem_of_getElem? hx)
  obtain ⟨x, rfl⟩ := Int.eq_ofNat_of_zero_le hx15.1
  obtain ⟨b1, f1, _, _, x3, cs1, e1', m1, x4, x5, _, x6, x7⟩ := pcs_at (P := Try.prog) (e := 41) vD Try.sz41 (hcat i (by omega))
  have hms := mor_step (k := k + 1) (w := w') hx
  have nxt : ∀ (ρ' : Nat → Value) (mo' : Bool), ¬ hit l (k + 1) w' i → (mo' = true ↔ mor l (k + 1) w' (i + 1)) → ρ' 0 = .pointer (some ⟨r, 0, none⟩) → ρ' 6 = cv → ρ' 8 = .int .u32 (rv (k + 1) w' : Nat) → ρ' 9 = .int .i64 ((k + 1 : Nat) : Int) → ρ' 12 = .bool mo' → ρ' 13 = .int .i64 ((i : Int) + 1) → ∃ m', m' < m ∧ ∃ (ρ : Nat → Value) (i : Nat) (mo : Bool), E 87 ρ' [] = E 87 ρ [] ∧ m' = l.length - i ∧ i ≤ l.length ∧ (∀ i', i' < i → ¬ hit l (k + 1) w' i') ∧ (mo = true ↔ mor l (k + 1) w' i) ∧ ρ 0 = .pointer (some ⟨r, 0, none⟩) ∧ ρ 6 = cv ∧ ρ 8 = .int .u32 (rv (k + 1) w' : Nat) ∧ ρ 9 = .int .i64 ((k + 1 : Nat) : Int) ∧ ρ 12 = .bool mo ∧ ρ 13 = .int .i64 i :=
    fun ρ' mo' h1 h2 a0 a6 a8 a9 a12 a13 => ⟨m - 1, by omega, ρ', i + 1, mo', rfl, by omega, by omega, fun i' hi' => by
      by_cases h : i' = i
      · subst h; exact h1
      · exact hno i' (by omega), h2, a0, a6, a8, a9, a12, a13⟩
  by_cases hxk : x = k + 1
  · subst hxk
    rw [pieceAt_some hx (by omega)] at x6 x7
    by_cases hN : rv (k + 1) (wrd l i (k + 1)) = rv (k + 1) w'
    · have hlt := (hit_iff hk (k := k + 1) (w := w') (by omega) (by omega) hbit.1 hbit.2).1 ⟨i, hx, hN⟩
      have hio := hit_one hk (k := k + 1) (w := w') (by omega) (by omega) hbit.1 hbit.2 hx hN
      rw [if_pos hlt, ← hio] at hres
      have e4 : ((rv (k + 1) (wrd l i (k + 1)) : Nat) : Int) = ((rv (k + 1) w' : Nat) : Int) := by rw [hN]
      simp (maxSteps := 1000000) (disch := (first | omega | (simp only [nx_alloc, nx_upd, len_cons, len_nil, List.length_set, List.length_map, List.length_append] <;> omega) | fail)) only [go_sem, r0, r6, r8, r9, r12, r13, hlc, e2, x3, x4, x5, x6, x7, e4, Try.results20]
      exact hfin (x := ((i : Nat), 0, q + 1)) hres rdD
    · have e4 : ¬ ((rv (k + 1) (wrd l i (k + 1)) : Nat) : Int) = ((rv (k + 1) w' : Nat) : Int) := by omega
      have hm2 : mo = true ↔ mor l (k + 1) w' (i + 1) := by
        rw [hms, hmo]
        exact ⟨.inl, fun h => h.elim id fun h => absurd h.1 (by omega)⟩
      simp (maxSteps := 1000000) (disch := (first | omega | (simp only [nx_alloc, nx_upd, len_cons, len_nil, List.length_set, List.length_map, List.length_append] <;> omega) | fail)) only [go_sem, r0, r6, r8, r9, r12, r13, hlc, e2, x3, x4, x5, x6, x7, e4]
      refine aw_draw (by kernel_rfl) ?_
      cases mo
      · simp (maxSteps := 1000000) (disch := (first | omega | (simp only [nx_alloc, nx_upd, len_cons, len_nil, List.length_set, List.length_map, List.length_append] <;> omega) | fail)) only [go_sem, r0, r6, r8, r9, r12, r13, x3, x4, x5, x6, x7]
        refine nxt _ false (fun h => hN h.2) hm2 ?_ ?_ ?_ ?_ ?_ ?_
        · simp (maxSteps := 1000000) (disch := (first | omega | (simp only [nx_alloc, nx_upd, len_cons, len_nil, List.length_set, List.length_map, List.length_append] <;> omega) | fail)) only [go_sem, r0]
        · simp (maxSteps := 1000000) (disch := (first | omega | (simp only [nx_alloc, nx_upd, len_cons, len_nil, List.length_set, List.length_map, List.length_append] <;> omega) | fail)) only [go_sem, r6]
        · simp (maxSteps := 1000000) (disch := (first | omega | (simp only [nx_alloc, nx_upd, len_cons, len_nil, List.length_set, List.length_map, List.length_append] <;> omega) | fail)) only [go_sem, r8]
        · simp (maxSteps := 1000000) (disch := (first | omega | (simp only [nx_alloc, nx_upd, len_cons, len_nil, List.length_set, List.length_map, List.length_append] <;> omega) | fail)) only [go_sem, r9]
        · simp (maxSteps := 1000000) (disch := (first | omega | (simp only [nx_alloc, nx_upd, len_cons, len_nil, List.length_set, List.length_map, List.length_append] <;> omega) | fail)) only [go_sem]
        · simp (maxSteps := 1000000) (disch := (first | omega | (simp only [nx_alloc, nx_upd, len_cons, len_nil, List.length_set, List.length_map, List.length_append] <;> omega) | fail)) only [go_sem]
      · simp (maxSteps := 1000000) (disch := (first | omega | (simp only [nx_alloc, nx_upd, len_cons, len_nil, List.length_set, List.length_map, List.length_append] <;> omega) | fail)) only [go_sem, r0, r6, r8, r9, r12, r13, x3, x4, x5, x6, x7]
        refine nxt _ true (fun h => hN h.2) hm2 ?_ ?_ ?_ ?_ ?_ ?_
        · simp (maxSteps := 1000000) (disch := (first | omega | (simp only [nx_alloc, nx_upd, len_cons, len_nil, List.length_set, List.length_map, List.length_append] <;> omega) | fail)) only [go_sem, r0]
        · simp (maxSteps := 1000000) (disch := (first | omega | (simp only [nx_alloc, nx_upd, len_cons, len_nil, List.length_set, List.length_map, List.length_append] <;> omega) | fail)) only [go_sem, r6]
        · simp (maxSteps := 1000000) (disch := (first | omega | (simp only [nx_alloc, nx_upd, len_cons, len_nil, List.length_set, List.length_map, List.length_append] <;> omega) | fail)) only [go_sem, r8]
        · simp (maxSteps := 1000000) (disch := (first | omega | (simp only [nx_alloc, nx_upd, len_cons, len_nil, List.length_set, List.length_map, List.length_append] <;> omega) | fail)) only [go_sem, r9]
        · simp (maxSteps := 1000000) (disch := (first | omega | (simp only [nx_alloc, nx_upd, len_cons, len_nil, List.length_set, List.length_map, List.length_append] <;> omega) | fail)) only [go_sem]
        · simp (maxSteps := 1000000) (disch := (first | omega | (simp only [nx_alloc, nx_upd, len_cons, len_nil, List.length_set, List.length_map, List.length_append] <;> omega) | fail)) only [go_sem]
  have hnh : ¬ hit l (k + 1) w' i := fun h => by
    have := h.1
    rw [hx] at this
    injection this with this
    omega
  obtain ⟨n0, wd, hp0, hwd, hn0⟩ : ∃ (n0 wd : Nat), pieceAt l i = (((n0 : Nat) : Int), ((wd : Nat) : Int)) ∧ (wd = x) ∧ (0 < x → n0 = rv x (wrd l i x)) := by
    by_cases h : 0 < x
    · exact ⟨_, _, pieceAt_some hx h, rfl, fun _ => rfl⟩
    · obtain rfl : x = 0 := by omega
      exact ⟨0, 0, pieceAt_none hx, rfl, fun h => absurd h (by omega)⟩
  subst hwd
  rw [hp0] at x6 x7
  have e3 : ¬ ((wd : Int) = ((k + 1 : Nat) : Int)) := by omega
  cases mo with
  | true =>
    have hm2 : true = true ↔ mor l (k + 1) w' (i + 1) := by
      rw [hms]
      exact ⟨fun h => .inl (hmo.1 h), fun _ => rfl⟩
    simp (maxSteps := 1000000) (disch := (first | omega | (simp only [nx_alloc, nx_upd, len_cons, len_nil, List.length_set, List.length_map, List.length_append] <;> omega) | fail)) only [go_sem, r0, r6, r8, r9, r12, r13, hlc, e2, x3, x4, x5, x6, x7, e3]
    refine aw_draw (by kernel_rfl) ?_
    simp (maxSteps := 1000000) (disch := (first | omega | (simp only [nx_alloc, nx_upd, len_cons, len_nil, List.length_set, List.length_map, List.length_append] <;> omega) | fail)) only [go_sem, r0, r6, r8, r9, r12, r13, x3, x4, x5, x6, x7]
    refine nxt _ true hnh hm2 ?_ ?_ ?_ ?_ ?_ ?_
    · simp (maxSteps := 1000000) (disch := (first | omega | (simp only [nx_alloc, nx_upd, len_cons, len_nil, List.length_set, List.length_map, List.length_append] <;> omega) | fail)) only [go_sem, r0]
    · simp (maxSteps := 1000000) (disch := (first | omega | (simp only [nx_alloc, nx_upd, len_cons, len_nil, List.length_set, List.length_map, List.length_append] <;> omega) | fail)) only [go_sem, r6]
    · simp (maxSteps := 1000000) (disch := (first | omega | (simp only [nx_alloc, nx_upd, len_cons, len_nil, List.length_set, List.length_map, List.length_append] <;> omega) | fail)) only [go_sem, r8]
    · simp (maxSteps := 1000000) (disch := (first | omega | (simp only [nx_alloc, nx_upd, len_cons, len_nil, List.length_set, List.length_map, List.length_append] <;> omega) | fail)) only [go_sem, r9]
    · simp (maxSteps := 1000000) (disch := (first | omega | (simp only [nx_alloc, nx_upd, len_cons, len_nil, List.length_set, List.length_map, List.length_append] <;> omega) | fail)) only [go_sem]
    · simp (maxSteps := 1000000) (disch := (first | omega | (simp only [nx_alloc, nx_upd, len_cons, len_nil, List.length_set, List.length_map, List.length_append] <;> omega) | fail)) only [go_sem]
  | false =>
    by_cases hgt : k + 1 < wd
    · have e5 : ((wd : Int) > ((k + 1 : Nat) : Int)) := by omega
      have hn := hn0 (by omega)
      rw [hQ] at hQ0
      have hrem : ((n0 : Nat) : Int).tmod (Q : Int) = ((n0 % Q : Nat) : Int) := by rw [Int.tmod_eq_emod_of_nonneg (by omega), ← Int.natCast_emod]
      have hQ1 : ((Q : Nat) : Int) ≠ 0 := by omega
      have hm2 : (decide (((n0 % Q : Nat) : Int) = ((rv (k + 1) w' : Nat) : Int))) = true ↔ mor l (k + 1) w' (i + 1) := by
        rw [hms, decide_eq_true_eq, hn, hQ]
        constructor
        · intro h; exact .inr ⟨hgt, by omega⟩
        · rintro (h | h)
          · have := hmo.2 h; cases this
          · have := h.2; omega
      simp (maxSteps := 1000000) (disch := (first | omega | (simp only [nx_alloc, nx_upd, len_cons, len_nil, List.length_set, List.length_map, List.length_append] <;> omega) | fail)) only [go_sem, r0, r6, r8, r9, r12, r13, hlc, e2, x3, x4, x5, x6, x7, e3]
      refine aw_draw (by kernel_rfl) ?_
      simp (maxSteps := 1000000) (disch := (first | omega | (simp only [nx_alloc, nx_upd, len_cons, len_nil, List.length_set, List.length_map, List.length_append] <;> omega) | fail)) only [go_sem, r0, r6, r8, r9, r12, r13, x3, x4, x5, x6, x7, e5, hshq, hrem]
      refine nxt _ _ hnh hm2 ?_ ?_ ?_ ?_ ?_ ?_
      · simp (maxSteps := 1000000) (disch := (first | omega | (simp only [nx_alloc, nx_upd, len_cons, len_nil, List.length_set, List.length_map, List.length_append] <;> omega) | fail)) only [go_sem, r0]
      · simp (maxSteps := 1000000) (disch := (first | omega | (simp only [nx_alloc, nx_upd, len_cons, len_nil, List.length_set, List.length_map, List.length_append] <;> omega) | fail)) only [go_sem, r6]
      · simp (maxSteps := 1000000) (disch := (first | omega | (simp only [nx_alloc, nx_upd, len_cons, len_nil, List.length_set, List.length_map, List.length_append] <;> omega) | fail)) only [go_sem, r8]
      · simp (maxSteps := 1000000) (disch := (first | omega | (simp only [nx_alloc, nx_upd, len_cons, len_nil, List.length_set, List.length_map, List.length_append] <;> omega) | fail)) only [go_sem, r9]
      · simp (maxSteps := 1000000) (disch := (first | omega | (simp only [nx_alloc, nx_upd, len_cons, len_nil, List.length_set, List.length_map, List.length_append] <;> omega) | fail)) only [go_sem]
      · simp (maxSteps := 1000000) (disch := (first | omega | (simp only [nx_alloc, nx_upd, len_cons, len_nil, List.length_set, List.length_map, List.length_append] <;> omega) | fail)) only [go_sem]
    · have e5 : ¬ ((wd : Int) > ((k + 1 : Nat) : Int)) := by omega
      have hm2 : false = true ↔ mor l (k + 1) w' (i + 1) := by
        rw [hms, hmo]
        exact ⟨.inl, fun h => h.elim id fun h => absurd h.1 hgt⟩
      simp (maxSteps := 1000000) (disch := (first | omega | (simp only [nx_alloc, nx_upd, len_cons, len_nil, List.length_set, List.length_map, List.length_append] <;> omega) | fail)) only [go_sem, r0, r6, r8, r9, r12, r13, hlc, e2, x3, x4, x5, x6, x7, e3]
      refine aw_draw (by kernel_rfl) ?_
      simp (maxSteps := 1000000) (disch := (first | omega | (simp only [nx_alloc, nx_upd, len_cons, len_nil, List.length_set, List.length_map, List.length_append] <;> omega) | fail)) only [go_sem, r0, r6, r8, r9, r12, r13, x3, x4, x5, x6, x7, e5]
      refine nxt _ false hnh hm2 ?_ ?_ ?_ ?_ ?_ ?_
      · simp (maxSteps := 1000000) (disch := (first | omega | (simp only [nx_alloc, nx_upd, len_cons, len_nil, List.length_set, List.length_map, List.length_append] <;> omega) | fail)) only [go_sem, r0]
      · simp (maxSteps := 1000000) (disch := (first | omega | (simp only [nx_alloc, nx_upd, len_cons, len_nil, List.length_set, List.length_map, List.length_append] <;> omega) | fail)) only [go_sem, r6]
      · simp (maxSteps := 1000000) (disch := (first | omega | (simp only [nx_alloc, nx_upd, len_cons, len_nil, List.length_set, List.length_map, List.length_append] <;> omega) | fail)) only [go_sem, r8]
      · simp (maxSteps := 1000000) (disch := (first | omega | (simp only [nx_alloc, nx_upd, len_cons, len_nil, List.length_set, List.length_map, List.length_append] <;> omega) | fail)) only [go_sem, r9]
      · simp (maxSteps := 1000000) (disch := (first | omega | (simp only [nx_alloc, nx_upd, len_cons, len_nil, List.length_set, List.length_map, List.length_append] <;> omega) | fail)) only [go_sem]
      · simp (maxSteps := 1000000) (disch := (first | omega | (simp only [nx_alloc, nx_upd, len_cons, len_nil, List.length_set, List.length_map, List.length_append] <;> omega) | fail)) only [go_sem]
end Go.Fw
