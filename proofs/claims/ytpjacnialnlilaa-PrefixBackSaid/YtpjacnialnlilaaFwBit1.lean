import Derived.Test.YtpjacnialnlilaaFwFacts
set_option linter.unusedSimpArgs false
set_option linter.unusedVariables false
set_option maxRecDepth 4000
namespace Go.Fw
open Go.Proofs Go.RowKit
theorem Try.enters49 : Enters Try.prog 49 := enters_of Try.func49 rfl (by kernel_rfl)
/-- A piece, as a value. -/
def pcV (p : Int × Int) : Value := .agg #[.int .u32 p.1, .int .i64 p.2]
def mayB (p : Int × Int) : Bool := decide (0 ≤ p.2 ∧ p.2 ≤ 24 ∧ p.1 < 2 ^ p.2.toNat)
def PcOk (p : Int × Int) : Prop := 0 ≤ p.1 ∧ p.1 < 4294967296 ∧ -9223372036854775808 ≤ p.2 ∧ p.2 ≤ 9223372036854775807
set_option maxHeartbeats 1000000 in
theorem may_ok (w0 : World) (A : St) (p : Int × Int) (hp : PcOk p) : ACalls Try.prog w0 49 #[pcV p] A (fin (.bool (mayB p)) A) := by
  obtain ⟨n, wd⟩ := p
  unfold pcV
  refine call_E Try.enters49 Try.func49 rfl (Nat.le_of_ble_eq_true rfl) fun hw hbd => ?_
  simp (maxSteps := 1000000) (disch := (first | omega | (simp only [nx_alloc, nx_upd, len_cons, len_nil, List.length_set, List.length_map, List.length_append] <;> omega) | fail)) only [go_sem, Try.ntmps49, Try.results49]
  by_cases h1 : 0 ≤ wd
  · by_cases h2 : wd ≤ 24
    · simp (maxSteps := 1000000) (disch := (first | omega | (simp only [nx_alloc, nx_upd, len_cons, len_nil, List.length_set, List.length_map, List.length_append] <;> omega) | fail)) only [go_sem, Try.results49]
      obtain ⟨hn0, hn1, _, _⟩ := hp
      obtain ⟨k, rfl⟩ := Int.eq_ofNat_of_zero_le h1
      obtain ⟨m, rfl⟩ := Int.eq_ofNat_of_zero_le hn0
      have hd : (0 : Nat) < 2 ^ k := Nat.two_pow_pos k
      have he : ishr .u32 (m : Int) (k : Int) = ((m / 2 ^ k : Nat) : Int) := by
        rw [ishr_eq .u32 _ k (by simp only [IntKind.bits]; omega), Int.natCast_ediv, Int.natCast_pow]; rfl
      refine gc_fin' hw ((Over.refl _).alloc _) (congrArg Value.bool ?_) (by simp only [bnd_bool])
      unfold mayB
      rw [decide_eq_decide, he]
      simp only [Int.toNat_natCast]
      have hc : ((m : Int) < 2 ^ k) ↔ m < 2 ^ k := by rw [show ((2 : Int) ^ k) = ((2 ^ k : Nat) : Int) by rw [Int.natCast_pow]; rfl]; exact Int.ofNat_lt
      have hz : (((m / 2 ^ k : Nat) : Int) = 0) ↔ m < 2 ^ k := by
        rw [← Nat.div_eq_zero_iff_lt hd]; omega
      rw [hc, hz]
      constructor
      · rintro ⟨⟨_, a⟩, b⟩; exact ⟨h1, a, b⟩
      · rintro ⟨_, a, b⟩; exact ⟨⟨h1, a⟩, b⟩
    · simp (maxSteps := 1000000) (disch := (first | omega | (simp only [nx_alloc, nx_upd, len_cons, len_nil, List.length_set, List.length_map, List.length_append] <;> omega) | fail)) only [go_sem, Try.results49]
      exact gc_fin' hw ((Over.refl _).alloc _) (by unfold mayB; rw [decide_eq_false (by intro h; exact h2 h.2.1)]) (by simp only [bnd_bool])
  · simp (maxSteps := 1000000) (disch := (first | omega | (simp only [nx_alloc, nx_upd, len_cons, len_nil, List.length_set, List.length_map, List.length_append] <;> omega) | fail)) only [go_sem, Try.results49]
    exact gc_fin' hw ((Over.refl _).alloc _) (by unfold mayB; rw [decide_eq_false (by intro h; exact h1 h.1)]) (by simp only [bnd_bool])
theorem Try.enters38 : Enters Try.prog 38 := enters_of Try.func38 rfl (by kernel_rfl)
theorem Try.enters48 : Enters Try.prog 48 := enters_of Try.func48 rfl (by kernel_rfl)
/-- Pieces, in cells. -/
def flatP : List (Int × Int) → List Value
  | [] => []
  | p :: l => .int .u32 p.1 :: .int .i64 p.2 :: flatP l
theorem flatP_at : ∀ (l : List (Int × Int)) (i : Nat) (p : Int × Int), l[i]? = some p → ((flatP l).drop (2 * i)).take 2 = [.int .u32 p.1, .int .i64 p.2]
  | [], i, p, h => by simp at h
  | q :: l, 0, p, h => by simp at h; subst h; rfl
  | q :: l, i + 1, p, h => by
    rw [show 2 * (i + 1) = 2 * i + 2 by omega]
    simp only [flatP, List.drop_succ_cons]
    exact flatP_at l i p (by simpa using h)
/-- A slice of pieces. -/
abbrev PcsAt (A : St) (v : Value) (l : List (Int × Int)) : Prop := View A 2 (flatP l) l.length v
theorem pcs_at {A : St} {v : Value} {l : List (Int × Int)} {P : Program} {e i : Nat} {p : Int × Int} (h : View A 2 (flatP l) l.length v) (hsz : tsz P e = some 2) (hp : l[i]? = some p) : ∃ b off, b < A.next ∧ rowB v = some b ∧ (∀ k : IntKind, indexAddrU P (some (.slice e)) v (.int k i) = some (.pointer (some ⟨b, off, none⟩))) ∧
    ∃ cells e' m, A.get b = some (.cells cells e' m) ∧ off + 2 ≤ cells.length ∧ (cells.drop off).take 2 = [.int .u32 p.1, .int .i64 p.2] ∧ cells[off]? = some (.int .u32 p.1) ∧ cells[off + 1]? = some (.int .i64 p.2) := by
  obtain ⟨b, off, h1, h2, h3, cells, e', m, h4, h5, h6⟩ := h.at (e := e) hsz (List.getElem?_eq_some_iff.1 hp).1
  rw [Nat.mul_comm, flatP_at l i p hp] at h6
  have h7 := congrArg (·[0]?) h6
  have h8 := congrArg (·[1]?) h6
  simp only [List.getElem?_take, List.getElem?_drop, Nat.add_zero] at h7 h8
  exact ⟨b, off, h1, h2, h3, cells, e', m, h4, h5, h6, h7, h8⟩
theorem View.cells1 {A : St} {sz len : Nat} {cs : List Value} {v : Value} (h : View A sz cs len v) : v.cells.toList = [v] := by
  rcases h.2 with ⟨_, ad, c, rfl⟩ | ⟨b, off, sp, c, cs, e, m, rfl, _⟩ <;> rfl
set_option maxHeartbeats 400000 in
theorem right_ok (w0 : World) (A : St) (v : Value) :
    ACalls Try.prog w0 38 #[v] A (fin (.func (.func 48) #[] #[.pointer (some ⟨A.next, 0, none⟩)]) (A.alloc (.cells v.cells.toList 32 (some 0)))) := by
  refine call_E Try.enters38 Try.func38 rfl (Nat.le_of_ble_eq_true rfl) fun hw hbd => ?_
  simp (maxSteps := 1000000) (disch := (first | omega | (simp only [nx_alloc, nx_upd, len_cons, len_nil, List.length_set, List.length_map, List.length_append] <;> omega) | fail)) only [go_sem, Try.ntmps38, Try.results38]
  exact gc_here ⟨rfl, rfl⟩
set_option maxHeartbeats 1000000 in
/-- The loop over right pieces, for any 'yield' that goes on. -/
theorem right1_ok (w0 : World) (l : List (Int × Int)) (hl : ∀ p ∈ l, PcOk p) (hlen : l.length ≤ 140737488355328) (v : Value) (J : Nat → St → Prop) (L c : Nat)
    (hJ : ∀ i A, J i A → PcsAt A v l ∧ ∃ m, A.get c = some (.cells [v] 32 m))
    (hG : ∀ i A A', J i A → Over A A' → J i A')
    (hY : ∀ i A p, l[i]? = some p → mayB p = true → J i A → AYield Try.prog w0 L #[pcV p] A fun e A' => e = .returned (.bool true) ∧ J (i + 1) A')
    (hS : ∀ i A p, l[i]? = some p → mayB p = false → J i A → J (i + 1) A)
    (A : St) (h : J 0 A) : ACalls Try.prog w0 48 #[.func (.yield L) #[] #[], .pointer (some ⟨c, 0, none⟩)] A fun e A' => e = .returned (.tuple #[]) ∧ J l.length A' := by
  obtain ⟨hv, m0, hc⟩ := hJ 0 A h
  refine call_E Try.enters48 Try.func48 rfl (Nat.le_of_ble_eq_true rfl) fun hw hbd => ?_
  simp (maxSteps := 1000000) (disch := (first | omega | (simp only [nx_alloc, nx_upd, len_cons, len_nil, List.length_set, List.length_map, List.length_append] <;> omega) | fail)) only [go_sem, Try.ntmps48, Try.results48, hc, hv.lenU]
  refine aw_loop (fun k a A' => ∃ (ρ : Nat → Value) (i : Nat), a = E 20 ρ [] ∧ k = l.length - i ∧ i ≤ l.length ∧ J i A' ∧ ρ 0 = .func (.yield L) #[] #[] ∧ ρ 5 = v ∧ ρ 6 = .int .i64 l.length ∧ ρ 7 = .int .i64 i) l.length
    ⟨_, 0, rfl, rfl, by omega, h, rfl, rfl, rfl, rfl⟩ ?_
  rintro k a A' ⟨ρ, i, rfl, rfl, hi, hj, h0, h5, h6, h7⟩
  refine aw_of ?_
  simp (maxSteps := 1000000) (disch := (first | omega | (simp only [nx_alloc, nx_upd, len_cons, len_nil, List.length_set, List.length_map, List.length_append] <;> omega) | fail)) only [go_sem, h6, h7]
  refine ifB_dec (fun hlt => ?_) (fun hlt => ?_)
  rotate_left
  · have : i = l.length := by omega
    subst this
    simp (maxSteps := 1000000) (disch := (first | omega | (simp only [nx_alloc, nx_upd, len_cons, len_nil, List.length_set, List.length_map, List.length_append] <;> omega) | fail)) only [go_sem, Try.results48]
    exact gc_here ⟨rfl, hj⟩
  obtain ⟨p, hp⟩ : ∃ p, l[i]? = some p := ⟨l[i]'(by omega), List.getElem?_eq_getElem _⟩
  obtain ⟨b, off, hb, hb2, hix, cells, e', m', hcs, hln, hpc, _⟩ := pcs_at (P := Try.prog) (e := 42) (hJ i A' hj).1 Try.sz42 hp
  have hpo := hl p (List.mem_of_getElem? hp)
  simp (maxSteps := 1000000) (disch := (first | omega | (simp only [nx_alloc, nx_upd, len_cons, len_nil, List.length_set, List.length_map, List.length_append] <;> omega) | fail)) only [go_sem, h5, h7, hix, hcs, hpc]
  refine call1 (may_ok w0 _ p hpo) ?_
  obtain ⟨A2, hA2⟩ : ∃ A2, A2 = (A'.alloc (.cells [.int .u32 0, .int .i64 0] 42 (some 0))).upd A'.next (some (.cells [.int .u32 p.1, .int .i64 p.2] 42 (some 0))) := ⟨_, rfl⟩
  have ho2 : Over A' A2 := by rw [hA2]; exact ((Over.refl A').alloc _).upd (Nat.le_refl _) _
  have hg2 : A2.get A'.next = some (.cells [.int .u32 p.1, .int .i64 p.2] 42 (some 0)) := by rw [hA2]; exact get_upd_same ..
  have hj2 : J i A2 := hG i A' A2 hj ho2
  rw [← hA2]
  have step : ∀ (ρ' : Nat → Value) (A3 : St), J (i + 1) A3 → ρ' 0 = .func (.yield L) #[] #[] → ρ' 5 = v → ρ' 6 = .int .i64 l.length → ρ' 7 = .int .i64 ((i : Int) + 1) →
      ∃ m', m' < l.length - i ∧ ∃ (ρ : Nat → Value) (i : Nat), E 20 ρ' [] = E 20 ρ [] ∧ m' = l.length - i ∧ i ≤ l.length ∧ J i A3 ∧ ρ 0 = .func (.yield L) #[] #[] ∧ ρ 5 = v ∧ ρ 6 = .int .i64 l.length ∧ ρ 7 = .int .i64 i :=
    fun ρ' A3 hj3 q0 q5 q6 q7 => ⟨l.length - (i + 1), by omega, ρ', i + 1, rfl, rfl, by omega, hj3, q0, q5, q6, q7⟩
  by_cases hmay : mayB p = true
  · simp (maxSteps := 1000000) (disch := (first | omega | (simp only [nx_alloc, nx_upd, len_cons, len_nil, List.length_set, List.length_map, List.length_append] <;> omega) | fail)) only [go_sem, hmay, h0, hg2]
    refine (hY i A2 p hp hmay hj2).mono ?_
    rintro e A3 ⟨rfl, hj3⟩
    simp (maxSteps := 1000000) (disch := (first | omega | (simp only [nx_alloc, nx_upd, len_cons, len_nil, List.length_set, List.length_map, List.length_append] <;> omega) | fail)) only [go_sem, h7]
    refine step _ A3 hj3 ?_ ?_ ?_ ?_
    · simp (maxSteps := 1000000) (disch := (first | omega | (simp only [nx_alloc, nx_upd, len_cons, len_nil, List.length_set, List.length_map, List.length_append] <;> omega) | fail)) only [go_sem, h0]
    · simp (maxSteps := 1000000) (disch := (first | omega | (simp only [nx_alloc, nx_upd, len_cons, len_nil, List.length_set, List.length_map, List.length_append] <;> omega) | fail)) only [go_sem, h5]
    · simp (maxSteps := 1000000) (disch := (first | omega | (simp only [nx_alloc, nx_upd, len_cons, len_nil, List.length_set, List.length_map, List.length_append] <;> omega) | fail)) only [go_sem, h6]
    · simp (maxSteps := 1000000) (disch := (first | omega | (simp only [nx_alloc, nx_upd, len_cons, len_nil, List.length_set, List.length_map, List.length_append] <;> omega) | fail)) only [go_sem]
  · have hmay' : mayB p = false := by simpa using hmay
    simp (maxSteps := 1000000) (disch := (first | omega | (simp only [nx_alloc, nx_upd, len_cons, len_nil, List.length_set, List.length_map, List.length_append] <;> omega) | fail)) only [go_sem, hmay', h7]
    refine step _ A2 (hS i A2 p hp hmay' hj2) ?_ ?_ ?_ ?_
    · simp (maxSteps := 1000000) (disch := (first | omega | (simp only [nx_alloc, nx_upd, len_cons, len_nil, List.length_set, List.length_map, List.length_append] <;> omega) | fail)) only [go_sem, h0]
    · simp (maxSteps := 1000000) (disch := (first | omega | (simp only [nx_alloc, nx_upd, len_cons, len_nil, List.length_set, List.length_map, List.length_append] <;> omega) | fail)) only [go_sem, h5]
    · simp (maxSteps := 1000000) (disch := (first | omega | (simp only [nx_alloc, nx_upd, len_cons, len_nil, List.length_set, List.length_map, List.length_append] <;> omega) | fail)) only [go_sem, h6]
    · simp (maxSteps := 1000000) (disch := (first | omega | (simp only [nx_alloc, nx_upd, len_cons, len_nil, List.length_set, List.length_map, List.length_append] <;> omega) | fail)) only [go_sem]
theorem Try.enters37 : Enters Try.prog 37 := enters_of Try.func37 rfl (by kernel_rfl)
/-- What flush does to the bytes, to what is held, and to how many bits are held. -/
def flushS (least : Nat) (acc : List Int) (hold held : Nat) : List Int × Nat × Nat :=
  if held ≥ least ∧ held > 0 then flushS least (acc ++ [((hold % 256 : Nat) : Int)]) (hold / 256) (held - 8) else (acc, hold, held)
termination_by held
decreasing_by omega
theorem flushS_go {least : Nat} {acc : List Int} {hold held : Nat} (h : held ≥ least ∧ held > 0) : flushS least acc hold held = flushS least (acc ++ [((hold % 256 : Nat) : Int)]) (hold / 256) (held - 8) := by rw [flushS, if_pos h]
theorem flushS_stop {least : Nat} {acc : List Int} {hold held : Nat} (h : ¬ (held ≥ least ∧ held > 0)) : flushS least acc hold held = (acc, hold, held) := by rw [flushS, if_neg h]
/-- What flush holds: the bytes' variable, the held bits, and their number. -/
structure FlS (A : St) (hd bb ho lo : Nat) (s : List Int × Nat × Nat) : Prop where
  held : A.get hd = some (.cells [.int .i64 s.2.2] 3 (some 0))
  hold : A.get ho = some (.cells [.int .u64 s.2.1] 74 (some 0))
  row : ∃ v, A.get bb = some (.cells [v] 55 (some 0)) ∧ Row A 5 1 lo (s.1.map (.int .u8 ·)) s.1.length v
  next : lo ≤ A.next
/-- What else lies below stays. -/
structure Keeps (A A' : St) (hd bb ho lo : Nat) : Prop where
  next : A.next ≤ A'.next
  get : ∀ b, b < lo → b ≠ hd → b ≠ bb → b ≠ ho → A'.get b = A.get b
theorem Keeps.trans {A B C : St} {hd bb ho lo : Nat} (h : Keeps A B hd bb ho lo) (k : Keeps B C hd bb ho lo) : Keeps A C hd bb ho lo := ⟨Nat.le_trans h.next k.next, fun b h1 h2 h3 h4 => (k.get b h1 h2 h3 h4).trans (h.get b h1 h2 h3 h4)⟩
set_option maxHeartbeats 1000000 in
theorem flush_ok (w0 : World) (hd bb ho lo least : Nat) (hh : hd < lo ∧ bb < lo ∧ ho < lo ∧ hd ≠ bb ∧ hd ≠ ho ∧ bb ≠ ho) (hl : 0 < least ∧ least ≤ 8) (A : St) (acc0 : List Int) (hold0 held0 : Nat) (h : FlS A hd bb ho lo (acc0, hold0, held0)) (hho : hold0 < 18446744073709551616) (hB : acc0.length + held0 ≤ 1099511627776) :
    ACalls Try.prog w0 37 #[.int .i64 least, .pointer (some ⟨hd, 0, none⟩), .pointer (some ⟨bb, 0, none⟩), .pointer (some ⟨ho, 0, none⟩)] A fun e A' => e = .returned (.tuple #[]) ∧ FlS A' hd bb ho lo (flushS least acc0 hold0 held0) ∧ Keeps A A' hd bb ho lo := by
  refine call_E Try.enters37 Try.func37 rfl (Nat.le_of_ble_eq_true rfl) fun hw hbd => ?_
  simp (maxSteps := 1000000) (disch := (first | omega | (simp only [nx_alloc, nx_upd, len_cons, len_nil, List.length_set, List.length_map, List.length_append] <;> omega) | fail)) only [go_sem, Try.ntmps37, Try.results37]
  refine aw_loop (fun k a A' => ∃ (ρ : Nat → Value) (acc : List Int) (hold : Nat), a = E 22 ρ [] ∧ FlS A' hd bb ho lo (acc, hold, k) ∧ Keeps A A' hd bb ho lo ∧ flushS least acc0 hold0 held0 = flushS least acc hold k ∧ hold < 18446744073709551616 ∧ acc.length + k ≤ 1099511627776 ∧
      ρ 0 = .int .i64 least ∧ ρ 1 = .pointer (some ⟨hd, 0, none⟩) ∧ ρ 2 = .pointer (some ⟨bb, 0, none⟩) ∧ ρ 3 = .pointer (some ⟨ho, 0, none⟩)) held0
    ⟨_, acc0, hold0, rfl, h, ⟨Nat.le_refl _, fun _ _ _ _ _ => rfl⟩, rfl, hho, hB, rfl, rfl, rfl, rfl⟩ ?_
  rintro held a A' ⟨ρ, acc, hold, rfl, ⟨f1, f2, ⟨v, f3, f5⟩, f4⟩, hk, hfl, hho, hB, g0, g1, g2, g3⟩
  simp only at f1 f2 f3 f5
  refine aw_of ?_
  by_cases hgo : held ≥ least ∧ held > 0
  rotate_left
  · have hlt : ¬ least ≤ held := by omega
    simp (maxSteps := 1000000) (disch := (first | omega | (simp only [nx_alloc, nx_upd, len_cons, len_nil, List.length_set, List.length_map, List.length_append] <;> omega) | fail)) only [go_sem, g0, g1, f1, Try.results37]
    exact gc_here ⟨rfl, by rw [hfl, flushS_stop hgo]; exact ⟨f1, f2, ⟨v, f3, f5⟩, f4⟩, hk⟩
  rw [flushS_go hgo] at hfl
  have hu8 : IntKind.wrap .u8 (hold : Int) = ((hold % 256 : Nat) : Int) := by simp only [IntKind.wrap, IntKind.signed, IntKind.bits, Bool.false_and, Bool.false_eq_true, if_false]; omega
  have hsh : ishr .u64 (hold : Int) 8 = ((hold / 256 : Nat) : Int) := by
    rw [show (8 : Int) = ((8 : Nat) : Int) from rfl, ishr_eq .u64 _ 8 (by decide), Int.natCast_ediv]; rfl
  have hmx : (if (held : Int) - 8 < 0 then (0 : Int) else (held : Int) - 8) = ((held - 8 : Nat) : Int) := by split <;> omega
  obtain ⟨hh1, hh2, hh3, hh4, hh5, hh6⟩ := hh
  simp (maxSteps := 1000000) (disch := (first | omega | (simp only [nx_alloc, nx_upd, len_cons, len_nil, List.length_set, List.length_map, List.length_append] <;> omega) | fail)) only [go_sem, g0, g1, g2, g3, f1, f2, f3, hu8]
  obtain ⟨v', A2, hap, hr2, hn2, _, hf2⟩ := row_push (sp := none) (c := 1) (xs := [.int .u8 ((hold % 256 : Nat) : Int)]) Try.el55 Try.underlying55 (by intro k; exact TypeDesc.noConfusion) Try.sz5 Try.byt5 Try.zero5 rfl f5 f4 (by omega) (by omega) rfl rfl
  have hf3 : ∀ b, b < lo → A2.get b = A'.get b := fun b hb => hf2 b (by omega) (fun hrb => by
    rcases f5.2 with ⟨_, rfl⟩ | ⟨c, sp, rfl, _, hc, _⟩
    · cases hrb
    · cases hrb; omega)
  have hb2 := (hf3 bb hh2).trans f3
  have hb1 := (hf3 hd hh1).trans f1
  have hb3 := (hf3 ho hh3).trans f2
  rw [hap]
  simp (maxSteps := 1000000) (disch := (first | omega | (simp only [nx_alloc, nx_upd, len_cons, len_nil, List.length_set, List.length_map, List.length_append] <;> omega) | fail)) only [go_sem, g2, hb2]
  rw [storeC_val (by rcases hr2.2 with ⟨_, rfl⟩ | ⟨_, _, rfl, _⟩ <;> rfl)]
  simp (maxSteps := 1000000) (disch := (first | omega | (simp only [nx_alloc, nx_upd, len_cons, len_nil, List.length_set, List.length_map, List.length_append] <;> omega) | fail)) only [go_sem, g1, g3, hb3, hb1, hsh, hmx]
  refine ⟨held - 8, by omega, _, acc ++ [((hold % 256 : Nat) : Int)], hold / 256, rfl, ⟨?_, ?_, ⟨v', ?_, ?_⟩, by simp (disch := (first | omega | (simp only [nx_alloc, nx_upd, len_cons, len_nil, List.length_set, List.length_map, List.length_append] <;> omega) | fail)) only [St.get_upd, St.get_alloc, St.next_alloc, St.next_upd, ↓reduceIte, natF_lt, natF_gt, natF_ne, Nat.add_assoc, Nat.reduceAdd, Nat.reduceEqDiff, Nat.add_left_cancel_iff]; omega⟩, hk.trans ⟨by simp (disch := (first | omega | (simp only [nx_alloc, nx_upd, len_cons, len_nil, List.length_set, List.length_map, List.length_append] <;> omega) | fail)) only [St.get_upd, St.get_alloc, St.next_alloc, St.next_upd, ↓reduceIte, natF_lt, natF_gt, natF_ne, Nat.add_assoc, Nat.reduceAdd, Nat.reduceEqDiff, Nat.add_left_cancel_iff]; omega, fun b q1 q2 q3 q4 => ?_⟩, hfl, by omega, ?_, ?_, ?_, ?_, ?_⟩
  · simp (disch := (first | omega | (simp only [nx_alloc, nx_upd, len_cons, len_nil, List.length_set, List.length_map, List.length_append] <;> omega) | fail)) only [St.get_upd, St.get_alloc, St.next_alloc, St.next_upd, ↓reduceIte, natF_lt, natF_gt, natF_ne, Nat.add_assoc, Nat.reduceAdd, Nat.reduceEqDiff, Nat.add_left_cancel_iff]
  · simp (disch := (first | omega | (simp only [nx_alloc, nx_upd, len_cons, len_nil, List.length_set, List.length_map, List.length_append] <;> omega) | fail)) only [St.get_upd, St.get_alloc, St.next_alloc, St.next_upd, ↓reduceIte, natF_lt, natF_gt, natF_ne, Nat.add_assoc, Nat.reduceAdd, Nat.reduceEqDiff, Nat.add_left_cancel_iff]
  · simp (disch := (first | omega | (simp only [nx_alloc, nx_upd, len_cons, len_nil, List.length_set, List.length_map, List.length_append] <;> omega) | fail)) only [St.get_upd, St.get_alloc, St.next_alloc, St.next_upd, ↓reduceIte, natF_lt, natF_gt, natF_ne, Nat.add_assoc, Nat.reduceAdd, Nat.reduceEqDiff, Nat.add_left_cancel_iff]
  · refine Row.keep (A := A2) (lo := lo) ?_ (by simp (disch := (first | omega | (simp only [nx_alloc, nx_upd, len_cons, len_nil, List.length_set, List.length_map, List.length_append] <;> omega) | fail)) only [St.get_upd, St.get_alloc, St.next_alloc, St.next_upd, ↓reduceIte, natF_lt, natF_gt, natF_ne, Nat.add_assoc, Nat.reduceAdd, Nat.reduceEqDiff, Nat.add_left_cancel_iff]; omega) (fun b hb q1 q2 => ?_) (Nat.le_refl _)
    · rw [List.map_append, List.length_append]; exact hr2
    · simp (disch := (first | omega | (simp only [nx_alloc, nx_upd, len_cons, len_nil, List.length_set, List.length_map, List.length_append] <;> omega) | fail)) only [St.get_upd, St.get_alloc, St.next_alloc, St.next_upd, ↓reduceIte, natF_lt, natF_gt, natF_ne, Nat.add_assoc, Nat.reduceAdd, Nat.reduceEqDiff, Nat.add_left_cancel_iff]
  · simp (disch := (first | omega | (simp only [nx_alloc, nx_upd, len_cons, len_nil, List.length_set, List.length_map, List.length_append] <;> omega) | fail)) only [St.get_upd, St.get_alloc, St.next_alloc, St.next_upd, ↓reduceIte, natF_lt, natF_gt, natF_ne, Nat.add_assoc, Nat.reduceAdd, Nat.reduceEqDiff, Nat.add_left_cancel_iff]
    exact hf3 b q1
  · simp; omega
  · simp (maxSteps := 1000000) (disch := (first | omega | (simp only [nx_alloc, nx_upd, len_cons, len_nil, List.length_set, List.length_map, List.length_append] <;> omega) | fail)) only [go_sem, g0]
  · simp (maxSteps := 1000000) (disch := (first | omega | (simp only [nx_alloc, nx_upd, len_cons, len_nil, List.length_set, List.length_map, List.length_append] <;> omega) | fail)) only [go_sem, g1]
  · simp (maxSteps := 1000000) (disch := (first | omega | (simp only [nx_alloc, nx_upd, len_cons, len_nil, List.length_set, List.length_map, List.length_append] <;> omega) | fail)) only [go_sem, g2]
  · simp (maxSteps := 1000000) (disch := (first | omega | (simp only [nx_alloc, nx_upd, len_cons, len_nil, List.length_set, List.length_map, List.length_append] <;> omega) | fail)) only [go_sem, g3]
/-- A number's bytes, the lowest first. -/
def le (k V : Nat) : List Int := (List.range k).map fun i => ((V / 256 ^ i % 256 : Nat) : Int)
theorem le_length (k V : Nat) : (le k V).length = k := by simp [le]
theorem le_succ (k V : Nat) : le (k + 1) V = le k V ++ [((V / 256 ^ k % 256 : Nat) : Int)] := by simp [le, List.range_succ]
theorem pow256 (k : Nat) : (256 : Nat) ^ k = 2 ^ (8 * k) := by rw [Nat.pow_mul]
theorem div_add_pow (V n W i : Nat) (h : 8 * i ≤ W) : (V + n * 2 ^ W) / 256 ^ i = V / 256 ^ i + n * 2 ^ (W - 8 * i) := by
  obtain ⟨d, rfl⟩ := Nat.exists_eq_add_of_le h
  have hp : 0 < 2 ^ (8 * i) := Nat.two_pow_pos _
  rw [pow256, Nat.pow_add, Nat.add_sub_cancel_left, show n * (2 ^ (8 * i) * 2 ^ d) = (n * 2 ^ d) * 2 ^ (8 * i) by rw [Nat.mul_assoc, Nat.mul_comm (2 ^ d)], Nat.add_mul_div_right _ _ hp]
theorem le_add (k V n W : Nat) (h : 8 * k ≤ W) : le k (V + n * 2 ^ W) = le k V := by
  unfold le
  apply List.map_congr_left
  intro i hi
  have hi' : i < k := by simpa using hi
  rw [div_add_pow V n W i (by omega), show W - 8 * i = 8 + (W - 8 * i - 8) by omega, Nat.pow_add, show n * (2 ^ 8 * 2 ^ (W - 8 * i - 8)) = 256 * (n * 2 ^ (W - 8 * i - 8)) by rw [show (2 : Nat) ^ 8 = 256 from rfl, ← Nat.mul_assoc, Nat.mul_comm n 256, Nat.mul_assoc], Nat.add_mul_mod_self_left]
structure Inv (acc : List Int) (hold held V W : Nat) : Prop where
  row : acc = le acc.length V
  rest : hold = V / 256 ^ acc.length
  many : 8 * acc.length + held = W
theorem Inv.step {acc : List Int} {hold held V W : Nat} (h : Inv acc hold held V W) (h8 : 8 ≤ held) : Inv (acc ++ [((hold % 256 : Nat) : Int)]) (hold / 256) (held - 8) V W := by
  have h1 := h.row; have h2 := h.rest; have h3 := h.many
  refine ⟨?_, ?_, ?_⟩
  · rw [List.length_append, List.length_singleton, le_succ, ← h1, ← h2]
  · rw [List.length_append, List.length_singleton, Nat.pow_succ, ← Nat.div_div_eq_div_mul, ← h2]
  · rw [List.length_append, List.length_singleton]; omega
theorem flushS_8 : ∀ (held : Nat) (acc : List Int) (hold V W : Nat), Inv acc hold held V W → Inv (flushS 8 acc hold held).1 (flushS 8 acc hold held).2.1 (flushS 8 acc hold held).2.2 V W ∧ (flushS 8 acc hold held).2.2 < 8 := by
  intro held
  induction held using Nat.strongRecOn with
  | ind held ih =>
    intro acc hold V W h
    by_cases hg : held ≥ 8 ∧ held > 0
    · rw [flushS_go hg]
      exact ih (held - 8) (by omega) _ _ _ _ (h.step hg.1)
    · rw [flushS_stop hg]
      exact ⟨h, by show held < 8; omega⟩
theorem flushS_1 {acc : List Int} {hold held V W : Nat} (h : Inv acc hold held V W) (h8 : held < 8) : (flushS 1 acc hold held).1 = le ((W + 7) / 8) V := by
  have h1 := h.row; have h2 := h.rest; have h3 := h.many
  by_cases hg : held ≥ 1 ∧ held > 0
  · rw [flushS_go hg, flushS_stop (by omega)]
    show acc ++ _ = _
    rw [show (W + 7) / 8 = acc.length + 1 by omega, le_succ, ← h1, ← h2]
  · rw [flushS_stop hg]
    show acc = _
    rw [show (W + 7) / 8 = acc.length by omega, ← h1]
/-- What right pieces are packed to: a number, and how many bits it has. -/
def stP (s : Nat × Nat) (p : Int × Int) : Nat × Nat := if mayB p then (s.1 + p.1.toNat * 2 ^ s.2, s.2 + p.2.toNat) else s
def packW (l : List (Int × Int)) : Nat × Nat := l.foldl stP (0, 0)
theorem packW_snoc (l : List (Int × Int)) (i : Nat) (p : Int × Int) (h : l[i]? = some p) : packW (l.take (i + 1)) = stP (packW (l.take i)) p := by
  unfold packW
  rw [List.take_add_one, h, List.foldl_append]; rfl
theorem stP_le (s : Nat × Nat) (p : Int × Int) : (stP s p).2 ≤ s.2 + 24 := by
  unfold stP mayB
  split
  · rename_i h; simp at h; simp; omega
  · omega
theorem packW_le (l : List (Int × Int)) : ∀ i, (packW (l.take i)).2 ≤ 24 * i
  | 0 => by simp [packW]
  | i + 1 => by
    rcases h : l[i]? with _ | p
    · have := packW_le l i
      rw [List.getElem?_eq_none_iff] at h
      rw [List.take_of_length_le (by omega)] at this ⊢
      omega
    · rw [packW_snoc l i p h]
      have := packW_le l i
      have := stP_le (packW (l.take i)) p
      omega
theorem mayB_iff {p : Int × Int} (h : mayB p = true) : 0 ≤ p.2 ∧ p.2 ≤ 24 ∧ p.1 < 2 ^ p.2.toNat := by simpa [mayB] using h
def packOk (l : List (Int × Int)) : Bool := l.all mayB
def packR (l : List (Int × Int)) : Value := if packOk l then .tuple #[.string (strOfNums (le (((packW l).2 + 7) / 8) (packW l).1)), .int .i64 0] else .tuple #[.string .empty, .int .i64 1]
theorem FlS.over {A A' : St} {hd bb ho lo : Nat} {s : List Int × Nat × Nat} (h : FlS A hd bb ho lo s) (hh : hd < lo ∧ bb < lo ∧ ho < lo) (o : Over A A') : FlS A' hd bb ho lo s := by
  obtain ⟨h1, h2, ⟨v, h3, h4⟩, h5⟩ := h
  exact ⟨by rw [o.get _ (by omega)]; exact h1, by rw [o.get _ (by omega)]; exact h2, ⟨v, by rw [o.get _ (by omega)]; exact h3, h4.over o⟩, by have := o.next; omega⟩
theorem count_snoc (l : List (Int × Int)) (i : Nat) (p : Int × Int) (h : l[i]? = some p) : (l.take (i + 1)).countP mayB = (l.take i).countP mayB + if mayB p then 1 else 0 := by
  rw [List.take_add_one, h, List.countP_append]
  simp [List.countP_cons]
theorem Try.enters23 : Enters Try.prog 23 := enters_of Try.func23 rfl (by kernel_rfl)
theorem packW_lt (l : List (Int × Int)) (hl : ∀ p ∈ l, PcOk p) : ∀ i, (packW (l.take i)).1 < 2 ^ (packW (l.take i)).2
  | 0 => by simp [packW]
  | i + 1 => by
    have ih := packW_lt l hl i
    rcases h : l[i]? with _ | p
    · rw [List.getElem?_eq_none_iff] at h
      rw [List.take_of_length_le (by omega)] at ih ⊢
      exact ih
    · rw [packW_snoc l i p h]
      unfold stP
      split
      · rename_i hm
        obtain ⟨h1, h2, h3⟩ := mayB_iff hm
        have h0 := (hl p (List.mem_of_getElem? h)).1
        have h4 : p.1.toNat < 2 ^ p.2.toNat := by
          have : ((p.1.toNat : Nat) : Int) < ((2 ^ p.2.toNat : Nat) : Int) := by rw [Int.toNat_of_nonneg h0, Int.natCast_pow]; exact h3
          exact Int.ofNat_lt.1 this
        show _ + _ < 2 ^ (_ + _)
        rw [Nat.pow_add]
        generalize (packW (l.take i)).1 = V at *
        generalize 2 ^ (packW (l.take i)).2 = Y at *
        have : (p.1.toNat + 1) * Y ≤ 2 ^ p.2.toNat * Y := Nat.mul_le_mul_right _ h4
        rw [Nat.add_mul, Nat.one_mul] at this
        rw [Nat.mul_comm Y]
        omega
      · exact ih
theorem Inv.lt {acc : List Int} {hold held V W : Nat} (h : Inv acc hold held V W) (hv : V < 2 ^ W) : hold < 2 ^ held := by
  rw [h.rest, pow256]
  apply Nat.div_lt_of_lt_mul
  rw [← Nat.pow_add, h.many]; exact hv
theorem Inv.add {acc : List Int} {hold held V W n wd : Nat} (h : Inv acc hold held V W) : Inv acc (hold + n * 2 ^ held) (held + wd) (V + n * 2 ^ W) (W + wd) := by
  have hm := h.many
  refine ⟨?_, ?_, by omega⟩
  · rw [le_add _ _ _ _ (by omega)]; exact h.row
  · rw [div_add_pow _ _ _ _ (by omega), ← h.rest, show W - 8 * acc.length = held by omega]
theorem FlS.upd {A : St} {hd bb ho lo c : Nat} {s : List Int × Nat × Nat} (h : FlS A hd bb ho lo s) (B : Option Blk) (hc : c < lo ∧ c ≠ hd ∧ c ≠ bb ∧ c ≠ ho) : FlS (A.upd c B) hd bb ho lo s := by
  obtain ⟨h1, h2, ⟨v, h3, h4⟩, h5⟩ := h
  exact ⟨(get_upd_old (by omega)).trans h1, (get_upd_old (by omega)).trans h2, ⟨v, (get_upd_old (by omega)).trans h3, h4.keep (Nat.le_refl _) (fun b _ q _ => get_upd_old (by omega)) (Nat.le_refl _)⟩, h5⟩
structure PackJ (A : St) (l : List (Int × Int)) (v : Value) (T : Blk) (i : Nat) (A' : St) : Prop where
  over : Over A A'
  cv : A'.get (A.next + 5) = some (.cells [v] 32 (some 0))
  dfr : A'.get (A.next + 6) = some (.dfr false)
  loop : A'.get (A.next + 7) = some T
  many : A'.get (A.next + 3) = some (.cells [.int .i64 ((l.take i).countP mayB : Nat)] 3 (some 0))
  fl : A'.get (A.next + 4) = some (.cells [.func (.func 37) #[] #[.pointer (some ⟨A.next + 2, 0, none⟩), .pointer (some ⟨A.next, 0, none⟩), .pointer (some ⟨A.next + 1, 0, none⟩)]] 75 (some 0))
  st : ∃ acc hold held, FlS A' (A.next + 2) A.next (A.next + 1) (A.next + 8) (acc, hold, held) ∧ Inv acc hold held (packW (l.take i)).1 (packW (l.take i)).2 ∧ held < 8
theorem PackJ.lo {A A' : St} {l : List (Int × Int)} {v : Value} {T : Blk} {i : Nat} (h : PackJ A l v T i A') : A.next + 8 ≤ A'.next := by
  obtain ⟨_, _, _, h, _⟩ := h.st; exact h.next
theorem PackJ.mono {A A' A2 : St} {l : List (Int × Int)} {v : Value} {T : Blk} {i : Nat} (h : PackJ A l v T i A') (o : Over A' A2) : PackJ A l v T i A2 := by
  have hlo := h.lo
  obtain ⟨h1, h2, h3, h4, h5, h6, acc, hold, held, h7, h8⟩ := h
  exact ⟨⟨Nat.le_trans h1.next o.next, fun b hb => (o.get b (by omega)).trans (h1.get b hb)⟩, (o.get _ (by omega)).trans h2, (o.get _ (by omega)).trans h3, (o.get _ (by omega)).trans h4, (o.get _ (by omega)).trans h5, (o.get _ (by omega)).trans h6, acc, hold, held, h7.over ⟨by omega, by omega, by omega⟩ o, h8⟩
theorem u64_shl (n k : Nat) (hk : k < 8) (hn : n < 16777216) : ishl .u64 (n : Int) (k : Int) = ((n * 2 ^ k : Nat) : Int) := by
  have hp : 2 ^ k ≤ 2 ^ 7 := Nat.pow_le_pow_right (by decide) (by omega)
  have h : n * 2 ^ k ≤ 16777216 * 2 ^ 7 := Nat.mul_le_mul (by omega) hp
  have e : ((n * 2 ^ k : Nat) : Int) = (n : Int) * 2 ^ k := by rw [Int.natCast_mul, Int.natCast_pow]; rfl
  rw [ishl_eq .u64 rfl (n : Int) k (by simp only [IntKind.bits]; omega) (by omega) (by rw [← e]; simp only [IntKind.bits]; omega), e]
theorem u64_or (h n k : Nat) (hk : k < 8) (hn : n < 16777216) (hh : h < 2 ^ k) : ibits .or .u64 (h : Int) ((n * 2 ^ k : Nat) : Int) = ((h + n * 2 ^ k : Nat) : Int) := by
  have hp : 2 ^ k ≤ 2 ^ 7 := Nat.pow_le_pow_right (by decide) (by omega)
  have h1 : n * 2 ^ k ≤ 16777216 * 2 ^ 7 := Nat.mul_le_mul (by omega) hp
  have e : ((n * 2 ^ k : Nat) : Int) = (n : Int) * 2 ^ k := by rw [Int.natCast_mul, Int.natCast_pow]; rfl
  have hh' : (h : Int) < 2 ^ k := by rw [show ((2 : Int) ^ k) = ((2 ^ k : Nat) : Int) by rw [Int.natCast_pow]; rfl]; exact Int.ofNat_lt.2 hh
  rw [e, or_add .u64 rfl (h : Int) (n : Int) k (by omega) hh' (by omega) (by rw [← e]; simp only [IntKind.bits]; omega), Int.natCast_add, e]
theorem bnd_packR (n : Nat) (l : List (Int × Int)) : Bnd n (packR l) := by
  unfold packR; split <;> simp only [bnd_tuple, bndL_cons, bndL_nil, bnd_int, bnd_string, and_self]
set_option maxHeartbeats 4000000 in
theorem pack_ok (w0 : World) (A : St) (v : Value) (l : List (Int × Int)) (hl : ∀ p ∈ l, PcOk p) (hlen : l.length ≤ 1073741824) (hv : PcsAt A v l) : ACalls Try.prog w0 23 #[v] A (fin (packR l) A) := by
  refine call_E Try.enters23 Try.func23 rfl (Nat.le_of_ble_eq_true rfl) fun hw hbd => ?_
  simp (maxSteps := 1000000) (disch := (first | omega | (simp only [nx_alloc, nx_upd, len_cons, len_nil, List.length_set, List.length_map, List.length_append] <;> omega) | fail)) only [go_sem, Try.ntmps23, Try.results23]
  refine call1 (right_ok w0 _ _) ?_
  have hc1 : v.cells.toList = [v] := hv.cells1
  rw [hc1]
  simp (maxSteps := 1000000) (disch := (first | omega | (simp only [nx_alloc, nx_upd, len_cons, len_nil, List.length_set, List.length_map, List.length_append] <;> omega) | fail)) only [go_sem]
  refine aw_rangeFunc_E (by simp (maxSteps := 1000000) (disch := (first | omega | (simp only [nx_alloc, nx_upd, len_cons, len_nil, List.length_set, List.length_map, List.length_append] <;> omega) | fail)) only [go_sem]; rfl) rfl ?_
  simp (maxSteps := 1000000) (disch := (first | omega | (simp only [nx_alloc, nx_upd, len_cons, len_nil, List.length_set, List.length_map, List.length_append] <;> omega) | fail)) only [go_sem]
  refine gen_loop fun ρ0 asg body hρ hasg hbody => ?_
  have hb2 : ρ0 5 = .pointer (some ⟨A.next + 1, 0, none⟩) ∧ ρ0 6 = .pointer (some ⟨A.next + 2, 0, none⟩) ∧ ρ0 7 = .pointer (some ⟨A.next + 3, 0, none⟩) ∧ ρ0 8 = .pointer (some ⟨A.next + 4, 0, none⟩) ∧ ρ0 4 = .pointer (some ⟨A.next, 0, none⟩) ∧ ρ0 0 = v := by
    subst hρ; refine ⟨?_, ?_, ?_, ?_, ?_, ?_⟩ <;> (first | (simp (maxSteps := 1000000) (disch := (first | omega | (simp only [nx_alloc, nx_upd, len_cons, len_nil, List.length_set, List.length_map, List.length_append] <;> omega) | fail)) only [go_sem]; rfl) | (simp (maxSteps := 1000000) (disch := (first | omega | (simp only [nx_alloc, nx_upd, len_cons, len_nil, List.length_set, List.length_map, List.length_append] <;> omega) | fail)) only [go_sem]))
  obtain ⟨r5, r6, r7, r8, r4, r0⟩ := hb2
  clear hρ
  refine (right1_ok w0 l hl (by omega) v (PackJ A l v (.loop .ready none (tm 37 ρ0) #[13] asg body)) (A.next + 7) (A.next + 5) ?_ ?_ ?_ ?_ _ ?_).mono ?_
  · intro i A' hj
    exact ⟨hv.over hj.over, _, hj.cv⟩
  · intro i A' A2 hj ho
    exact hj.mono ho
  · rintro i A1 ⟨n, wd⟩ hp hmay hj
    have hpk := hl _ (List.mem_of_getElem? hp)
    obtain ⟨hm1, hm2, hm3⟩ := mayB_iff hmay
    obtain ⟨hpk1, hpk2, _, _⟩ := hpk
    simp only at hm1 hm2 hm3 hpk1 hpk2
    obtain ⟨n, rfl⟩ := Int.eq_ofNat_of_zero_le hpk1
    obtain ⟨wd, rfl⟩ := Int.eq_ofNat_of_zero_le hm1
    have hn24 : n < 16777216 := by
      have h1 : n < 2 ^ wd := by simp only [Int.toNat_natCast] at hm3; rw [show ((2 : Int) ^ wd) = ((2 ^ wd : Nat) : Int) by rw [Int.natCast_pow]; rfl] at hm3; exact Int.ofNat_lt.1 hm3
      have h2 : 2 ^ wd ≤ 2 ^ 24 := Nat.pow_le_pow_right (by decide) (by omega)
      omega
    have hi : i < l.length := (List.getElem?_eq_some_iff.1 hp).1
    have hlo := hj.lo
    unfold pcV
    refine ayield_E (upd ρ0 13 (.agg #[.int .u32 n, .int .i64 wd])) hj.loop rfl (setArgs_1 ..) ?_
    conv => arg 5; rw [hasg]
    simp (maxSteps := 1000000) (disch := (first | omega | (simp only [nx_alloc, nx_upd, len_cons, len_nil, List.length_set, List.length_map, List.length_append] <;> omega) | fail)) only [go_sem]
    refine asgQ_of (by simp (disch := (first | omega | (simp only [nx_alloc, nx_upd, len_cons, len_nil, List.length_set, List.length_map, List.length_append] <;> omega) | fail)) only [St.get_upd, St.get_alloc, St.next_alloc, St.next_upd, ↓reduceIte, natF_lt, natF_gt, natF_ne, Nat.add_assoc, Nat.reduceAdd, Nat.reduceEqDiff, Nat.add_left_cancel_iff]; exact hj.loop) ?_
    obtain ⟨A2, hA2⟩ : ∃ A2, A2 = (((A1.alloc (.cells [.int .u32 0, .int .i64 0] 42 (some 0))).upd A1.next (some (.cells [.int .u32 n, .int .i64 wd] 42 (some 0)))).upd (A.next + 7) (some (.loop .busy none (tm 37 ρ0) #[13] asg body))) := ⟨_, rfl⟩
    rw [← hA2]
    refine aw_of ?_
    conv => arg 5; rw [hbody]
    have hn2 : A2.next = A1.next + 1 := by rw [hA2]; rfl
    have hg2 : ∀ b, b < A1.next → b ≠ A.next + 7 → A2.get b = A1.get b := fun b hb hb2 => by
      rw [hA2]
      simp (disch := (first | omega | (simp only [nx_alloc, nx_upd, len_cons, len_nil, List.length_set, List.length_map, List.length_append] <;> omega) | fail)) only [St.get_upd, St.get_alloc, St.next_alloc, St.next_upd, ↓reduceIte, natF_lt, natF_gt, natF_ne, Nat.add_assoc, Nat.reduceAdd, Nat.reduceEqDiff, Nat.add_left_cancel_iff]
    have hl2 : A2.get (A.next + 7) = some (.loop .busy none (tm 37 ρ0) #[13] asg body) := by rw [hA2]; exact get_upd_same ..
    have hp2 : A2.get A1.next = some (.cells [.int .u32 n, .int .i64 wd] 42 (some 0)) := by
      rw [hA2]
      simp (disch := (first | omega | (simp only [nx_alloc, nx_upd, len_cons, len_nil, List.length_set, List.length_map, List.length_append] <;> omega) | fail)) only [St.get_upd, St.get_alloc, St.next_alloc, St.next_upd, ↓reduceIte, natF_lt, natF_gt, natF_ne, Nat.add_assoc, Nat.reduceAdd, Nat.reduceEqDiff, Nat.add_left_cancel_iff]
    obtain ⟨acc, hold, held, ⟨f1, f2, ⟨rv, f3, f4⟩, f5⟩, hinv, hheld⟩ := hj.st
    simp only at f1 f2 f3 f4
    have hV := hinv.lt (packW_lt l hl i)
    have hW := packW_le l i
    have hmn := hinv.many
    have g1 : A2.get (A.next + 2) = _ := (hg2 _ (by omega) (by omega)).trans f1
    have g2 : A2.get (A.next + 1) = _ := (hg2 _ (by omega) (by omega)).trans f2
    have g3 : A2.get A.next = _ := (hg2 _ (by omega) (by omega)).trans f3
    have g6 : A2.get (A.next + 3) = _ := (hg2 _ (by omega) (by omega)).trans hj.many
    have g7 : A2.get (A.next + 4) = _ := (hg2 _ (by omega) (by omega)).trans hj.fl
    have hr2 : Row A2 5 1 (A.next + 8) (acc.map (.int .u8 ·)) acc.length rv := f4.keep (by omega) (fun b _ q1 q2 => hg2 b q2 (by omega)) (Nat.le_refl _)
    simp (maxSteps := 1000000) (disch := (first | omega | (simp only [nx_alloc, nx_upd, len_cons, len_nil, List.length_set, List.length_map, List.length_append] <;> omega) | fail)) only [go_sem, r5, r6]
    refine aw_draw2 [⟨false, [], [0]⟩, ⟨false, [], [0]⟩, ⟨false, [1], [0]⟩, ⟨false, [1, 2], [0]⟩, ⟨false, [], [0]⟩, ⟨false, [1, 2, 3, 4], [0]⟩, ⟨false, [0, 1, 2, 3, 4, 5], [0]⟩, ⟨true, [0, 1, 2, 3, 4, 5, 6], [0]⟩] [A2, A2.upd (A.next + 1) (some (.cells [.int .u64 ((hold + n * 2 ^ held : Nat) : Int)] 74 (some 0)))] 1 (by kernel_rfl) (by kernel_rfl) rfl ?_
    simp (maxSteps := 1000000) (disch := (first | omega | (simp only [nx_alloc, nx_upd, len_cons, len_nil, List.length_set, List.length_map, List.length_append] <;> omega) | fail)) only [go_sem, r5, r6, g1, g2, hp2, u64_shl n held hheld hn24, u64_or hold n held hheld hn24 hV]
    have e : (held : Int) + (wd : Int) = ((held + wd : Nat) : Int) := by omega
    simp (maxSteps := 1000000) (disch := (first | omega | (simp only [nx_alloc, nx_upd, len_cons, len_nil, List.length_set, List.length_map, List.length_append] <;> omega) | fail)) only [go_sem, r8, g7, e]
    have hp8 : 2 ^ held ≤ 2 ^ 7 := Nat.pow_le_pow_right (by decide) (by omega)
    have hp9 : n * 2 ^ held ≤ 16777216 * 2 ^ 7 := Nat.mul_le_mul (by omega) hp8
    refine (flush_ok w0 (A.next + 2) A.next (A.next + 1) (A.next + 8) 8 ⟨by omega, by omega, by omega, by omega, by omega, by omega⟩ (by omega) _ acc (hold + n * 2 ^ held) (held + wd) ⟨?_, ?_, ⟨rv, ?_, ?_⟩, ?_⟩ (by omega) (by omega)).mono ?_
    · simp (disch := (first | omega | (simp only [nx_alloc, nx_upd, len_cons, len_nil, List.length_set, List.length_map, List.length_append] <;> omega) | fail)) only [St.get_upd, St.get_alloc, St.next_alloc, St.next_upd, ↓reduceIte, natF_lt, natF_gt, natF_ne, Nat.add_assoc, Nat.reduceAdd, Nat.reduceEqDiff, Nat.add_left_cancel_iff]
    · simp (disch := (first | omega | (simp only [nx_alloc, nx_upd, len_cons, len_nil, List.length_set, List.length_map, List.length_append] <;> omega) | fail)) only [St.get_upd, St.get_alloc, St.next_alloc, St.next_upd, ↓reduceIte, natF_lt, natF_gt, natF_ne, Nat.add_assoc, Nat.reduceAdd, Nat.reduceEqDiff, Nat.add_left_cancel_iff]
    · simp (disch := (first | omega | (simp only [nx_alloc, nx_upd, len_cons, len_nil, List.length_set, List.length_map, List.length_append] <;> omega) | fail)) only [St.get_upd, St.get_alloc, St.next_alloc, St.next_upd, ↓reduceIte, natF_lt, natF_gt, natF_ne, Nat.add_assoc, Nat.reduceAdd, Nat.reduceEqDiff, Nat.add_left_cancel_iff]
      exact g3
    · exact hr2.keep (Nat.le_refl _) (fun b _ q _ => by simp (disch := (first | omega | (simp only [nx_alloc, nx_upd, len_cons, len_nil, List.length_set, List.length_map, List.length_append] <;> omega) | fail)) only [St.get_upd, St.get_alloc, St.next_alloc, St.next_upd, ↓reduceIte, natF_lt, natF_gt, natF_ne, Nat.add_assoc, Nat.reduceAdd, Nat.reduceEqDiff, Nat.add_left_cancel_iff]) (Nat.le_refl _)
    · simp (disch := (first | omega | (simp only [nx_alloc, nx_upd, len_cons, len_nil, List.length_set, List.length_map, List.length_append] <;> omega) | fail)) only [St.get_upd, St.get_alloc, St.next_alloc, St.next_upd, ↓reduceIte, natF_lt, natF_gt, natF_ne, Nat.add_assoc, Nat.reduceAdd, Nat.reduceEqDiff, Nat.add_left_cancel_iff]
      omega
    rintro e2 A4 ⟨rfl, hF, hK⟩
    have ho4 : ∀ b, b < A.next + 8 → b ≠ A.next + 2 → b ≠ A.next → b ≠ A.next + 1 → A4.get b = A2.get b := fun b q1 q2 q3 q4 => by
      rw [hK.get b q1 q2 q3 q4]
      simp (disch := (first | omega | (simp only [nx_alloc, nx_upd, len_cons, len_nil, List.length_set, List.length_map, List.length_append] <;> omega) | fail)) only [St.get_upd, St.get_alloc, St.next_alloc, St.next_upd, ↓reduceIte, natF_lt, natF_gt, natF_ne, Nat.add_assoc, Nat.reduceAdd, Nat.reduceEqDiff, Nat.add_left_cancel_iff]
    have hn4 := hK.next
    simp only [St.next_upd] at hn4
    have m4 := (ho4 (A.next + 3) (by omega) (by omega) (by omega) (by omega)).trans g6
    have l4 := (ho4 (A.next + 7) (by omega) (by omega) (by omega) (by omega)).trans hl2
    have hcle : (l.take i).countP mayB ≤ i := Nat.le_trans List.countP_le_length (List.length_take_le _ _)
    simp (maxSteps := 1000000) (disch := (first | omega | (simp only [nx_alloc, nx_upd, len_cons, len_nil, List.length_set, List.length_map, List.length_append] <;> omega) | fail)) only [go_sem, r7, m4]
    refine roundQ_normal (pe := none) (by simp (disch := (first | omega | (simp only [nx_alloc, nx_upd, len_cons, len_nil, List.length_set, List.length_map, List.length_append] <;> omega) | fail)) only [St.get_upd, St.get_alloc, St.next_alloc, St.next_upd, ↓reduceIte, natF_lt, natF_gt, natF_ne, Nat.add_assoc, Nat.reduceAdd, Nat.reduceEqDiff, Nat.add_left_cancel_iff]; exact l4) ⟨rfl, ?_⟩
    obtain ⟨hI8, hlt8⟩ := flushS_8 _ _ _ _ _ (hinv.add (n := n) (wd := wd))
    refine ⟨⟨by simp (disch := (first | omega | (simp only [nx_alloc, nx_upd, len_cons, len_nil, List.length_set, List.length_map, List.length_append] <;> omega) | fail)) only [St.get_upd, St.get_alloc, St.next_alloc, St.next_upd, ↓reduceIte, natF_lt, natF_gt, natF_ne, Nat.add_assoc, Nat.reduceAdd, Nat.reduceEqDiff, Nat.add_left_cancel_iff]; have := hj.over.next; omega, fun b hb => ?_⟩, ?_, ?_, ?_, ?_, ?_, _, _, _, (hF.upd _ ⟨by omega, by omega, by omega, by omega⟩).upd _ ⟨by omega, by omega, by omega, by omega⟩, ?_, hlt8⟩
    · simp (disch := (first | omega | (simp only [nx_alloc, nx_upd, len_cons, len_nil, List.length_set, List.length_map, List.length_append] <;> omega) | fail)) only [St.get_upd, St.get_alloc, St.next_alloc, St.next_upd, ↓reduceIte, natF_lt, natF_gt, natF_ne, Nat.add_assoc, Nat.reduceAdd, Nat.reduceEqDiff, Nat.add_left_cancel_iff]
      rw [ho4 _ (by omega) (by omega) (by omega) (by omega), hg2 _ (by have := hj.over.next; omega) (by omega)]; exact hj.over.get b hb
    · simp (disch := (first | omega | (simp only [nx_alloc, nx_upd, len_cons, len_nil, List.length_set, List.length_map, List.length_append] <;> omega) | fail)) only [St.get_upd, St.get_alloc, St.next_alloc, St.next_upd, ↓reduceIte, natF_lt, natF_gt, natF_ne, Nat.add_assoc, Nat.reduceAdd, Nat.reduceEqDiff, Nat.add_left_cancel_iff]
      rw [ho4 _ (by omega) (by omega) (by omega) (by omega), hg2 _ (by omega) (by omega)]; exact hj.cv
    · simp (disch := (first | omega | (simp only [nx_alloc, nx_upd, len_cons, len_nil, List.length_set, List.length_map, List.length_append] <;> omega) | fail)) only [St.get_upd, St.get_alloc, St.next_alloc, St.next_upd, ↓reduceIte, natF_lt, natF_gt, natF_ne, Nat.add_assoc, Nat.reduceAdd, Nat.reduceEqDiff, Nat.add_left_cancel_iff]
      rw [ho4 _ (by omega) (by omega) (by omega) (by omega), hg2 _ (by omega) (by omega)]; exact hj.dfr
    · simp (disch := (first | omega | (simp only [nx_alloc, nx_upd, len_cons, len_nil, List.length_set, List.length_map, List.length_append] <;> omega) | fail)) only [St.get_upd, St.get_alloc, St.next_alloc, St.next_upd, ↓reduceIte, natF_lt, natF_gt, natF_ne, Nat.add_assoc, Nat.reduceAdd, Nat.reduceEqDiff, Nat.add_left_cancel_iff]
    · simp (disch := (first | omega | (simp only [nx_alloc, nx_upd, len_cons, len_nil, List.length_set, List.length_map, List.length_append] <;> omega) | fail)) only [St.get_upd, St.get_alloc, St.next_alloc, St.next_upd, ↓reduceIte, natF_lt, natF_gt, natF_ne, Nat.add_assoc, Nat.reduceAdd, Nat.reduceEqDiff, Nat.add_left_cancel_iff]
      rw [count_snoc l i _ hp, hmay]; rfl
    · simp (disch := (first | omega | (simp only [nx_alloc, nx_upd, len_cons, len_nil, List.length_set, List.length_map, List.length_append] <;> omega) | fail)) only [St.get_upd, St.get_alloc, St.next_alloc, St.next_upd, ↓reduceIte, natF_lt, natF_gt, natF_ne, Nat.add_assoc, Nat.reduceAdd, Nat.reduceEqDiff, Nat.add_left_cancel_iff]
      rw [ho4 _ (by omega) (by omega) (by omega) (by omega), hg2 _ (by omega) (by omega)]; exact hj.fl
    · rw [packW_snoc l i _ hp]
      unfold stP
      rw [if_pos hmay]
      exact hI8
  · intro i A1 p hp hmay hj
    obtain ⟨h1, h2, h3, h4, h5, h6, h7⟩ := hj
    refine ⟨h1, h2, h3, h4, ?_, h6, ?_⟩
    · rw [count_snoc l i p hp, hmay]; exact h5
    · rw [packW_snoc l i p hp, stP, if_neg (by rw [hmay]; exact Bool.false_ne_true)]; exact h7
  · refine ⟨?_, ?_, ?_, ?_, ?_, ?_, [], 0, 0, ⟨?_, ?_, ⟨_, ?_, Row.nil _ _ _ _⟩, ?_⟩, ⟨rfl, by simp [packW], by simp [packW]⟩, by decide⟩
    · exact ((((((((((((Over.refl A).alloc _).alloc _).alloc _).alloc _).upd (by omega) _).upd (by omega) _).upd (by omega) _).alloc _).upd (by omega) _).alloc _).alloc _).alloc _
    · simp (disch := (first | omega | (simp only [nx_alloc, nx_upd, len_cons, len_nil, List.length_set, List.length_map, List.length_append] <;> omega) | fail)) only [St.get_upd, St.get_alloc, St.next_alloc, St.next_upd, ↓reduceIte, natF_lt, natF_gt, natF_ne, Nat.add_assoc, Nat.reduceAdd, Nat.reduceEqDiff, Nat.add_left_cancel_iff]
    · simp (disch := (first | omega | (simp only [nx_alloc, nx_upd, len_cons, len_nil, List.length_set, List.length_map, List.length_append] <;> omega) | fail)) only [St.get_upd, St.get_alloc, St.next_alloc, St.next_upd, ↓reduceIte, natF_lt, natF_gt, natF_ne, Nat.add_assoc, Nat.reduceAdd, Nat.reduceEqDiff, Nat.add_left_cancel_iff]
    · simp (disch := (first | omega | (simp only [nx_alloc, nx_upd, len_cons, len_nil, List.length_set, List.length_map, List.length_append] <;> omega) | fail)) only [St.get_upd, St.get_alloc, St.next_alloc, St.next_upd, ↓reduceIte, natF_lt, natF_gt, natF_ne, Nat.add_assoc, Nat.reduceAdd, Nat.reduceEqDiff, Nat.add_left_cancel_iff]
    · simp (disch := (first | omega | (simp only [nx_alloc, nx_upd, len_cons, len_nil, List.length_set, List.length_map, List.length_append] <;> omega) | fail)) only [St.get_upd, St.get_alloc, St.next_alloc, St.next_upd, ↓reduceIte, natF_lt, natF_gt, natF_ne, Nat.add_assoc, Nat.reduceAdd, Nat.reduceEqDiff, Nat.add_left_cancel_iff]
      rfl
    · simp (disch := (first | omega | (simp only [nx_alloc, nx_upd, len_cons, len_nil, List.length_set, List.length_map, List.length_append] <;> omega) | fail)) only [St.get_upd, St.get_alloc, St.next_alloc, St.next_upd, ↓reduceIte, natF_lt, natF_gt, natF_ne, Nat.add_assoc, Nat.reduceAdd, Nat.reduceEqDiff, Nat.add_left_cancel_iff]
    · simp (disch := (first | omega | (simp only [nx_alloc, nx_upd, len_cons, len_nil, List.length_set, List.length_map, List.length_append] <;> omega) | fail)) only [St.get_upd, St.get_alloc, St.next_alloc, St.next_upd, ↓reduceIte, natF_lt, natF_gt, natF_ne, Nat.add_assoc, Nat.reduceAdd, Nat.reduceEqDiff, Nat.add_left_cancel_iff]
      rfl
    · simp (disch := (first | omega | (simp only [nx_alloc, nx_upd, len_cons, len_nil, List.length_set, List.length_map, List.length_append] <;> omega) | fail)) only [St.get_upd, St.get_alloc, St.next_alloc, St.next_upd, ↓reduceIte, natF_lt, natF_gt, natF_ne, Nat.add_assoc, Nat.reduceAdd, Nat.reduceEqDiff, Nat.add_left_cancel_iff]
      rfl
    · simp (disch := (first | omega | (simp only [nx_alloc, nx_upd, len_cons, len_nil, List.length_set, List.length_map, List.length_append] <;> omega) | fail)) only [St.get_upd, St.get_alloc, St.next_alloc, St.next_upd, ↓reduceIte, natF_lt, natF_gt, natF_ne, Nat.add_assoc, Nat.reduceAdd, Nat.reduceEqDiff, Nat.add_left_cancel_iff]
    · simp (disch := (first | omega | (simp only [nx_alloc, nx_upd, len_cons, len_nil, List.length_set, List.length_map, List.length_append] <;> omega) | fail)) only [St.get_upd, St.get_alloc, St.next_alloc, St.next_upd, ↓reduceIte, natF_lt, natF_gt, natF_ne, Nat.add_assoc, Nat.reduceAdd, Nat.reduceEqDiff, Nat.add_left_cancel_iff]
      omega
  · rintro e A2 ⟨rfl, hj⟩
    refine rfQ_normal hj.loop (by decide) ?_
    have hlo := hj.lo
    obtain ⟨hov, hcv, hdf, hlp, hmn, hfl, acc, hold, held, hF, hinv, hheld⟩ := hj
    rw [List.take_length] at hmn hinv
    have hV := hinv.lt (by have := packW_lt l hl l.length; rwa [List.take_length] at this)
    have hW : (packW l).2 ≤ 24 * l.length := by have := packW_le l l.length; rwa [List.take_length] at this
    have hmm := hinv.many
    have hv2 := hv.over (hov.upd (b := A.next + 7) (by omega) (some (.loop .exhausted none (tm 37 ρ0) #[13] asg body)))
    simp (maxSteps := 1000000) (disch := (first | omega | (simp only [nx_alloc, nx_upd, len_cons, len_nil, List.length_set, List.length_map, List.length_append] <;> omega) | fail)) only [go_sem, r7, r0, hmn, hv2.lenU]
    refine ifB_dec (fun hlt => ?_) (fun hlt => ?_)
    · simp (maxSteps := 1000000) (disch := (first | omega | (simp only [nx_alloc, nx_upd, len_cons, len_nil, List.length_set, List.length_map, List.length_append] <;> omega) | fail)) only [go_sem, hdf, Try.results23]
      have hno : packOk l = false := by
        rw [Bool.eq_false_iff]
        intro h
        rw [packOk, List.all_eq_true] at h
        have := List.countP_eq_length.2 h
        omega
      exact gc_fin' hw ((hov.upd (by omega) _).upd (by omega) _) (by unfold packR; rw [hno]; rfl) (bnd_packR _ _)
    · have hyes : packOk l = true := by
        rw [packOk, List.all_eq_true]
        apply List.countP_eq_length.1
        have : l.countP mayB ≤ l.length := List.countP_le_length
        omega
      simp (maxSteps := 1000000) (disch := (first | omega | (simp only [nx_alloc, nx_upd, len_cons, len_nil, List.length_set, List.length_map, List.length_append] <;> omega) | fail)) only [go_sem, r8, hfl]
      have hh8 : 2 ^ held ≤ 2 ^ 7 := Nat.pow_le_pow_right (by decide) (by omega)
      refine (flush_ok w0 (A.next + 2) A.next (A.next + 1) (A.next + 8) 1 ⟨by omega, by omega, by omega, by omega, by omega, by omega⟩ (by omega) _ acc hold held (hF.upd _ ⟨by omega, by omega, by omega, by omega⟩) (by omega) (by omega)).mono ?_
      rintro e2 A4 ⟨rfl, ⟨_, _, ⟨rv, q3, q4⟩, _⟩, hK⟩
      rw [flushS_1 hinv hheld] at q4
      have hd4 := (hK.get (A.next + 6) (by omega) (by omega) (by omega) (by omega)).trans ((get_upd_old (by omega)).trans hdf)
      have hn4 := hK.next
      simp only [St.next_upd] at hn4
      simp (maxSteps := 1000000) (disch := (first | omega | (simp only [nx_alloc, nx_upd, len_cons, len_nil, List.length_set, List.length_map, List.length_append] <;> omega) | fail)) only [go_sem, r4, q3, q4.view.text Try.underlying5, hd4, Try.results23]
      exact gc_fin' (A' := A4.upd (A.next + 6) (some (.dfr true))) hw ⟨by simp (disch := (first | omega | (simp only [nx_alloc, nx_upd, len_cons, len_nil, List.length_set, List.length_map, List.length_append] <;> omega) | fail)) only [St.get_upd, St.get_alloc, St.next_alloc, St.next_upd, ↓reduceIte, natF_lt, natF_gt, natF_ne, Nat.add_assoc, Nat.reduceAdd, Nat.reduceEqDiff, Nat.add_left_cancel_iff]; have := hov.next; omega, fun b hb => by simp (disch := (first | omega | (simp only [nx_alloc, nx_upd, len_cons, len_nil, List.length_set, List.length_map, List.length_append] <;> omega) | fail)) only [St.get_upd, St.get_alloc, St.next_alloc, St.next_upd, ↓reduceIte, natF_lt, natF_gt, natF_ne, Nat.add_assoc, Nat.reduceAdd, Nat.reduceEqDiff, Nat.add_left_cancel_iff]; rw [hK.get b (by omega) (by omega) (by omega) (by omega), get_upd_old (by omega), hov.get b hb]⟩ (by unfold packR; rw [hyes]; rfl) (bnd_packR _ _)
end Go.Fw
