import Derived.Test.YtmfccnnkolegmaaFwFacts
set_option linter.unusedSimpArgs false
set_option linter.unusedVariables false
set_option maxRecDepth 4000
namespace Go.Fw
open Go.Proofs Go.RowKit
theorem Try.enters60 : Enters Try.prog 60 := enters_of Try.func60 rfl (by kernel_rfl)
/-- A piece, as a value. -/
def pcV (p : Int × Int) : Value := .agg #[.int .u32 p.1, .int .i64 p.2]
def mayB (p : Int × Int) : Bool := decide (0 ≤ p.2 ∧ p.2 ≤ 24 ∧ p.1 < 2 ^ p.2.toNat)
def PcOk (p : Int × Int) : Prop := 0 ≤ p.1 ∧ p.1 < 4294967296 ∧ -9223372036854775808 ≤ p.2 ∧ p.2 ≤ 9223372036854775807
set_option maxHeartbeats 1000000 in
theorem may_ok (w0 : World) (A : St) (p : Int × Int) (hp : PcOk p) : ACalls Try.prog w0 60 #[pcV p] A (fin (.bool (mayB p)) A) := by
  obtain ⟨n, wd⟩ := p
  unfold pcV
  refine call_E Try.enters60 Try.func60 rfl (Nat.le_of_ble_eq_true rfl) fun hw hbd => ?_
  simp (maxSteps := 1000000) (disch := first | omega | (simp only [z1, z2, z3, z4, z5, z6, z7] <;> omega) | fail) only [go_sem, Try.ntmps60, Try.results60]
  by_cases h1 : 0 ≤ wd
  · by_cases h2 : wd ≤ 24
    · simp (maxSteps := 1000000) (disch := first | omega | (simp only [z1, z2, z3, z4, z5, z6, z7] <;> omega) | fail) only [go_sem, Try.results60]
      obtain ⟨hn0, hn1, _, _⟩ := hp
      obtain ⟨k, rfl⟩ := Int.eq_ofNat_of_zero_le h1
      obtain ⟨m, rfl⟩ := Int.eq_ofNat_of_zero_le hn0
      have hd : (0 : Nat) < 2 ^ k := Nat.two_pow_pos k
      have he : ishr .u32 (m : Int) (k : Int) = ((m / 2 ^ k : Nat) : Int) := by
        rw [ishr_eq .u32 _ k (by simp only [IntKind.bits]; omega), Int.natCast_ediv, Int.natCast_pow]; rfl
      refine gc_fin' hw ((Over.refl _).alloc _) (congrArg Value.bool ?_) (by simp only [bnd_bool])
      unfold mayB
      rw [decide_eq_decide, he]
      simp only [Int.toNat_natCast]
      have hc : ((m : Int) < 2 ^ k) ↔ m < 2 ^ k := by rw [show ((2 : Int) ^ k) = ((2 ^ k : Nat) : Int) by rw [Int.natCast_pow]; rfl]; exact Int.ofNat_lt
      have hz : (((m / 2 ^ k : Nat) : Int) = 0) ↔ m < 2 ^ k := by
        rw [← Nat.div_eq_zero_iff_lt hd]; omega
      rw [hc, hz]
      constructor
      · rintro ⟨⟨_, a⟩, b⟩; exact ⟨h1, a, b⟩
      · rintro ⟨_, a, b⟩; exact ⟨⟨h1, a⟩, b⟩
    · simp (maxSteps := 1000000) (disch := first | omega | (simp only [z1, z2, z3, z4, z5, z6, z7] <;> omega) | fail) only [go_sem, Try.results60]
      exact gc_fin' hw ((Over.refl _).alloc _) (by unfold mayB; rw [decide_eq_false (by intro h; exact h2 h.2.1)]) (by simp only [bnd_bool])
  · simp (maxSteps := 1000000) (disch := first | omega | (simp only [z1, z2, z3, z4, z5, z6, z7] <;> omega) | fail) only [go_sem, Try.results60]
    exact gc_fin' hw ((Over.refl _).alloc _) (by unfold mayB; rw [decide_eq_false (by intro h; exact h1 h.1)]) (by simp only [bnd_bool])
theorem Try.enters40 : Enters Try.prog 40 := enters_of Try.func40 rfl (by kernel_rfl)
theorem Try.enters59 : Enters Try.prog 59 := enters_of Try.func59 rfl (by kernel_rfl)
/-- Pieces, in cells. -/
def flatP : List (Int × Int) → List Value
  | [] => []
  | p :: l => .int .u32 p.1 :: .int .i64 p.2 :: flatP l
theorem flatP_at : ∀ (l : List (Int × Int)) (i : Nat) (p : Int × Int), l[i]? = some p → ((flatP l).drop (2 * i)).take 2 = [.int .u32 p.1, .int .i64 p.2]
  | [], i, p, h => by simp at h
  | q :: l, 0, p, h => by simp at h; subst h; rfl
  | q :: l, i + 1, p, h => by
    rw [show 2 * (i + 1) = 2 * i + 2 by omega]
    simp only [flatP, List.drop_succ_cons]
    exact flatP_at l i p (by simpa using h)
/-- A slice of pieces. -/
abbrev PcsAt (A : St) (v : Value) (l : List (Int × Int)) : Prop := View A 2 (flatP l) l.length v
theorem pcs_at {A : St} {v : Value} {l : List (Int × Int)} {P : Program} {e i : Nat} {p : Int × Int} (h : View A 2 (flatP l) l.length v) (hsz : tsz P e = some 2) (hp : l[i]? = some p) : ∃ b off, b < A.next ∧ rowB v = some b ∧ (∀ k : IntKind, indexAddrU P (some (.slice e)) v (.int k i) = some (.pointer (some ⟨b, off, none⟩))) ∧
    ∃ cells e' m, A.get b = some (.cells cells e' m) ∧ off + 2 ≤ cells.length ∧ (cells.drop off).take 2 = [.int .u32 p.1, .int .i64 p.2] ∧ cells[off]? = some (.int .u32 p.1) ∧ cells[off + 1]? = some (.int .i64 p.2) := by
  obtain ⟨b, off, h1, h2, h3, cells, e', m, h4, h5, h6⟩ := h.at (e := e) hsz (List.getElem?_eq_some_iff.1 hp).1
  rw [Nat.mul_comm, flatP_at l i p hp] at h6
  have h7 := congrArg (·[0]?) h6
  have h8 := congrArg (·[1]?) h6
  simp only [List.getElem?_take, List.getElem?_drop, Nat.add_zero] at h7 h8
  exact ⟨b, off, h1, h2, h3, cells, e', m, h4, h5, h6, h7, h8⟩
theorem View.cells1 {A : St} {sz len : Nat} {cs : List Value} {v : Value} (h : View A sz cs len v) : v.cells.toList = [v] := by
  rcases h.2 with ⟨_, ad, c, rfl⟩ | ⟨b, off, sp, c, cs, e, m, rfl, _⟩ <;> rfl
set_option maxHeartbeats 400000 in
theorem right_ok (w0 : World) (A : St) (v : Value) :
    ACalls Try.prog w0 40 #[v] A (fin (.func (.func 59) #[] #[.pointer (some ⟨A.next, 0, none⟩)]) (A.alloc (.cells v.cells.toList 46 (some 0)))) := by
  refine call_E Try.enters40 Try.func40 rfl (Nat.le_of_ble_eq_true rfl) fun hw hbd => ?_
  simp (maxSteps := 1000000) (disch := first | omega | (simp only [z1, z2, z3, z4, z5, z6, z7] <;> omega) | fail) only [go_sem, Try.ntmps40, Try.results40]
  exact gc_here ⟨rfl, rfl⟩
set_option maxHeartbeats 1000000 in
/-- The loop over right pieces, for any 'yield' that goes on. -/
theorem right1_ok (w0 : World) (l : List (Int × Int)) (hl : ∀ p ∈ l, PcOk p) (hlen : l.length ≤ 140737488355328) (v : Value) (J : Nat → St → Prop) (L c : Nat)
    (hJ : ∀ i A, J i A → PcsAt A v l ∧ ∃ m, A.get c = some (.cells [v] 46 m))
    (hG : ∀ i A A', J i A → Over A A' → J i A')
    (hY : ∀ i A p, l[i]? = some p → mayB p = true → J i A → AYield Try.prog w0 L #[pcV p] A fun e A' => e = .returned (.bool true) ∧ J (i + 1) A')
    (hS : ∀ i A p, l[i]? = some p → mayB p = false → J i A → J (i + 1) A)
    (A : St) (h : J 0 A) : ACalls Try.prog w0 59 #[.func (.yield L) #[] #[], .pointer (some ⟨c, 0, none⟩)] A fun e A' => e = .returned (.tuple #[]) ∧ J l.length A' := by
  obtain ⟨hv, m0, hc⟩ := hJ 0 A h
  refine call_E Try.enters59 Try.func59 rfl (Nat.le_of_ble_eq_true rfl) fun hw hbd => ?_
  simp (maxSteps := 1000000) (disch := first | omega | (simp only [z1, z2, z3, z4, z5, z6, z7] <;> omega) | fail) only [go_sem, Try.ntmps59, Try.results59, hc, hv.lenU]
  refine aw_loop (fun k a A' => ∃ (ρ : Nat → Value) (i : Nat), a = E 20 ρ [] ∧ k = l.length - i ∧ i ≤ l.length ∧ J i A' ∧ ρ 0 = .func (.yield L) #[] #[] ∧ ρ 5 = v ∧ ρ 6 = .int .i64 l.length ∧ ρ 7 = .int .i64 i) l.length
    ⟨_, 0, rfl, rfl, by omega, h, rfl, rfl, rfl, rfl⟩ ?_
  rintro k a A' ⟨ρ, i, rfl, rfl, hi, hj, h0, h5, h6, h7⟩
  refine aw_of ?_
  simp (maxSteps := 1000000) (disch := first | omega | (simp only [z1, z2, z3, z4, z5, z6, z7] <;> omega) | fail) only [go_sem, h6, h7]
  refine ifB_dec (fun hlt => ?_) (fun hlt => ?_)
  rotate_left
  · have : i = l.length := by omega
    subst this
    simp (maxSteps := 1000000) (disch := first | omega | (simp only [z1, z2, z3, z4, z5, z6, z7] <;> omega) | fail) only [go_sem, Try.results59]
    exact gc_here ⟨rfl, hj⟩
  obtain ⟨p, hp⟩ : ∃ p, l[i]? = some p := ⟨l[i]'(by omega), List.getElem?_eq_getElem _⟩
  obtain ⟨b, off, hb, hb2, hix, cells, e', m', hcs, hln, hpc, _⟩ := pcs_at (P := Try.prog) (e := 51) (hJ i A' hj).1 Try.sz51 hp
  have hpo := hl p (List.mem_of_getElem? hp)
  simp (maxSteps := 1000000) (disch := first | omega | (simp only [z1, z2, z3, z4, z5, z6, z7] <;> omega) | fail) only [go_sem, h5, h7, hix, hcs, hpc]
  refine call1 (may_ok w0 _ p hpo) ?_
  obtain ⟨A2, hA2⟩ : ∃ A2, A2 = (A'.alloc (.cells [.int .u32 0, .int .i64 0] 51 (some 0))).upd A'.next (some (.cells [.int .u32 p.1, .int .i64 p.2] 51 (some 0))) := ⟨_, rfl⟩
  have ho2 : Over A' A2 := by rw [hA2]; exact ((Over.refl A').alloc _).upd (Nat.le_refl _) _
  have hg2 : A2.get A'.next = some (.cells [.int .u32 p.1, .int .i64 p.2] 51 (some 0)) := by rw [hA2]; exact get_upd_same ..
  have hj2 : J i A2 := hG i A' A2 hj ho2
  rw [← hA2]
  have step : ∀ (ρ' : Nat → Value) (A3 : St), J (i + 1) A3 → ρ' 0 = .func (.yield L) #[] #[] → ρ' 5 = v → ρ' 6 = .int .i64 l.length → ρ' 7 = .int .i64 ((i : Int) + 1) →
      ∃ m', m' < l.length - i ∧ ∃ (ρ : Nat → Value) (i : Nat), E 20 ρ' [] = E 20 ρ [] ∧ m' = l.length - i ∧ i ≤ l.length ∧ J i A3 ∧ ρ 0 = .func (.yield L) #[] #[] ∧ ρ 5 = v ∧ ρ 6 = .int .i64 l.length ∧ ρ 7 = .int .i64 i :=
    fun ρ' A3 hj3 q0 q5 q6 q7 => ⟨l.length - (i + 1), by omega, ρ', i + 1, rfl, rfl, by omega, hj3, q0, q5, q6, q7⟩
  by_cases hmay : mayB p = true
  · simp (maxSteps := 1000000) (disch := first | omega | (simp only [z1, z2, z3, z4, z5, z6, z7] <;> omega) | fail) only [go_sem, hmay, h0, hg2]
    refine (hY i A2 p hp hmay hj2).mono ?_
    rintro e A3 ⟨rfl, hj3⟩
    simp (maxSteps := 1000000) (disch := first | omega | (simp only [z1, z2, z3, z4, z5, z6, z7] <;> omega) | fail) only [go_sem, h7]
    refine step _ A3 hj3 ?_ ?_ ?_ ?_
    · simp (maxSteps := 1000000) (disch := first | omega | (simp only [z1, z2, z3, z4, z5, z6, z7] <;> omega) | fail) only [go_sem, h0]
    · simp (maxSteps := 1000000) (disch := first | omega | (simp only [z1, z2, z3, z4, z5, z6, z7] <;> omega) | fail) only [go_sem, h5]
    · simp (maxSteps := 1000000) (disch := first | omega | (simp only [z1, z2, z3, z4, z5, z6, z7] <;> omega) | fail) only [go_sem, h6]
    · simp (maxSteps := 1000000) (disch := first | omega | (simp only [z1, z2, z3, z4, z5, z6, z7] <;> omega) | fail) only [go_sem]
  · have hmay' : mayB p = false := by simpa using hmay
    simp (maxSteps := 1000000) (disch := first | omega | (simp only [z1, z2, z3, z4, z5, z6, z7] <;> omega) | fail) only [go_sem, hmay', h7]
    refine step _ A2 (hS i A2 p hp hmay' hj2) ?_ ?_ ?_ ?_
    · simp (maxSteps := 1000000) (disch := first | omega | (simp only [z1, z2, z3, z4, z5, z6, z7] <;> omega) | fail) only [go_sem, h0]
    · simp (maxSteps := 1000000) (disch := first | omega | (simp only [z1, z2, z3, z4, z5, z6, z7] <;> omega) | fail) only [go_sem, h5]
    · simp (maxSteps := 1000000) (disch := first | omega | (simp only [z1, z2, z3, z4, z5, z6, z7] <;> omega) | fail) only [go_sem, h6]
    · simp (maxSteps := 1000000) (disch := first | omega | (simp only [z1, z2, z3, z4, z5, z6, z7] <;> omega) | fail) only [go_sem]
theorem Try.enters39 : Enters Try.prog 39 := enters_of Try.func39 rfl (by kernel_rfl)
/-- What flush does to the bytes, to what is held, and to how many bits are held. -/
def flushS (least : Nat) (acc : List Int) (hold held : Nat) : List Int × Nat × Nat :=
  if held ≥ least ∧ held > 0 then flushS least (acc ++ [((hold % 256 : Nat) : Int)]) (hold / 256) (held - 8) else (acc, hold, held)
termination_by held
decreasing_by omega
theorem flushS_go {least : Nat} {acc : List Int} {hold held : Nat} (h : held ≥ least ∧ held > 0) : flushS least acc hold held = flushS least (acc ++ [((hold % 256 : Nat) : Int)]) (hold / 256) (held - 8) := by rw [flushS, if_pos h]
theorem flushS_stop {least : Nat} {acc : List Int} {hold held : Nat} (h : ¬ (held ≥ least ∧ held > 0)) : flushS least acc hold held = (acc, hold, held) := by rw [flushS, if_neg h]
/-- What flush holds: the bytes' variable, the held bits, and their number. -/
structure FlS (A : St) (hd bb ho lo : Nat) (s : List Int × Nat × Nat) : Prop where
  held : A.get hd = some (.cells [.int .i64 s.2.2] 3 (some 0))
  hold : A.get ho = some (.cells [.int .u64 s.2.1] 84 (some 0))
  row : ∃ v, A.get bb = some (.cells [v] 40 (some 0)) ∧ Row A 5 1 lo (s.1.map (.int .u8 ·)) s.1.length v
  next : lo ≤ A.next
/-- What else lies below stays. -/
structure Keeps (A A' : St) (hd bb ho lo : Nat) : Prop where
  next : A.next ≤ A'.next
  get : ∀ b, b < lo → b ≠ hd → b ≠ bb → b ≠ ho → A'.get b = A.get b
theorem Keeps.trans {A B C : St} {hd bb ho lo : Nat} (h : Keeps A B hd bb ho lo) (k : Keeps B C hd bb ho lo) : Keeps A C hd bb ho lo := ⟨Nat.le_trans h.next k.next, fun b h1 h2 h3 h4 => (k.get b h1 h2 h3 h4).trans (h.get b h1 h2 h3 h4)⟩
set_option maxHeartbeats 1000000 in
theorem flush_ok (w0 : World) (hd bb ho lo least : Nat) (hh : hd < lo ∧ bb < lo ∧ ho < lo ∧ hd ≠ bb ∧ hd ≠ ho ∧ bb ≠ ho) (hl : 0 < least ∧ least ≤ 8) (A : St) (acc0 : List Int) (hold0 held0 : Nat) (h : FlS A hd bb ho lo (acc0, hold0, held0)) (hho : hold0 < 18446744073709551616) (hB : acc0.length + held0 ≤ 1099511627776) :
    ACalls Try.prog w0 39 #[.int .i64 least, .pointer (some ⟨hd, 0, none⟩), .pointer (some ⟨bb, 0, none⟩), .pointer (some ⟨ho, 0, none⟩)] A fun e A' => e = .returned (.tuple #[]) ∧ FlS A' hd bb ho lo (flushS least acc0 hold0 held0) ∧ Keeps A A' hd bb ho lo := by
  refine call_E Try.enters39 Try.func39 rfl (Nat.le_of_ble_eq_true rfl) fun hw hbd => ?_
  simp (maxSteps := 1000000) (disch := first | omega | (simp only [z1, z2, z3, z4, z5, z6, z7] <;> omega) | fail) only [go_sem, Try.ntmps39, Try.results39]
  refine aw_loop (fun k a A' => ∃ (ρ : Nat → Value) (acc : List Int) (hold : Nat), a = E 22 ρ [] ∧ FlS A' hd bb ho lo (acc, hold, k) ∧ Keeps A A' hd bb ho lo ∧ flushS least acc0 hold0 held0 = flushS least acc hold k ∧ hold < 18446744073709551616 ∧ acc.length + k ≤ 1099511627776 ∧
      ρ 0 = .int .i64 least ∧ ρ 1 = .pointer (some ⟨hd, 0, none⟩) ∧ ρ 2 = .pointer (some ⟨bb, 0, none⟩) ∧ ρ 3 = .pointer (some ⟨ho, 0, none⟩)) held0
    ⟨_, acc0, hold0, rfl, h, ⟨Nat.le_refl _, fun _ _ _ _ _ => rfl⟩, rfl, hho, hB, rfl, rfl, rfl, rfl⟩ ?_
  rintro held a A' ⟨ρ, acc, hold, rfl, ⟨f1, f2, ⟨v, f3, f5⟩, f4⟩, hk, hfl, hho, hB, g0, g1, g2, g3⟩
  simp only at f1 f2 f3 f5
  refine aw_of ?_
  by_cases hgo : held ≥ least ∧ held > 0
  rotate_left
  · have hlt : ¬ least ≤ held := by omega
    simp (maxSteps := 1000000) (disch := first | omega | (simp only [z1, z2, z3, z4, z5, z6, z7] <;> omega) | fail) only [go_sem, g0, g1, f1, Try.results39]
    exact gc_here ⟨rfl, by rw [hfl, flushS_stop hgo]; exact ⟨f1, f2, ⟨v, f3, f5⟩, f4⟩, hk⟩
  rw [flushS_go hgo] at hfl
  have hu8 : IntKind.wrap .u8 (hold : Int) = ((hold % 256 : Nat) : Int) := by simp only [IntKind.wrap, IntKind.signed, IntKind.bits, Bool.false_and, Bool.false_eq_true, if_false]; omega
  have hsh : ishr .u64 (hold : Int) 8 = ((hold / 256 : Nat) : Int) := by
    rw [show (8 : Int) = ((8 : Nat) : Int) from rfl, ishr_eq .u64 _ 8 (by decide), Int.natCast_ediv]; rfl
  have hmx : (if (held : Int) - 8 < 0 then (0 : Int) else (held : Int) - 8) = ((held - 8 : Nat) : Int) := by split <;> omega
  obtain ⟨hh1, hh2, hh3, hh4, hh5, hh6⟩ := hh
  simp (maxSteps := 1000000) (disch := first | omega | (simp only [z1, z2, z3, z4, z5, z6, z7] <;> omega) | fail) only [go_sem, g0, g1, g2, g3, f1, f2, f3, hu8]
  obtain ⟨v', A2, hap, hr2, hn2, _, hf2⟩ := row_push (sp := none) (c := 1) (xs := [.int .u8 ((hold % 256 : Nat) : Int)]) Try.el40 Try.underlying40 (by intro k; exact TypeDesc.noConfusion) Try.sz5 Try.byt5 Try.zero5 rfl f5 f4 (by omega) (by omega) rfl rfl
  have hf3 : ∀ b, b < lo → A2.get b = A'.get b := fun b hb => hf2 b (by omega) (fun hrb => by
    rcases f5.2 with ⟨_, rfl⟩ | ⟨c, sp, rfl, _, hc, _⟩
    · cases hrb
    · cases hrb; omega)
  have hb2 := (hf3 bb hh2).trans f3
  have hb1 := (hf3 hd hh1).trans f1
  have hb3 := (hf3 ho hh3).trans f2
  rw [hap]
  simp (maxSteps := 1000000) (disch := first | omega | (simp only [z1, z2, z3, z4, z5, z6, z7] <;> omega) | fail) only [go_sem, g2, hb2]
  rw [storeC_val (by rcases hr2.2 with ⟨_, rfl⟩ | ⟨_, _, rfl, _⟩ <;> rfl)]
  simp (maxSteps := 1000000) (disch := first | omega | (simp only [z1, z2, z3, z4, z5, z6, z7] <;> omega) | fail) only [go_sem, g1, g3, hb3, hb1, hsh, hmx]
  refine ⟨held - 8, by omega, _, acc ++ [((hold % 256 : Nat) : Int)], hold / 256, rfl, ⟨?_, ?_, ⟨v', ?_, ?_⟩, by simp (disch := first | omega | (simp only [z1, z2, z3, z4, z5, z6, z7] <;> omega) | fail) only [St.get_upd, St.get_alloc, St.next_alloc, St.next_upd, ↓reduceIte, natF_lt, natF_gt, natF_ne, Nat.add_assoc, Nat.reduceAdd, Nat.reduceEqDiff, Nat.add_left_cancel_iff]; omega⟩, hk.trans ⟨by simp (disch := first | omega | (simp only [z1, z2, z3, z4, z5, z6, z7] <;> omega) | fail) only [St.get_upd, St.get_alloc, St.next_alloc, St.next_upd, ↓reduceIte, natF_lt, natF_gt, natF_ne, Nat.add_assoc, Nat.reduceAdd, Nat.reduceEqDiff, Nat.add_left_cancel_iff]; omega, fun b q1 q2 q3 q4 => ?_⟩, hfl, by omega, ?_, ?_, ?_, ?_, ?_⟩
  · simp (disch := first | omega | (simp only [z1, z2, z3, z4, z5, z6, z7] <;> omega) | fail) only [St.get_upd, St.get_alloc, St.next_alloc, St.next_upd, ↓reduceIte, natF_lt, natF_gt, natF_ne, Nat.add_assoc, Nat.reduceAdd, Nat.reduceEqDiff, Nat.add_left_cancel_iff]
  · simp (disch := first | omega | (simp only [z1, z2, z3, z4, z5, z6, z7] <;> omega) | fail) only [St.get_upd, St.get_alloc, St.next_alloc, St.next_upd, ↓reduceIte, natF_lt, natF_gt, natF_ne, Nat.add_assoc, Nat.reduceAdd, Nat.reduceEqDiff, Nat.add_left_cancel_iff]
  · simp (disch := first | omega | (simp only [z1, z2, z3, z4, z5, z6, z7] <;> omega) | fail) only [St.get_upd, St.get_alloc, St.next_alloc, St.next_upd, ↓reduceIte, natF_lt, natF_gt, natF_ne, Nat.add_assoc, Nat.reduceAdd, Nat.reduceEqDiff, Nat.add_left_cancel_iff]
  · refine Row.keep (A := A2) (lo := lo) ?_ (by simp (disch := first | omega | (simp only [z1, z2, z3, z4, z5, z6, z7] <;> omega) | fail) only [St.get_upd, St.get_alloc, St.next_alloc, St.next_upd, ↓reduceIte, natF_lt, natF_gt, natF_ne, Nat.add_assoc, Nat.reduceAdd, Nat.reduceEqDiff, Nat.add_left_cancel_iff]; omega) (fun b hb q1 q2 => ?_) (Nat.le_refl _)
    · rw [List.map_append, List.length_append]; exact hr2
    · simp (disch := first | omega | (simp only [z1, z2, z3, z4, z5, z6, z7] <;> omega) | fail) only [St.get_upd, St.get_alloc, St.next_alloc, St.next_upd, ↓reduceIte, natF_lt, natF_gt, natF_ne, Nat.add_assoc, Nat.reduceAdd, Nat.reduceEqDiff, Nat.add_left_cancel_iff]
  · simp (disch := first | omega | (simp only [z1, z2, z3, z4, z5, z6, z7] <;> omega) | fail) only [St.get_upd, St.get_alloc, St.next_alloc, St.next_upd, ↓reduceIte, natF_lt, natF_gt, natF_ne, Nat.add_assoc, Nat.reduceAdd, Nat.reduceEqDiff, Nat.add_left_cancel_iff]
    exact hf3 b q1
  · simp; omega
  · simp (maxSteps := 1000000) (disch := first | omega | (simp only [z1, z2, z3, z4, z5, z6, z7] <;> omega) | fail) only [go_sem, g0]
  · simp (maxSteps := 1000000) (disch := first | omega | (simp only [z1, z2, z3, z4, z5, z6, z7] <;> omega) | fail) only [go_sem, g1]
  · simp (maxSteps := 1000000) (disch := first | omega | (simp only [z1, z2, z3, z4, z5, z6, z7] <;> omega) | fail) only [go_sem, g2]
  · simp (maxSteps := 1000000) (disch := first | omega | (simp only [z1, z2, z3, z4, z5, z6, z7] <;> omega) | fail) only [go_sem, g3]
/-- A number's bytes, the lowest first. -/
def le (k V : Nat) : List Int := (List.range k).map fun i => ((V / 256 ^ i % 256 : Nat) : Int)
theorem le_length (k V : Nat) : (le k V).length = k := by simp [le]
theorem le_succ (k V : Nat) : le (k + 1) V = le k V ++ [((V / 256 ^ k % 256 : Nat) : Int)] := by simp [le, List.range_succ]
theorem pow256 (k : Nat) : (256 : Nat) ^ k = 2 ^ (8 * k) := by rw [Nat.pow_mul]
theorem div_add_pow (V n W i : Nat) (h : 8 * i ≤ W) : (V + n * 2 ^ W) / 256 ^ i = V / 256 ^ i + n * 2 ^ (W - 8 * i) := by
  obtain ⟨d, rfl⟩ := Nat.exists_eq_add_of_le h
  have hp : 0 < 2 ^ (8 * i) := Nat.two_pow_pos _
  rw [pow256, Nat.pow_add, Nat.add_sub_cancel_left, show n * (2 ^ (8 * i) * 2 ^ d) = (n * 2 ^ d) * 2 ^ (8 * i) by rw [Nat.mul_assoc, Nat.mul_comm (2 ^ d)], Nat.add_mul_div_right _ _ hp]
theorem le_add (k V n W : Nat) (h : 8 * k ≤ W) : le k (V + n * 2 ^ W) = le k V := by
  unfold le
  apply List.map_congr_left
  intro i hi
  have hi' : i < k := by simpa using hi
  rw [div_add_pow V n W i (by omega), show W - 8 * i = 8 + (W - 8 * i - 8) by omega, Nat.pow_add, show n * (2 ^ 8 * 2 ^ (W - 8 * i - 8)) = 256 * (n * 2 ^ (W - 8 * i - 8)) by rw [show (2 : Nat) ^ 8 = 256 from rfl, ← Nat.mul_assoc, Nat.mul_comm n 256, Nat.mul_assoc], Nat.add_mul_mod_self_left]
structure Inv (acc : List Int) (hold held V W : Nat) : Prop where
  row : acc = le acc.length V
  rest : hold = V / 256 ^ acc.length
  many : 8 * acc.length + held = W
theorem Inv.step {acc : List Int} {hold held V W : Nat} (h : Inv acc hold held V W) (h8 : 8 ≤ held) : Inv (acc ++ [((hold % 256 : Nat) : Int)]) (hold / 256) (held - 8) V W := by
  have h1 := h.row; have h2 := h.rest; have h3 := h.many
  refine ⟨?_, ?_, ?_⟩
  · rw [List.length_append, List.length_singleton, le_succ, ← h1, ← h2]
  · rw [List.length_append, List.length_singleton, Nat.pow_succ, ← Nat.div_div_eq_div_mul, ← h2]
  · rw [List.length_append, List.length_singleton]; omega
theorem flushS_8 : ∀ (held : Nat) (acc : List Int) (hold V W : Nat), Inv acc hold held V W → Inv (flushS 8 acc hold held).1 (flushS 8 acc hold held).2.1 (flushS 8 acc hold held).2.2 V W ∧ (flushS 8 acc hold held).2.2 < 8 := by
  intro held
  induction held using Nat.strongRecOn with
  | ind held ih =>
    intro acc hold V W h
    by_cases hg : held ≥ 8 ∧ held > 0
    · rw [flushS_go hg]
      exact ih (held - 8) (by omega) _ _ _ _ (h.step hg.1)
    · rw [flushS_stop hg]
      exact ⟨h, by show held < 8; omega⟩
theorem flushS_1 {acc : List Int} {hold held V W : Nat} (h : Inv acc hold held V W) (h8 : held < 8) : (flushS 1 acc hold held).1 = le ((W + 7) / 8) V := by
  have h1 := h.row; have h2 := h.rest; have h3 := h.many
  by_cases hg : held ≥ 1 ∧ held > 0
  · rw [flushS_go hg, flushS_stop (by omega)]
    show acc ++ _ = _
    rw [show (W + 7) / 8 = acc.length + 1 by omega, le_succ, ← h1, ← h2]
  · rw [flushS_stop hg]
    show acc = _
    rw [show (W + 7) / 8 = acc.length by omega, ← h1]
/-- What right pieces are packed to: a number, and how many bits it has. -/
def stP (s : Nat × Nat) (p : Int × Int) : Nat × Nat := if mayB p then (s.1 + p.1.toNat * 2 ^ s.2, s.2 + p.2.toNat) else s
def packW (l : List (Int × Int)) : Nat × Nat := l.foldl stP (0, 0)
theorem packW_snoc (l : List (Int × Int)) (i : Nat) (p : Int × Int) (h : l[i]? = some p) : packW (l.take (i + 1)) = stP (packW (l.take i)) p := by
  unfold packW
  rw [List.take_add_one, h, List.foldl_append]; rfl
theorem stP_le (s : Nat × Nat) (p : Int × Int) : (stP s p).2 ≤ s.2 + 24 := by
  unfold stP mayB
  split
  · rename_i h; simp at h; simp; omega
  · omega
theorem packW_le (l : List (Int × Int)) : ∀ i, (packW (l.take i)).2 ≤ 24 * i
  | 0 => by simp [packW]
  | i + 1 => by
    rcases h : l[i]? with _ | p
    · have := packW_le l i
      rw [List.getElem?_eq_none_iff] at h
      rw [List.take_of_length_le (by omega)] at this ⊢
      omega
    · rw [packW_snoc l i p h]
      have := packW_le l i
      have := stP_le (packW (l.take i)) p
      omega
theorem mayB_iff {p : Int × Int} (h : mayB p = true) : 0 ≤ p.2 ∧ p.2 ≤ 24 ∧ p.1 < 2 ^ p.2.toNat := by simpa [mayB] using h
def packOk (l : List (Int × Int)) : Bool := l.all mayB
def packR (l : List (Int × Int)) : Value := if packOk l then .tuple #[.string (strOfNums (le (((packW l).2 + 7) / 8) (packW l).1)), .int .i64 0] else .tuple #[.string .empty, .int .i64 1]
theorem FlS.over {A A' : St} {hd bb ho lo : Nat} {s : List Int × Nat × Nat} (h : FlS A hd bb ho lo s) (hh : hd < lo ∧ bb < lo ∧ ho < lo) (o : Over A A') : FlS A' hd bb ho lo s := by
  obtain ⟨h1, h2, ⟨v, h3, h4⟩, h5⟩ := h
  exact ⟨by rw [o.get _ (by omega)]; exact h1, by rw [o.get _ (by omega)]; exact h2, ⟨v, by rw [o.get _ (by omega)]; exact h3, h4.over o⟩, by have := o.next; omega⟩
theorem count_snoc (l : List (Int × Int)) (i : Nat) (p : Int × Int) (h : l[i]? = some p) : (l.take (i + 1)).countP mayB = (l.take i).countP mayB + if mayB p then 1 else 0 := by
  rw [List.take_add_one, h, List.countP_append]
  simp [List.countP_cons]
theorem Try.enters20 : Enters Try.prog 20 := enters_of Try.func20 rfl (by kernel_rfl)
theorem packW_lt (l : List (Int × Int)) (hl : ∀ p ∈ l, PcOk p) : ∀ i, (packW (l.take i)).1 < 2 ^ (packW (l.take i)).2
  | 0 => by simp [packW]
  | i + 1 => by
    have ih := packW_lt l hl i
    rcases h : l[i]? with _ | p
    · rw [List.getElem?_eq_none_iff] at h
      rw [List.take_of_length_le (by omega)] at ih ⊢
      exact ih
    · rw [packW_snoc l i p h]
      unfold stP
      split
      · rename_i hm
        obtain ⟨h1, h2, h3⟩ := mayB_iff hm
        have h0 := (hl p (List.mem_of_getElem? h)).1
        have h4 : p.1.toNat < 2 ^ p.2.toNat := by
          have : ((p.1.toNat : Nat) : Int) < ((2 ^ p.2.toNat : Nat) : Int) := by rw [Int.toNat_of_nonneg h0, Int.natCast_pow]; exact h3
          exact Int.ofNat_lt.1 this
        show _ + _ < 2 ^ (_ + _)
        rw [Nat.pow_add]
        generalize (packW (l.take i)).1 = V at *
        generalize 2 ^ (packW (l.take i)).2 = Y at *
        have : (p.1.toNat + 1) * Y ≤ 2 ^ p.2.toNat * Y := Nat.mul_le_mul_right _ h4
        rw [Nat.add_mul, Nat.one_mul] at this
        rw [Nat.mul_comm Y]
        omega
      · exact ih
theorem Inv.lt {acc : List Int} {hold held V W : Nat} (h : Inv acc hold held V W) (hv : V < 2 ^ W) : hold < 2 ^ held := by
  rw [h.rest, pow256]
  apply Nat.div_lt_of_lt_mul
  rw [← Nat.pow_add, h.many]; exact hv
theorem Inv.add {acc : List Int} {hold held V W n wd : Nat} (h : Inv acc hold held V W) : Inv acc (hold + n * 2 ^ held) (held + wd) (V + n * 2 ^ W) (W + wd) := by
  have hm := h.many
  refine ⟨?_, ?_, by omega⟩
  · rw [le_add _ _ _ _ (by omega)]; exact h.row
  · rw [div_add_pow _ _ _ _ (by omega), ← h.rest, show W - 8 * acc.length = held by omega]
theorem FlS.upd {A : St} {hd bb ho lo c : Nat} {s : List Int × Nat × Nat} (h : FlS A hd bb ho lo s) (B : Option Blk) (hc : c < lo ∧ c ≠ hd ∧ c ≠ bb ∧ c ≠ ho) : FlS (A.upd c B) hd bb ho lo s := by
  obtain ⟨h1, h2, ⟨v, h3, h4⟩, h5⟩ := h
  exact ⟨(get_upd_old (by omega)).trans h1, (get_upd_old (by omega)).trans h2, ⟨v, (get_upd_old (by omega)).trans h3, h4.keep (Nat.le_refl _) (fun b _ q _ => get_upd_old (by omega)) (Nat.le_refl _)⟩, h5⟩
structure PackJ (A : St) (l : List (Int × Int)) (v : Value) (T : Blk) (i : Nat) (A' : St) : Prop where
  over : Over A A'
  cv : A'.get (A.next + 5) = some (.cells [v] 46 (some 0))
  dfr : A'.get (A.next + 6) = some (.dfr false)
  loop : A'.get (A.next + 7) = some T
  many : A'.get (A.next + 3) = some (.cells [.int .i64 ((l.take i).countP mayB : Nat)] 3 (some 0))
  fl : A'.get (A.next + 4) = some (.cells [.func (.func 39) #[] #[.pointer (some ⟨A.next + 2, 0, none⟩), .pointer (some ⟨A.next, 0, none⟩), .pointer (some ⟨A.next + 1, 0, none⟩)]] 86 (some 0))
  st : ∃ acc hold held, FlS A' (A.next + 2) A.next (A.next + 1) (A.next + 8) (acc, hold, held) ∧ Inv acc hold held (packW (l.take i)).1 (packW (l.take i)).2 ∧ held < 8
theorem PackJ.lo {A A' : St} {l : List (Int × Int)} {v : Value} {T : Blk} {i : Nat} (h : PackJ A l v T i A') : A.next + 8 ≤ A'.next := by
  obtain ⟨_, _, _, h, _⟩ := h.st; exact h.next
theorem PackJ.mono {A A' A2 : St} {l : List (Int × Int)} {v : Value} {T : Blk} {i : Nat} (h : PackJ A l v T i A') (o : Over A' A2) : PackJ A l v T i A2 := by
  have hlo := h.lo
  obtain ⟨h1, h2, h3, h4, h5, h6, acc, hold, held, h7, h8⟩ := h
  exact ⟨⟨Nat.le_trans h1.next o.next, fun b hb => (o.get b (by omega)).trans (h1.get b hb)⟩, (o.get _ (by omega)).trans h2, (o.get _ (by omega)).trans h3, (o.get _ (by omega)).trans h4, (o.get _ (by omega)).trans h5, (o.get _ (by omega)).trans h6, acc, hold, held, h7.over ⟨by omega, by omega, by omega⟩ o, h8⟩
theorem u64_shl (n k : Nat) (hk : k < 8) (hn : n < 16777216) : ishl .u64 (n : Int) (k : Int) = ((n * 2 ^ k : Nat) : Int) := by
  have hp : 2 ^ k ≤ 2 ^ 7 := Nat.pow_le_pow_right (by decide) (by omega)
  have h : n * 2 ^ k ≤ 16777216 * 2 ^ 7 := Nat.mul_le_mul (by omega) hp
  have e : ((n * 2 ^ k : Nat) : Int) = (n : Int) * 2 ^ k := by rw [Int.natCast_mul, Int.natCast_pow]; rfl
  rw [ishl_eq .u64 rfl (n : Int) k (by simp only [IntKind.bits]; omega) (by omega) (by rw [← e]; simp only [IntKind.bits]; omega), e]
theorem u64_or (h n k : Nat) (hk : k < 8) (hn : n < 16777216) (hh : h < 2 ^ k) : ibits .or .u64 (h : Int) ((n * 2 ^ k : Nat) : Int) = ((h + n * 2 ^ k : Nat) : Int) := by
  have hp : 2 ^ k ≤ 2 ^ 7 := Nat.pow_le_pow_right (by decide) (by omega)
  have h1 : n * 2 ^ k ≤ 16777216 * 2 ^ 7 := Nat.mul_le_mul (by omega) hp
  have e : ((n * 2 ^ k : Nat) : Int) = (n : Int) * 2 ^ k := by rw [Int.natCast_mul, Int.natCast_pow]; rfl
  have hh' : (h : Int) < 2 ^ k := by rw [show ((2 : Int) ^ k) = ((2 ^ k : Nat) : Int) by rw [Int.natCast_pow]; rfl]; exact Int.ofNat_lt.2 hh
  rw [e, or_add .u64 rfl (h : Int) (n : Int) k (by omega) hh' (by omega) (by rw [← e]; simp only [IntKind.bits]; omega), Int.natCast_add, e]
theorem bnd_packR (n : Nat) (l : List (Int × Int)) : Bnd n (packR l) := by
  unfold packR; split <;> simp only [bnd_tuple, bndL_cons, bndL_nil, bnd_int, bnd_string, and_self]
set_option maxHeartbeats 4000000 in
theorem pack_ok (w0 : World) (A : St) (v : Value) (l : List (Int × Int)) (hl : ∀ p ∈ l, PcOk p) (hlen : l.length ≤ 1073741824) (hv : PcsAt A v l) : ACalls Try.prog w0 20 #[v] A (fin (packR l) A) := by
  refine call_E Try.enters20 Try.func20 rfl (Nat.le_of_ble_eq_true rfl) fun hw hbd => ?_
  simp (maxSteps := 1000000) (disch := first | omega | (simp only [z1, z2, z3, z4, z5, z6, z7] <;> omega) | fail) only [go_sem, Try.ntmps20, Try.results20]
  refine call1 (right_ok w0 _ _) ?_
  have hc1 : v.cells.toList = [v] := hv.cells1
  rw [hc1]
  simp (maxSteps := 1000000) (disch := first | omega | (simp only [z1, z2, z3, z4, z5, z6, z7] <;> omega) | fail) only [go_sem]
  refine aw_rangeFunc_E (by simp (maxSteps := 1000000) (disch := first | omega | (simp only [z1, z2, z3, z4, z5, z6, z7] <;> omega) | fail) only [go_sem]; rfl) rfl ?_
  simp (maxSteps := 1000000) (disch := first | omega | (simp only [z1, z2, z3, z4, z5, z6, z7] <;> omega) | fail) only [go_sem]
  refine gen_loop fun ρ0 asg body hρ hasg hbody => ?_
  have hb2 : ρ0 5 = .pointer (some ⟨A.next + 1, 0, none⟩) ∧ ρ0 6 = .pointer (some ⟨A.next + 2, 0, none⟩) ∧ ρ0 7 = .pointer (some ⟨A.next + 3, 0, none⟩) ∧ ρ0 8 = .pointer (some ⟨A.next + 4, 0, none⟩) ∧ ρ0 4 = .pointer (some ⟨A.next, 0, none⟩) ∧ ρ0 0 = v := by
    subst hρ; refine ⟨?_, ?_, ?_, ?_, ?_, ?_⟩ <;> (first | (simp (maxSteps := 1000000) (disch := first | omega | (simp only [z1, z2, z3, z4, z5, z6, z7] <;> omega) | fail) only [go_sem]; rfl) | (simp (maxSteps := 1000000) (disch := first | omega | (simp only [z1, z2, z3, z4, z5, z6, z7] <;> omega) | fail) only [go_sem]))
  obtain ⟨r5, r6, r7, r8, r4, r0⟩ := hb2
  clear hρ
  refine (right1_ok w0 l hl (by omega) v (PackJ A l v (.loop .ready none (tm 37 ρ0) #[13] asg body)) (A.next + 7) (A.next + 5) ?_ ?_ ?_ ?_ _ ?_).mono ?_
  · intro i A' hj
    exact ⟨hv.over hj.over, _, hj.cv⟩
  · intro i A' A2 hj ho
    exact hj.mono ho
  · rintro i A1 ⟨n, wd⟩ hp hmay hj
    have hpk := hl _ (List.mem_of_getElem? hp)
    obtain ⟨hm1, hm2, hm3⟩ := mayB_iff hmay
    obtain ⟨hpk1, hpk2, _, _⟩ := hpk
    simp only at hm1 hm2 hm3 hpk1 hpk2
    obtain ⟨n, rfl⟩ := Int.eq_ofNat_of_zero_le hpk1
    obtain ⟨wd, rfl⟩ := Int.eq_ofNat_of_zero_le hm1
    have hn24 : n < 16777216 := by
      have h1 : n < 2 ^ wd := by simp only [Int.toNat_natCast] at hm3; rw [show ((2 : Int) ^ wd) = ((2 ^ wd : Nat) : Int) by rw [Int.natCast_pow]; rfl] at hm3; exact Int.ofNat_lt.1 hm3
      have h2 : 2 ^ wd ≤ 2 ^ 24 := Nat.pow_le_pow_right (by decide) (by omega)
      omega
    have hi : i < l.length := (List.getElem?_eq_some_iff.1 hp).1
    have hlo := hj.lo
    unfold pcV
    refine ayield_E (upd ρ0 13 (.agg #[.int .u32 n, .int .i64 wd])) hj.loop rfl (setArgs_1 ..) ?_
    conv => arg 5; rw [hasg]
    simp (maxSteps := 1000000) (disch := first | omega | (simp only [z1, z2, z3, z4, z5, z6, z7] <;> omega) | fail) only [go_sem]
    refine asgQ_of (by simp (disch := first | omega | (simp only [z1, z2, z3, z4, z5, z6, z7] <;> omega) | fail) only [St.get_upd, St.get_alloc, St.next_alloc, St.next_upd, ↓reduceIte, natF_lt, natF_gt, natF_ne, Nat.add_assoc, Nat.reduceAdd, Nat.reduceEqDiff, Nat.add_left_cancel_iff]; exact hj.loop) ?_
    obtain ⟨A2, hA2⟩ : ∃ A2, A2 = (((A1.alloc (.cells [.int .u32 0, .int .i64 0] 51 (some 0))).upd A1.next (some (.cells [.int .u32 n, .int .i64 wd] 51 (some 0)))).upd (A.next + 7) (some (.loop .busy none (tm 37 ρ0) #[13] asg body))) := ⟨_, rfl⟩
    rw [← hA2]
    refine aw_of ?_
    conv => arg 5; rw [hbody]
    have hn2 : A2.next = A1.next + 1 := by rw [hA2]; rfl
    have hg2 : ∀ b, b < A1.next → b ≠ A.next + 7 → A2.get b = A1.get b := fun b hb hb2 => by
      rw [hA2]
      simp (disch := first | omega | (simp only [z1, z2, z3, z4, z5, z6, z7] <;> omega) | fail) only [St.get_upd, St.get_alloc, St.next_alloc, St.next_upd, ↓reduceIte, natF_lt, natF_gt, natF_ne, Nat.add_assoc, Nat.reduceAdd, Nat.reduceEqDiff, Nat.add_left_cancel_iff]
    have hl2 : A2.get (A.next + 7) = some (.loop .busy none (tm 37 ρ0) #[13] asg body) := by rw [hA2]; exact get_upd_same ..
    have hp2 : A2.get A1.next = some (.cells [.int .u32 n, .int .i64 wd] 51 (some 0)) := by
      rw [hA2]
      simp (disch := first | omega | (simp only [z1, z2, z3, z4, z5, z6, z7] <;> omega) | fail) only [St.get_upd, St.get_alloc, St.next_alloc, St.next_upd, ↓reduceIte, natF_lt, natF_gt, natF_ne, Nat.add_assoc, Nat.reduceAdd, Nat.reduceEqDiff, Nat.add_left_cancel_iff]
    obtain ⟨acc, hold, held, ⟨f1, f2, ⟨rv, f3, f4⟩, f5⟩, hinv, hheld⟩ := hj.st
    simp only at f1 f2 f3 f4
    have hV := hinv.lt (packW_lt l hl i)
    have hW := packW_le l i
    have hmn := hinv.many
    have g1 : A2.get (A.next + 2) = _ := (hg2 _ (by omega) (by omega)).trans f1
    have g2 : A2.get (A.next + 1) = _ := (hg2 _ (by omega) (by omega)).trans f2
    have g3 : A2.get A.next = _ := (hg2 _ (by omega) (by omega)).trans f3
    have g6 : A2.get (A.next + 3) = _ := (hg2 _ (by omega) (by omega)).trans hj.many
    have g7 : A2.get (A.next + 4) = _ := (hg2 _ (by omega) (by omega)).trans hj.fl
    have hr2 : Row A2 5 1 (A.next + 8) (acc.map (.int .u8 ·)) acc.length rv := f4.keep (by omega) (fun b _ q1 q2 => hg2 b q2 (by omega)) (Nat.le_refl _)
    simp (maxSteps := 1000000) (disch := first | omega | (simp only [z1, z2, z3, z4, z5, z6, z7] <;> omega) | fail) only [go_sem, r5, r6]
    refine aw_draw2 [⟨false, [], [0]⟩, ⟨false, [], [0]⟩, ⟨false, [1], [0]⟩, ⟨false, [1, 2], [0]⟩, ⟨false, [], [0]⟩, ⟨false, [1, 2, 3, 4], [0]⟩, ⟨false, [0, 1, 2, 3, 4, 5], [0]⟩, ⟨true, [0, 1, 2, 3, 4, 5, 6], [0]⟩] [A2, A2.upd (A.next + 1) (some (.cells [.int .u64 ((hold + n * 2 ^ held : Nat) : Int)] 84 (some 0)))] 1 (by kernel_rfl) (by kernel_rfl) rfl ?_
    simp (maxSteps := 1000000) (disch := first | omega | (simp only [z1, z2, z3, z4, z5, z6, z7] <;> omega) | fail) only [go_sem, r5, r6, g1, g2, hp2, u64_shl n held hheld hn24, u64_or hold n held hheld hn24 hV]
    have e : (held : Int) + (wd : Int) = ((held + wd : Nat) : Int) := by omega
    simp (maxSteps := 1000000) (disch := first | omega | (simp only [z1, z2, z3, z4, z5, z6, z7] <;> omega) | fail) only [go_sem, r8, g7, e]
    have hp8 : 2 ^ held ≤ 2 ^ 7 := Nat.pow_le_pow_right (by decide) (by omega)
    have hp9 : n * 2 ^ held ≤ 16777216 * 2 ^ 7 := Nat.mul_le_mul (by omega) hp8
    refine (flush_ok w0 (A.next + 2) A.next (A.next + 1) (A.next + 8) 8 ⟨by omega, by omega, by omega, by omega, by omega, by omega⟩ (by omega) _ acc (hold + n * 2 ^ held) (held + wd) ⟨?_, ?_, ⟨rv, ?_, ?_⟩, ?_⟩ (by omega) (by omega)).mono ?_
    · simp (disch := first | omega | (simp only [z1, z2, z3, z4, z5, z6, z7] <;> omega) | fail) only [St.get_upd, St.get_alloc, St.next_alloc, St.next_upd, ↓reduceIte, natF_lt, natF_gt, natF_ne, Nat.add_assoc, Nat.reduceAdd, Nat.reduceEqDiff, Nat.add_left_cancel_iff]
    · simp (disch := first | omega | (simp only [z1, z2, z3, z4, z5, z6, z7] <;> omega) | fail) only [St.get_upd, St.get_alloc, St.next_alloc, St.next_upd, ↓reduceIte, natF_lt, natF_gt, natF_ne, Nat.add_assoc, Nat.reduceAdd, Nat.reduceEqDiff, Nat.add_left_cancel_iff]
    · simp (disch := first | omega | (simp only [z1, z2, z3, z4, z5, z6, z7] <;> omega) | fail) only [St.get_upd, St.get_alloc, St.next_alloc, St.next_upd, ↓reduceIte, natF_lt, natF_gt, natF_ne, Nat.add_assoc, Nat.reduceAdd, Nat.reduceEqDiff, Nat.add_left_cancel_iff]
      exact g3
    · exact hr2.keep (Nat.le_refl _) (fun b _ q _ => by simp (disch := first | omega | (simp only [z1, z2, z3, z4, z5, z6, z7] <;> omega) | fail) only [St.get_upd, St.get_alloc, St.next_alloc, St.next_upd, ↓reduceIte, natF_lt, natF_gt, natF_ne, Nat.add_assoc, Nat.reduceAdd, Nat.reduceEqDiff, Nat.add_left_cancel_iff]) (Nat.le_refl _)
    · simp (disch := first | omega | (simp only [z1, z2, z3, z4, z5, z6, z7] <;> omega) | fail) only [St.get_upd, St.get_alloc, St.next_alloc, St.next_upd, ↓reduceIte, natF_lt, natF_gt, natF_ne, Nat.add_assoc, Nat.reduceAdd, Nat.reduceEqDiff, Nat.add_left_cancel_iff]
      omega
    rintro e2 A4 ⟨rfl, hF, hK⟩
    have ho4 : ∀ b, b < A.next + 8 → b ≠ A.next + 2 → b ≠ A.next → b ≠ A.next + 1 → A4.get b = A2.get b := fun b q1 q2 q3 q4 => by
      rw [hK.get b q1 q2 q3 q4]
      simp (disch := first | omega | (simp only [z1, z2, z3, z4, z5, z6, z7] <;> omega) | fail) only [St.get_upd, St.get_alloc, St.next_alloc, St.next_upd, ↓reduceIte, natF_lt, natF_gt, natF_ne, Nat.add_assoc, Nat.reduceAdd, Nat.reduceEqDiff, Nat.add_left_cancel_iff]
    have hn4 := hK.next
    simp only [St.next_upd] at hn4
    have m4 := (ho4 (A.next + 3) (by omega) (by omega) (by omega) (by omega)).trans g6
    have l4 := (ho4 (A.next + 7) (by omega) (by omega) (by omega) (by omega)).trans hl2
    have hcle : (l.take i).countP mayB ≤ i := Nat.le_trans List.countP_le_length (List.length_take_le _ _)
    simp (maxSteps := 1000000) (disch := first | omega | (simp only [z1, z2, z3, z4, z5, z6, z7] <;> omega) | fail) only [go_sem, r7, m4]
    refine roundQ_normal (pe := none) (by simp (disch := first | omega | (simp only [z1, z2, z3, z4, z5, z6, z7] <;> omega) | fail) only [St.get_upd, St.get_alloc, St.next_alloc, St.next_upd, ↓reduceIte, natF_lt, natF_gt, natF_ne, Nat.add_assoc, Nat.reduceAdd, Nat.reduceEqDiff, Nat.add_left_cancel_iff]; exact l4) ⟨rfl, ?_⟩
    obtain ⟨hI8, hlt8⟩ := flushS_8 _ _ _ _ _ (hinv.add (n := n) (wd := wd))
    refine ⟨⟨by simp (disch := first | omega | (simp only [z1, z2, z3, z4, z5, z6, z7] <;> omega) | fail) only [St.get_upd, St.get_alloc, St.next_alloc, St.next_upd, ↓reduceIte, natF_lt, natF_gt, natF_ne, Nat.add_assoc, Nat.reduceAdd, Nat.reduceEqDiff, Nat.add_left_cancel_iff]; have := hj.over.next; omega, fun b hb => ?_⟩, ?_, ?_, ?_, ?_, ?_, _, _, _, (hF.upd _ ⟨by omega, by omega, by omega, by omega⟩).upd _ ⟨by omega, by omega, by omega, by omega⟩, ?_, hlt8⟩
    · simp (disch := first | omega | (simp only [z1, z2, z3, z4, z5, z6, z7] <;> omega) | fail) only [St.get_upd, St.get_alloc, St.next_alloc, St.next_upd, ↓reduceIte, natF_lt, natF_gt, natF_ne, Nat.add_assoc, Nat.reduceAdd, Nat.reduceEqDiff, Nat.add_left_cancel_iff]
      rw [ho4 _ (by omega) (by omega) (by omega) (by omega), hg2 _ (by have := hj.over.next; omega) (by omega)]; exact hj.over.get b hb
    · simp (disch := first | omega | (simp only [z1, z2, z3, z4, z5, z6, z7] <;> omega) | fail) only [St.get_upd, St.get_alloc, St.next_alloc, St.next_upd, ↓reduceIte, natF_lt, natF_gt, natF_ne, Nat.add_assoc, Nat.reduceAdd, Nat.reduceEqDiff, Nat.add_left_cancel_iff]
      rw [ho4 _ (by omega) (by omega) (by omega) (by omega), hg2 _ (by omega) (by omega)]; exact hj.cv
    · simp (disch := first | omega | (simp only [z1, z2, z3, z4, z5, z6, z7] <;> omega) | fail) only [St.get_upd, St.get_alloc, St.next_alloc, St.next_upd, ↓reduceIte, natF_lt, natF_gt, natF_ne, Nat.add_assoc, Nat.reduceAdd, Nat.reduceEqDiff, Nat.add_left_cancel_iff]
      rw [ho4 _ (by omega) (by omega) (by omega) (by omega), hg2 _ (by omega) (by omega)]; exact hj.dfr
    · simp (disch := first | omega | (simp only [z1, z2, z3, z4, z5, z6, z7] <;> omega) | fail) only [St.get_upd, St.get_alloc, St.next_alloc, St.next_upd, ↓reduceIte, natF_lt, natF_gt, natF_ne, Nat.add_assoc, Nat.reduceAdd, Nat.reduceEqDiff, Nat.add_left_cancel_iff]
    · simp (disch := first | omega | (simp only [z1, z2, z3, z4, z5, z6, z7] <;> omega) | fail) only [St.get_upd, St.get_alloc, St.next_alloc, St.next_upd, ↓reduceIte, natF_lt, natF_gt, natF_ne, Nat.add_assoc, Nat.reduceAdd, Nat.reduceEqDiff, Nat.add_left_cancel_iff]
      rw [count_snoc l i _ hp, hmay]; rfl
    · simp (disch := first | omega | (simp only [z1, z2, z3, z4, z5, z6, z7] <;> omega) | fail) only [St.get_upd, St.get_alloc, St.next_alloc, St.next_upd, ↓reduceIte, natF_lt, natF_gt, natF_ne, Nat.add_assoc, Nat.reduceAdd, Nat.reduceEqDiff, Nat.add_left_cancel_iff]
      rw [ho4 _ (by omega) (by omega) (by omega) (by omega), hg2 _ (by omega) (by omega)]; exact hj.fl
    · rw [packW_snoc l i _ hp]
      unfold stP
      rw [if_pos hmay]
      exact hI8
  · intro i A1 p hp hmay hj
    obtain ⟨h1, h2, h3, h4, h5, h6, h7⟩ := hj
    refine ⟨h1, h2, h3, h4, ?_, h6, ?_⟩
    · rw [count_snoc l i p hp, hmay]; exact h5
    · rw [packW_snoc l i p hp, stP, if_neg (by rw [hmay]; exact Bool.false_ne_true)]; exact h7
  · refine ⟨?_, ?_, ?_, ?_, ?_, ?_, [], 0, 0, ⟨?_, ?_, ⟨_, ?_, Row.nil _ _ _ _⟩, ?_⟩, ⟨rfl, by simp [packW], by simp [packW]⟩, by decide⟩
    · exact ((((((((((((Over.refl A).alloc _).alloc _).alloc _).alloc _).upd (by omega) _).upd (by omega) _).upd (by omega) _).alloc _).upd (by omega) _).alloc _).alloc _).alloc _
    · simp (disch := first | omega | (simp only [z1, z2, z3, z4, z5, z6, z7] <;> omega) | fail) only [St.get_upd, St.get_alloc, St.next_alloc, St.next_upd, ↓reduceIte, natF_lt, natF_gt, natF_ne, Nat.add_assoc, Nat.reduceAdd, Nat.reduceEqDiff, Nat.add_left_cancel_iff]
    · simp (disch := first | omega | (simp only [z1, z2, z3, z4, z5, z6, z7] <;> omega) | fail) only [St.get_upd, St.get_alloc, St.next_alloc, St.next_upd, ↓reduceIte, natF_lt, natF_gt, natF_ne, Nat.add_assoc, Nat.reduceAdd, Nat.reduceEqDiff, Nat.add_left_cancel_iff]
    · simp (disch := first | omega | (simp only [z1, z2, z3, z4, z5, z6, z7] <;> omega) | fail) only [St.get_upd, St.get_alloc, St.next_alloc, St.next_upd, ↓reduceIte, natF_lt, natF_gt, natF_ne, Nat.add_assoc, Nat.reduceAdd, Nat.reduceEqDiff, Nat.add_left_cancel_iff]
    · simp (disch := first | omega | (simp only [z1, z2, z3, z4, z5, z6, z7] <;> omega) | fail) only [St.get_upd, St.get_alloc, St.next_alloc, St.next_upd, ↓reduceIte, natF_lt, natF_gt, natF_ne, Nat.add_assoc, Nat.reduceAdd, Nat.reduceEqDiff, Nat.add_left_cancel_iff]
      rfl
    · simp (disch := first | omega | (simp only [z1, z2, z3, z4, z5, z6, z7] <;> omega) | fail) only [St.get_upd, St.get_alloc, St.next_alloc, St.next_upd, ↓reduceIte, natF_lt, natF_gt, natF_ne, Nat.add_assoc, Nat.reduceAdd, Nat.reduceEqDiff, Nat.add_left_cancel_iff]
    · simp (disch := first | omega | (simp only [z1, z2, z3, z4, z5, z6, z7] <;> omega) | fail) only [St.get_upd, St.get_alloc, St.next_alloc, St.next_upd, ↓reduceIte, natF_lt, natF_gt, natF_ne, Nat.add_assoc, Nat.reduceAdd, Nat.reduceEqDiff, Nat.add_left_cancel_iff]
      rfl
    · simp (disch := first | omega | (simp only [z1, z2, z3, z4, z5, z6, z7] <;> omega) | fail) only [St.get_upd, St.get_alloc, St.next_alloc, St.next_upd, ↓reduceIte, natF_lt, natF_gt, natF_ne, Nat.add_assoc, Nat.reduceAdd, Nat.reduceEqDiff, Nat.add_left_cancel_iff]
      rfl
    · simp (disch := first | omega | (simp only [z1, z2, z3, z4, z5, z6, z7] <;> omega) | fail) only [St.get_upd, St.get_alloc, St.next_alloc, St.next_upd, ↓reduceIte, natF_lt, natF_gt, natF_ne, Nat.add_assoc, Nat.reduceAdd, Nat.reduceEqDiff, Nat.add_left_cancel_iff]
    · simp (disch := first | omega | (simp only [z1, z2, z3, z4, z5, z6, z7] <;> omega) | fail) only [St.get_upd, St.get_alloc, St.next_alloc, St.next_upd, ↓reduceIte, natF_lt, natF_gt, natF_ne, Nat.add_assoc, Nat.reduceAdd, Nat.reduceEqDiff, Nat.add_left_cancel_iff]
      omega
  · rintro e A2 ⟨rfl, hj⟩
    refine rfQ_normal hj.loop (by decide) ?_
    have hlo := hj.lo
    obtain ⟨hov, hcv, hdf, hlp, hmn, hfl, acc, hold, held, hF, hinv, hheld⟩ := hj
    rw [List.take_length] at hmn hinv
    have hV := hinv.lt (by have := packW_lt l hl l.length; rwa [List.take_length] at this)
    have hW : (packW l).2 ≤ 24 * l.length := by have := packW_le l l.length; rwa [List.take_length] at this
    have hmm := hinv.many
    have hv2 := hv.over (hov.upd (b := A.next + 7) (by omega) (some (.loop .exhausted none (tm 37 ρ0) #[13] asg body)))
    simp (maxSteps := 1000000) (disch := first | omega | (simp only [z1, z2, z3, z4, z5, z6, z7] <;> omega) | fail) only [go_sem, r7, r0, hmn, hv2.lenU]
    refine ifB_dec (fun hlt => ?_) (fun hlt => ?_)
    · simp (maxSteps := 1000000) (disch := first | omega | (simp only [z1, z2, z3, z4, z5, z6, z7] <;> omega) | fail) only [go_sem, hdf, Try.results20]
      have hno : packOk l = false := by
        rw [Bool.eq_false_iff]
        intro h
        rw [packOk, List.all_eq_true] at h
        have := List.countP_eq_length.2 h
        omega
      exact gc_fin' hw ((hov.upd (by omega) _).upd (by omega) _) (by unfold packR; rw [hno]; rfl) (bnd_packR _ _)
    · have hyes : packOk l = true := by
        rw [packOk, List.all_eq_true]
        apply List.countP_eq_length.1
        have : l.countP mayB ≤ l.length := List.countP_le_length
        omega
      simp (maxSteps := 1000000) (disch := first | omega | (simp only [z1, z2, z3, z4, z5, z6, z7] <;> omega) | fail) only [go_sem, r8, hfl]
      have hh8 : 2 ^ held ≤ 2 ^ 7 := Nat.pow_le_pow_right (by decide) (by omega)
      refine (flush_ok w0 (A.next + 2) A.next (A.next + 1) (A.next + 8) 1 ⟨by omega, by omega, by omega, by omega, by omega, by omega⟩ (by omega) _ acc hold held (hF.upd _ ⟨by omega, by omega, by omega, by omega⟩) (by omega) (by omega)).mono ?_
      rintro e2 A4 ⟨rfl, ⟨_, _, ⟨rv, q3, q4⟩, _⟩, hK⟩
      rw [flushS_1 hinv hheld] at q4
      have hd4 := (hK.get (A.next + 6) (by omega) (by omega) (by omega) (by omega)).trans ((get_upd_old (by omega)).trans hdf)
      have hn4 := hK.next
      simp only [St.next_upd] at hn4
      simp (maxSteps := 1000000) (disch := first | omega | (simp only [z1, z2, z3, z4, z5, z6, z7] <;> omega) | fail) only [go_sem, r4, q3, q4.view.text Try.underlying5, hd4, Try.results20]
      exact gc_fin' (A' := A4.upd (A.next + 6) (some (.dfr true))) hw ⟨by simp (disch := first | omega | (simp only [z1, z2, z3, z4, z5, z6, z7] <;> omega) | fail) only [St.get_upd, St.get_alloc, St.next_alloc, St.next_upd, ↓reduceIte, natF_lt, natF_gt, natF_ne, Nat.add_assoc, Nat.reduceAdd, Nat.reduceEqDiff, Nat.add_left_cancel_iff]; have := hov.next; omega, fun b hb => by simp (disch := first | omega | (simp only [z1, z2, z3, z4, z5, z6, z7] <;> omega) | fail) only [St.get_upd, St.get_alloc, St.next_alloc, St.next_upd, ↓reduceIte, natF_lt, natF_gt, natF_ne, Nat.add_assoc, Nat.reduceAdd, Nat.reduceEqDiff, Nat.add_left_cancel_iff]; rw [hK.get b (by omega) (by omega) (by omega) (by omega), get_upd_old (by omega), hov.get b hb]⟩ (by unfold packR; rw [hyes]; rfl) (bnd_packR _ _)
end Go.Fw

set_option linter.unusedSimpArgs false
set_option linter.unusedVariables false
set_option maxRecDepth 4000
namespace Go.Fw
open Go.Proofs Go.RowKit
theorem Try.enters26 : Enters Try.prog 26 := enters_of Try.func26 rfl (by kernel_rfl)
theorem Try.enters65 : Enters Try.prog 65 := enters_of Try.func65 rfl (by kernel_rfl)
theorem Try.enters50 : Enters Try.prog 50 := enters_of Try.func50 rfl (by kernel_rfl)
theorem Try.enters68 : Enters Try.prog 68 := enters_of Try.func68 rfl (by kernel_rfl)
/-- A reader, in cells. -/
def rdB (t : Nat) (s : ByteArray) (at' : Nat) : Blk := .cells [.string s, .int .i64 at'] t (some 0)
set_option maxHeartbeats 1000000 in
theorem new_ok (w0 : World) (A : St) (s : ByteArray) : ACalls Try.prog w0 26 #[.string s] A (fin (.pointer (some ⟨A.next, 0, none⟩)) (A.alloc (rdB 97 s 0))) := by
  refine call_E Try.enters26 Try.func26 rfl (Nat.le_of_ble_eq_true rfl) fun hw hbd => ?_
  simp (maxSteps := 1000000) (disch := first | omega | (simp only [z1, z2, z3, z4, z5, z6, z7] <;> omega) | fail) only [go_sem, Try.ntmps26, Try.results26]
  exact gc_here ⟨rfl, rfl⟩
set_option maxHeartbeats 1000000 in
theorem left_ok (w0 : World) (A : St) (r : Nat) (s : ByteArray) (k : Nat) (hr : A.get r = some (rdB 97 s k)) (hs : s.size ≤ 140737488355328) (hk : k ≤ 8 * s.size) : ACalls Try.prog w0 50 #[.pointer (some ⟨r, 0, none⟩)] A (fin (.int .i64 ((8 * s.size - k : Nat) : Int)) A) := by
  refine call_E Try.enters50 Try.func50 rfl (Nat.le_of_ble_eq_true rfl) fun hw hbd => ?_
  unfold rdB at hr
  simp (maxSteps := 1000000) (disch := first | omega | (simp only [z1, z2, z3, z4, z5, z6, z7] <;> omega) | fail) only [go_sem, Try.ntmps50, Try.results50]
  have e : (8 : Int) * (s.size : Int) - (k : Int) = ((8 * s.size - k : Nat) : Int) := by omega
  refine aw_draw (by kernel_rfl) ?_
  simp (maxSteps := 1000000) (disch := first | omega | (simp only [z1, z2, z3, z4, z5, z6, z7] <;> omega) | fail) only [go_sem, hr, e, Try.results50]
  exact gc_fin hw (Over.refl _) (by simp only [bnd_int])
set_option maxHeartbeats 1000000 in
/-- The deferred step on: the reader's place moves by the width. -/
theorem take1_def (w0 : World) (A : St) (c d r : Nat) (s : ByteArray) (k w : Nat) (m1 m2 : Option Nat) (hc : A.get c = some (.cells [.pointer (some ⟨r, 0, none⟩)] 63 m1)) (hd : A.get d = some (.cells [.int .i64 (w : Int)] 3 m2)) (hr : A.get r = some (rdB 97 s k)) (hkw : k + w ≤ 1125899906842624)
    (K : St → Prop) (h : K (A.upd r (some (rdB 97 s (k + w))))) : leaveF Try.prog w0 68 #[.pointer (some ⟨c, 0, none⟩), .pointer (some ⟨d, 0, none⟩)] A K := by
  refine ⟨Try.enters68, adef_E Try.func68 rfl (Nat.le_of_ble_eq_true rfl) fun hw hbd => ?_⟩
  unfold rdB at hr
  simp (maxSteps := 1000000) (disch := first | omega | (simp only [z1, z2, z3, z4, z5, z6, z7] <;> omega) | fail) only [go_sem, Try.ntmps68, Try.results68]
  have e : (k : Int) + (w : Int) = ((k + w : Nat) : Int) := by omega
  refine aw_draw2 [⟨false, [], [0]⟩, ⟨false, [0], [0]⟩, ⟨false, [0, 1], [0]⟩, ⟨false, [0, 1, 2], [0]⟩, ⟨false, [], [0]⟩, ⟨false, [0, 1, 2, 3, 4], [0]⟩, ⟨false, [0, 1, 2, 3, 4, 5], [0]⟩, ⟨false, [0, 1, 2, 3, 4, 5, 6], [0]⟩, ⟨true, [0, 1, 2, 3, 4, 5, 6, 7], [0]⟩] [A, A.upd r (some (rdB 97 s (k + w)))] 1 (by kernel_rfl) (by kernel_rfl) rfl ?_
  unfold rdB
  simp (maxSteps := 1000000) (disch := first | omega | (simp only [z1, z2, z3, z4, z5, z6, z7] <;> omega) | fail) only [go_sem, hc, hd, hr, e, Try.results68]
  exact h
/-- Bytes as a number, the lowest first. -/
def leV : List Int → Nat
  | [] => 0
  | b :: r => b.toNat + 256 * leV r
theorem leV_lt : ∀ l : List Int, (∀ x ∈ l, Byte x) → leV l < 256 ^ l.length
  | [], _ => by simp [leV]
  | b :: r, h => by
    have h1 := h b (List.mem_cons_self ..)
    have h2 := leV_lt r fun x hx => h x (List.mem_cons_of_mem _ hx)
    unfold Byte at h1
    simp only [leV, List.length_cons, Nat.pow_succ]
    omega
theorem leV_at : ∀ (l : List Int) (i : Nat) (b : Int), (∀ x ∈ l, Byte x) → l[i]? = some b → leV l / 256 ^ i % 256 = b.toNat
  | [], i, b, _, h => by simp at h
  | c :: r, 0, b, hb, h => by
    simp at h; subst h
    have h1 := hb c (List.mem_cons_self ..)
    unfold Byte at h1
    simp only [leV, Nat.pow_zero, Nat.div_one]
    omega
  | c :: r, i + 1, b, hb, h => by
    have h1 := hb c (List.mem_cons_self ..)
    unfold Byte at h1
    rw [Nat.pow_succ, Nat.mul_comm, ← Nat.div_div_eq_div_mul]
    have : leV (c :: r) / 256 = leV r := by simp only [leV]; omega
    rw [this]
    exact leV_at r i b (fun x hx => hb x (List.mem_cons_of_mem _ hx)) (by simpa using h)
/-- A text as a number. -/
def strV (s : ByteArray) : Nat := leV (nums s)
theorem strV_lt (s : ByteArray) : strV s < 2 ^ (8 * s.size) := by
  have := leV_lt (nums s) (nums_byte s)
  rwa [nums_length, pow256] at this
theorem strV_at (s : ByteArray) (i : Nat) (h : i < s.size) : strV s / 256 ^ i % 256 = (sbt s i).toNat := leV_at _ i _ (nums_byte s) (sbt_nums s i h)
theorem u64_shl8 (b j : Nat) (hj : j < 4) (hb : b < 256) : ishl .u64 (b : Int) ((8 * j : Nat) : Int) = ((b * 256 ^ j : Nat) : Int) := by
  have hp : 256 ^ j ≤ 256 ^ 3 := Nat.pow_le_pow_right (by decide) (by omega)
  have h : b * 256 ^ j ≤ 256 * 256 ^ 3 := Nat.mul_le_mul (by omega) hp
  have e : ((b * 256 ^ j : Nat) : Int) = (b : Int) * 2 ^ (8 * j) := by rw [pow256, Int.natCast_mul, Int.natCast_pow]; rfl
  rw [ishl_eq .u64 rfl (b : Int) (8 * j) (by simp only [IntKind.bits]; omega) (by omega) (by rw [← e]; simp only [IntKind.bits]; omega), e]
theorem u64_or8 (h b j : Nat) (hj : j < 4) (hb : b < 256) (hh : h < 256 ^ j) : ibits .or .u64 (h : Int) ((b * 256 ^ j : Nat) : Int) = ((h + b * 256 ^ j : Nat) : Int) := by
  have hp : 256 ^ j ≤ 256 ^ 3 := Nat.pow_le_pow_right (by decide) (by omega)
  have h1 : b * 256 ^ j ≤ 256 * 256 ^ 3 := Nat.mul_le_mul (by omega) hp
  have e : ((b * 256 ^ j : Nat) : Int) = (b : Int) * 2 ^ (8 * j) := by rw [pow256, Int.natCast_mul, Int.natCast_pow]; rfl
  have hh' : (h : Int) < 2 ^ (8 * j) := by rw [show ((2 : Int) ^ (8 * j)) = ((256 ^ j : Nat) : Int) by rw [pow256, Int.natCast_pow]; rfl]; exact Int.ofNat_lt.2 hh
  rw [e, or_add .u64 rfl (h : Int) (b : Int) (8 * j) (by omega) hh' (by omega) (by rw [← e]; simp only [IntKind.bits]; omega), Int.natCast_add, e]
theorem u64_one (k : Nat) (hk : k ≤ 24) : ishl .u64 1 (k : Int) = ((2 ^ k : Nat) : Int) := by
  have hp : 2 ^ k ≤ 2 ^ 24 := Nat.pow_le_pow_right (by decide) hk
  rw [ishl_eq .u64 rfl 1 k (by simp only [IntKind.bits]; omega) (by omega) (by rw [Int.one_mul, show ((2 : Int) ^ k) = ((2 ^ k : Nat) : Int) by rw [Int.natCast_pow]; rfl]; simp only [IntKind.bits]; omega), Int.one_mul, Int.natCast_pow]; rfl
theorem u64_shr (n j : Nat) (hj : j ≤ 64) : ishr .u64 (n : Int) (j : Int) = ((n / 2 ^ j : Nat) : Int) := by
  rw [ishr_eq .u64 _ j (by simp only [IntKind.bits]; omega), Int.natCast_ediv, Int.natCast_pow]; rfl
theorem u64_mask (n j : Nat) (hn : n < 18446744073709551616) (hj : j ≤ 64) : ibits .and .u64 (n : Int) (((2 ^ j : Nat) : Int) - 1) = ((n % 2 ^ j : Nat) : Int) := by
  have := and_mask .u64 rfl (n : Int) j ⟨by omega, by simp only [IntKind.bits]; omega⟩ (by simp only [IntKind.bits]; omega)
  rw [Int.natCast_pow, Int.natCast_emod, Int.natCast_pow]
  exact this
def takeS (s : ByteArray) (k : Nat) (w : Int) : Int × Int × Nat :=
  if w < 0 ∨ 24 < w then (0, 1, k) else if ((8 * s.size - k : Nat) : Int) < w then (0, 40, k) else (((strV s / 2 ^ k % 2 ^ w.toNat : Nat) : Int), 0, k + w.toNat)
/-- What Take holds: so many bytes, from a place on. -/
def holdN (s : ByteArray) (f m : Nat) : Nat := strV s / 256 ^ f % 256 ^ m
theorem holdN_succ (s : ByteArray) (f m : Nat) (h : f + m < s.size) : holdN s f (m + 1) = holdN s f m + (sbt s (f + m)).toNat * 256 ^ m := by
  unfold holdN
  rw [Nat.pow_succ, Nat.mod_mul, Nat.div_div_eq_div_mul, ← Nat.pow_add, strV_at s _ h, Nat.mul_comm (256 ^ m)]
theorem holdN_lt (s : ByteArray) (f m : Nat) : holdN s f m < 256 ^ m := Nat.mod_lt _ (Nat.pow_pos (by decide))
theorem holdN_end (s : ByteArray) (f m : Nat) (hm : m ≤ 4) (h : m = 4 ∨ s.size ≤ f + m) : holdN s f m = strV s / 256 ^ f % 2 ^ 32 := by
  unfold holdN
  rcases h with rfl | h
  · rfl
  · have hlt : strV s / 256 ^ f < 256 ^ m := by
      apply Nat.div_lt_of_lt_mul
      rw [← Nat.pow_add, pow256]
      exact Nat.lt_of_lt_of_le (strV_lt s) (Nat.pow_le_pow_right (by decide) (by omega))
    rw [Nat.mod_eq_of_lt hlt, Nat.mod_eq_of_lt (Nat.lt_of_lt_of_le hlt (by rw [pow256]; exact Nat.pow_le_pow_right (by decide) (by omega)))]
theorem take_val (V k w : Nat) (hw : w ≤ 24) : V / 256 ^ (k / 8) % 2 ^ 32 / 2 ^ (k % 8) % 2 ^ w = V / 2 ^ k % 2 ^ w := by
  rw [show (2 : Nat) ^ 32 = 2 ^ (k % 8) * 2 ^ (32 - k % 8) by rw [← Nat.pow_add]; congr 1; omega, Nat.mod_mul_right_div_self, Nat.mod_mod_of_dvd _ (Nat.pow_dvd_pow 2 (by omega)), Nat.div_div_eq_div_mul, pow256, ← Nat.pow_add]
  congr 3; omega
theorem bnd_takeS (n : Nat) (s : ByteArray) (k : Nat) (w : Int) : Bnd n (.tuple #[.int .u32 (takeS s k w).1, .int .i64 (takeS s k w).2.1]) := by simp only [bnd_tuple, bndL_cons, bndL_nil, bnd_int, and_self]
set_option maxHeartbeats 4000000 in
theorem take_ok (w0 : World) (A : St) (r : Nat) (s : ByteArray) (k : Nat) (w : Int) (hr : A.get r = some (rdB 97 s k)) (hs : s.size ≤ 140737488355328) (hk : k ≤ 8 * s.size) :
    ACalls Try.prog w0 65 #[.pointer (some ⟨r, 0, none⟩), .int .i64 w] A (fin (.tuple #[.int .u32 (takeS s k w).1, .int .i64 (takeS s k w).2.1]) (A.upd r (some (rdB 97 s (takeS s k w).2.2)))) := by
  refine call_E Try.enters65 Try.func65 rfl (Nat.le_of_ble_eq_true rfl) fun hw hbd => ?_
  have hrn : r < A.next := (hw r _ hr).1
  have hbnd : ∀ v ∈ ([.string s, .int .i64 (takeS s k w).2.2] : List Value), Bnd A.next v := by
    intro v hv
    simp only [List.mem_cons, List.not_mem_nil, or_false] at hv
    rcases hv with rfl | rfl
    · exact .string _
    · exact .int _ _
  simp (maxSteps := 1000000) (disch := first | omega | (simp only [z1, z2, z3, z4, z5, z6, z7] <;> omega) | fail) only [go_sem, Try.ntmps65, Try.results65]
  by_cases h1 : w < 0
  · simp (maxSteps := 1000000) (disch := first | omega | (simp only [z1, z2, z3, z4, z5, z6, z7] <;> omega) | fail) only [go_sem, Try.results65]
    exact gc_upd hw hrn hbnd (over_upd (by simp; omega) (by rw [show (takeS s k w).2.2 = k by unfold takeS; rw [if_pos (.inl h1)]]; simp (disch := first | omega | (simp only [z1, z2, z3, z4, z5, z6, z7] <;> omega) | fail) only [St.get_upd, St.get_alloc, St.next_alloc, St.next_upd, ↓reduceIte, natF_lt, natF_gt, natF_ne, Nat.add_assoc, Nat.reduceAdd, Nat.reduceEqDiff, Nat.add_left_cancel_iff]; exact hr) (fun b q1 q2 => by simp (disch := first | omega | (simp only [z1, z2, z3, z4, z5, z6, z7] <;> omega) | fail) only [St.get_upd, St.get_alloc, St.next_alloc, St.next_upd, ↓reduceIte, natF_lt, natF_gt, natF_ne, Nat.add_assoc, Nat.reduceAdd, Nat.reduceEqDiff, Nat.add_left_cancel_iff])) (by unfold takeS; rw [if_pos (.inl h1)]) (bnd_takeS _ _ _ _)
  by_cases h2 : 24 < w
  · simp (maxSteps := 1000000) (disch := first | omega | (simp only [z1, z2, z3, z4, z5, z6, z7] <;> omega) | fail) only [go_sem, Try.results65]
    exact gc_upd hw hrn hbnd (over_upd (by simp; omega) (by rw [show (takeS s k w).2.2 = k by unfold takeS; rw [if_pos (.inr h2)]]; simp (disch := first | omega | (simp only [z1, z2, z3, z4, z5, z6, z7] <;> omega) | fail) only [St.get_upd, St.get_alloc, St.next_alloc, St.next_upd, ↓reduceIte, natF_lt, natF_gt, natF_ne, Nat.add_assoc, Nat.reduceAdd, Nat.reduceEqDiff, Nat.add_left_cancel_iff]; exact hr) (fun b q1 q2 => by simp (disch := first | omega | (simp only [z1, z2, z3, z4, z5, z6, z7] <;> omega) | fail) only [St.get_upd, St.get_alloc, St.next_alloc, St.next_upd, ↓reduceIte, natF_lt, natF_gt, natF_ne, Nat.add_assoc, Nat.reduceAdd, Nat.reduceEqDiff, Nat.add_left_cancel_iff])) (by unfold takeS; rw [if_pos (.inr h2)]) (bnd_takeS _ _ _ _)
  obtain ⟨wd, rfl⟩ := Int.eq_ofNat_of_zero_le (a := w) (by omega)
  simp (maxSteps := 1000000) (disch := first | omega | (simp only [z1, z2, z3, z4, z5, z6, z7] <;> omega) | fail) only [go_sem]
  obtain ⟨A2, hA2⟩ : ∃ A2, A2 = (A.alloc (.cells [.pointer (some ⟨r, 0, none⟩)] 63 (some 0))).alloc (.cells [.int .i64 (wd : Int)] 3 (some 0)) := ⟨_, rfl⟩
  rw [← hA2]
  have g2 : A2.get A.next = some (.cells [.pointer (some ⟨r, 0, none⟩)] 63 (some 0)) := by
    rw [hA2]
    simp (disch := first | omega | (simp only [z1, z2, z3, z4, z5, z6, z7] <;> omega) | fail) only [St.get_upd, St.get_alloc, St.next_alloc, St.next_upd, ↓reduceIte, natF_lt, natF_gt, natF_ne, Nat.add_assoc, Nat.reduceAdd, Nat.reduceEqDiff, Nat.add_left_cancel_iff]
  have g3 : A2.get (A.next + 1) = some (.cells [.int .i64 (wd : Int)] 3 (some 0)) := by
    rw [hA2]
    simp (disch := first | omega | (simp only [z1, z2, z3, z4, z5, z6, z7] <;> omega) | fail) only [St.get_upd, St.get_alloc, St.next_alloc, St.next_upd, ↓reduceIte, natF_lt, natF_gt, natF_ne, Nat.add_assoc, Nat.reduceAdd, Nat.reduceEqDiff, Nat.add_left_cancel_iff]
  have gr : A2.get r = some (rdB 97 s k) := by
    rw [hA2]
    simp (disch := first | omega | (simp only [z1, z2, z3, z4, z5, z6, z7] <;> omega) | fail) only [St.get_upd, St.get_alloc, St.next_alloc, St.next_upd, ↓reduceIte, natF_lt, natF_gt, natF_ne, Nat.add_assoc, Nat.reduceAdd, Nat.reduceEqDiff, Nat.add_left_cancel_iff]
    exact hr
  have n2 : A2.next = A.next + 2 := by rw [hA2]; rfl
  have o2 : Over A A2 := by rw [hA2]; exact ((Over.refl A).alloc _).alloc _
  refine aw_draw (by kernel_rfl) ?_
  simp (maxSteps := 1000000) (disch := first | omega | (simp only [z1, z2, z3, z4, z5, z6, z7] <;> omega) | fail) only [go_sem, g2]
  refine ⟨_, left_ok w0 A2 r s k gr hs hk, ?_⟩
  simp (maxSteps := 1000000) (disch := first | omega | (simp only [z1, z2, z3, z4, z5, z6, z7] <;> omega) | fail) only [go_sem, g3]
  refine ifB_dec (fun h3 => ?_) (fun h3 => ?_)
  · simp (maxSteps := 1000000) (disch := first | omega | (simp only [z1, z2, z3, z4, z5, z6, z7] <;> omega) | fail) only [go_sem, Try.results65]
    have ht : takeS s k (wd : Int) = (0, 40, k) := by unfold takeS; rw [if_neg (by omega), if_pos (by omega)]
    exact gc_upd hw hrn hbnd (over_upd (by omega) (by rw [ht]; exact gr) (fun b q1 q2 => o2.get b q1)) (by rw [ht]) (bnd_takeS _ _ _ _)
  have ht : takeS s k (wd : Int) = (((strV s / 2 ^ k % 2 ^ wd : Nat) : Int), 0, k + wd) := by unfold takeS; rw [if_neg (by omega), if_neg (by omega)]; rfl
  have gr' := gr
  unfold rdB at gr'
  have q1 : Int.tdiv (k : Int) 8 = ((k / 8 : Nat) : Int) := by rw [Int.tdiv_eq_ediv_of_nonneg (by omega)]; omega
  simp (maxSteps := 1000000) (disch := first | omega | (simp only [z1, z2, z3, z4, z5, z6, z7] <;> omega) | fail) only [go_sem, g2, gr', q1]
  obtain ⟨f, hf⟩ : ∃ f, f = k / 8 := ⟨_, rfl⟩
  rw [← hf]
  have hfs : f ≤ s.size := by omega
  refine aw_hide fun Q hQ => ?_
  refine aw_loop (fun m a A' => ∃ (ρ : Nat → Value) (j : Nat), a = E 69 ρ [⟨.fn (.func 68) #[.pointer (some ⟨A.next, 0, none⟩), .pointer (some ⟨A.next + 1, 0, none⟩)], #[]⟩] ∧ m = 4 - j ∧ j ≤ 4 ∧ f + j ≤ s.size ∧ A' = A2 ∧ ρ 2 = .pointer (some ⟨A.next, 0, none⟩) ∧ ρ 3 = .pointer (some ⟨A.next + 1, 0, none⟩) ∧ ρ 6 = .int .i64 f ∧ ρ 7 = .int .u64 (holdN s f j : Nat) ∧ ρ 8 = .int .i64 ((f + j : Nat) : Int)) 4
    ⟨_, 0, rfl, rfl, by omega, by omega, rfl, rfl, rfl, rfl, ?_, rfl⟩ ?_
  · simp (maxSteps := 1000000) (disch := first | omega | (simp only [z1, z2, z3, z4, z5, z6, z7] <;> omega) | fail) only [go_sem]
    simp [holdN, Nat.mod_one]
  rintro m a A' ⟨ρ, j, rfl, rfl, hj, hjs, rfl, p2, p3, p6, p7, p8⟩
  have tail : (j = 4 ∨ f + j = s.size) → ∀ ρ' : Nat → Value, ρ' 2 = .pointer (some ⟨A.next, 0, none⟩) → ρ' 3 = .pointer (some ⟨A.next + 1, 0, none⟩) → ρ' 7 = .int .u64 (holdN s f j : Nat) → Q (.exit 1) (E 69 ρ' [⟨.fn (.func 68) #[.pointer (some ⟨A.next, 0, none⟩), .pointer (some ⟨A.next + 1, 0, none⟩)], #[]⟩]) A' := by
    intro hend ρ' x2 x3 x7
    rw [hQ]
    have hh := holdN_end s f j hj (by omega)
    have hlt : holdN s f j < 4294967296 := by rw [hh]; exact Nat.mod_lt _ (by decide)
    obtain ⟨H, hH⟩ : ∃ H, H = holdN s f j := ⟨_, rfl⟩
    rw [← hH] at x7 hh hlt
    have q2 : Int.tmod (k : Int) 8 = ((k % 8 : Nat) : Int) := by rw [Int.tmod_eq_emod_of_nonneg (by omega)]; omega
    have hp1 : 0 < 2 ^ wd := Nat.two_pow_pos _
    have hp2 : 2 ^ wd ≤ 2 ^ 24 := Nat.pow_le_pow_right (by decide) (by omega)
    have hval : H / 2 ^ (k % 8) % 2 ^ wd = strV s / 2 ^ k % 2 ^ wd := by rw [hh, hf]; exact take_val _ _ _ (by omega)
    have hvl : strV s / 2 ^ k % 2 ^ wd < 2 ^ wd := Nat.mod_lt _ hp1
    have hq : H / 2 ^ (k % 8) < 18446744073709551616 := Nat.lt_of_le_of_lt (Nat.div_le_self _ _) (by omega)
    simp (maxSteps := 1000000) (disch := first | omega | (simp only [z1, z2, z3, z4, z5, z6, z7] <;> omega) | fail) only [go_sem]
    refine aw_draw (by kernel_rfl) ?_
    simp (maxSteps := 1000000) (disch := first | omega | (simp only [z1, z2, z3, z4, z5, z6, z7] <;> omega) | fail) only [go_sem, x2, x3, x7, g2, g3, gr', q2, u64_one wd (by omega), u64_shr H (k % 8) (by omega), u64_mask _ wd hq (by omega), hval, Try.results65]
    refine take1_def w0 A' A.next (A.next + 1) r s k wd _ _ g2 g3 gr (by omega) _ ?_
    simp (maxSteps := 1000000) (disch := first | omega | (simp only [z1, z2, z3, z4, z5, z6, z7] <;> omega) | fail) only [go_sem, Try.results65]
    rw [ht]
    refine gc_upd hw hrn (by rw [ht] at hbnd; exact hbnd) (over_upd (by simp; omega) (by simp (disch := first | omega | (simp only [z1, z2, z3, z4, z5, z6, z7] <;> omega) | fail) only [St.get_upd, St.get_alloc, St.next_alloc, St.next_upd, ↓reduceIte, natF_lt, natF_gt, natF_ne, Nat.add_assoc, Nat.reduceAdd, Nat.reduceEqDiff, Nat.add_left_cancel_iff]; rfl) (fun b q1 q2 => by simp (disch := first | omega | (simp only [z1, z2, z3, z4, z5, z6, z7] <;> omega) | fail) only [St.get_upd, St.get_alloc, St.next_alloc, St.next_upd, ↓reduceIte, natF_lt, natF_gt, natF_ne, Nat.add_assoc, Nat.reduceAdd, Nat.reduceEqDiff, Nat.add_left_cancel_iff]; exact o2.get b q1)) rfl ?_
    have := bnd_takeS A.next s k wd
    rwa [ht] at this
  refine aw_of ?_
  by_cases hgo : f + j < s.size ∧ j < 4
  · obtain ⟨hg1, hg2⟩ := hgo
    have hb := sbt_byte s (f + j)
    obtain ⟨bb, hbb⟩ := Int.eq_ofNat_of_zero_le hb.1
    have hb256 : bb < 256 := by have := hb.2; omega
    have e1 : ((f + j : Nat) : Int) - (f : Int) = (j : Int) := by omega
    have e2 : (8 : Int) * (j : Int) = ((8 * j : Nat) : Int) := by omega
    simp (maxSteps := 1000000) (disch := first | omega | (simp only [z1, z2, z3, z4, z5, z6, z7] <;> omega) | fail) only [go_sem, p2, p3, p6, p7, p8, g2, gr', hbb, e1, e2, u64_shl8 bb j hg2 hb256, u64_or8 _ bb j hg2 hb256 (holdN_lt s f j)]
    refine ⟨4 - (j + 1), by omega, _, j + 1, rfl, rfl, by omega, by omega, ?_, ?_, ?_, ?_, ?_⟩
    · simp (maxSteps := 1000000) (disch := first | omega | (simp only [z1, z2, z3, z4, z5, z6, z7] <;> omega) | fail) only [go_sem, p2]
    · simp (maxSteps := 1000000) (disch := first | omega | (simp only [z1, z2, z3, z4, z5, z6, z7] <;> omega) | fail) only [go_sem, p3]
    · simp (maxSteps := 1000000) (disch := first | omega | (simp only [z1, z2, z3, z4, z5, z6, z7] <;> omega) | fail) only [go_sem, p6]
    · simp (maxSteps := 1000000) (disch := first | omega | (simp only [z1, z2, z3, z4, z5, z6, z7] <;> omega) | fail) only [go_sem]
      rw [holdN_succ s f j hg1, hbb]; rfl
    · simp (maxSteps := 1000000) (disch := first | omega | (simp only [z1, z2, z3, z4, z5, z6, z7] <;> omega) | fail) only [go_sem]
      rfl
  · by_cases hsz : f + j = s.size
    · simp (maxSteps := 1000000) (disch := first | omega | (simp only [z1, z2, z3, z4, z5, z6, z7] <;> omega) | fail) only [go_sem, p2, p8, g2, gr']
      refine tail (.inr hsz) _ ?_ ?_ ?_
      · simp (maxSteps := 1000000) (disch := first | omega | (simp only [z1, z2, z3, z4, z5, z6, z7] <;> omega) | fail) only [go_sem, p2]
      · simp (maxSteps := 1000000) (disch := first | omega | (simp only [z1, z2, z3, z4, z5, z6, z7] <;> omega) | fail) only [go_sem, p3]
      · simp (maxSteps := 1000000) (disch := first | omega | (simp only [z1, z2, z3, z4, z5, z6, z7] <;> omega) | fail) only [go_sem, p7]
    · have hj4 : j = 4 := by omega
      simp (maxSteps := 1000000) (disch := first | omega | (simp only [z1, z2, z3, z4, z5, z6, z7] <;> omega) | fail) only [go_sem, p2, p6, p8, g2, gr']
      refine tail (.inl hj4) _ ?_ ?_ ?_
      · simp (maxSteps := 1000000) (disch := first | omega | (simp only [z1, z2, z3, z4, z5, z6, z7] <;> omega) | fail) only [go_sem, p2]
      · simp (maxSteps := 1000000) (disch := first | omega | (simp only [z1, z2, z3, z4, z5, z6, z7] <;> omega) | fail) only [go_sem, p3]
      · simp (maxSteps := 1000000) (disch := first | omega | (simp only [z1, z2, z3, z4, z5, z6, z7] <;> omega) | fail) only [go_sem, p7]
theorem Try.enters30 : Enters Try.prog 30 := enters_of Try.func30 rfl (by kernel_rfl)
def endS (s : ByteArray) (k : Nat) : Int := if 8 ≤ 8 * s.size - k ∨ strV s / 2 ^ k ≠ 0 then 42 else 0
theorem u8_shr (n j : Nat) (hj : j ≤ 8) : ishr .u8 (n : Int) (j : Int) = ((n / 2 ^ j : Nat) : Int) := by
  rw [ishr_eq .u8 _ j (by simp only [IntKind.bits]; omega), Int.natCast_ediv, Int.natCast_pow]; rfl
set_option maxHeartbeats 4000000 in
theorem end_ok (w0 : World) (A : St) (r : Nat) (s : ByteArray) (k : Nat) (hr : A.get r = some (rdB 97 s k)) (hs : s.size ≤ 140737488355328) (hk : k ≤ 8 * s.size) : ACalls Try.prog w0 30 #[.pointer (some ⟨r, 0, none⟩)] A (fin (.int .i64 (endS s k)) A) := by
  refine call_E Try.enters30 Try.func30 rfl (Nat.le_of_ble_eq_true rfl) fun hw hbd => ?_
  simp (maxSteps := 1000000) (disch := first | omega | (simp only [z1, z2, z3, z4, z5, z6, z7] <;> omega) | fail) only [go_sem, Try.ntmps30, Try.results30]
  refine call1 (left_ok w0 A r s k hr hs hk) ?_
  unfold rdB at hr
  simp (maxSteps := 1000000) (disch := first | omega | (simp only [z1, z2, z3, z4, z5, z6, z7] <;> omega) | fail) only [go_sem]
  obtain ⟨n, hn⟩ : ∃ n, n = 8 * s.size - k := ⟨_, rfl⟩
  rw [← hn]
  by_cases h8 : 8 ≤ n
  · refine aw_draw (by kernel_rfl) ?_
    simp (maxSteps := 1000000) (disch := first | omega | (simp only [z1, z2, z3, z4, z5, z6, z7] <;> omega) | fail) only [go_sem, isBu_t, isBu_f, Try.results30]
    exact gc_fin' hw (Over.refl _) (by unfold endS; rw [if_pos (.inl (by omega))]) (by simp only [bnd_int])
  by_cases h0 : n = 0
  · refine aw_draw (by kernel_rfl) ?_
    simp (maxSteps := 1000000) (disch := first | omega | (simp only [z1, z2, z3, z4, z5, z6, z7] <;> omega) | fail) only [go_sem, h0, isBu_t, isBu_f, Try.results30]
    refine gc_fin' hw (Over.refl _) ?_ (by simp only [bnd_int])
    unfold endS
    rw [if_neg]
    rintro (h | h)
    · omega
    · exact h (Nat.div_eq_of_lt (Nat.lt_of_lt_of_le (strV_lt s) (Nat.pow_le_pow_right (by decide) (by omega))))
  · have hb := sbt_byte s (s.size - 1)
    obtain ⟨b, hbb⟩ := Int.eq_ofNat_of_zero_le hb.1
    have hb256 : b < 256 := by have := hb.2; omega
    have hv := strV_at s (s.size - 1) (by omega)
    rw [hbb] at hv
    have e1 : (s.size : Int) - 1 = ((s.size - 1 : Nat) : Int) := by omega
    have e2 : (8 : Int) - (n : Int) = ((8 - n : Nat) : Int) := by omega
    have hval : b / 2 ^ (8 - n) = strV s / 2 ^ k := by
      have hlt : strV s / 256 ^ (s.size - 1) < 256 := by
        apply Nat.div_lt_of_lt_mul
        rw [← Nat.pow_succ, pow256]
        exact Nat.lt_of_lt_of_le (strV_lt s) (Nat.pow_le_pow_right (by decide) (by omega))
      rw [Nat.mod_eq_of_lt hlt] at hv
      have hv' : strV s / 256 ^ (s.size - 1) = b := hv
      rw [← hv', Nat.div_div_eq_div_mul, pow256, ← Nat.pow_add, show 8 * (s.size - 1) + (8 - n) = k by omega]
    refine aw_draw (by kernel_rfl) ?_
    simp (maxSteps := 1000000) (disch := first | omega | (simp only [z1, z2, z3, z4, z5, z6, z7] <;> omega) | fail) only [go_sem, hr, e1, e2, hbb, u8_shr b (8 - n) (by omega), hval]
    refine ifB_dec (fun hz => ?_) (fun hz => ?_)
    · simp (maxSteps := 1000000) (disch := first | omega | (simp only [z1, z2, z3, z4, z5, z6, z7] <;> omega) | fail) only [go_sem, Try.results30]
      exact gc_fin' hw (Over.refl _) (by unfold endS; rw [if_pos (.inr (by omega))]) (by simp only [bnd_int])
    · simp (maxSteps := 1000000) (disch := first | omega | (simp only [z1, z2, z3, z4, z5, z6, z7] <;> omega) | fail) only [go_sem, Try.results30]
      exact gc_fin' hw (Over.refl _) (by unfold endS; rw [if_neg (by omega)]) (by simp only [bnd_int])

end Go.Fw

set_option linter.unusedSimpArgs false
set_option linter.unusedVariables false
set_option maxRecDepth 4000
namespace Go.Fw
open Go.Proofs Go.RowKit
/-- Bits, the lowest first, and the number that they are. -/
def bitsN (n k : Nat) : List Nat := (List.range k).map fun j => n / 2 ^ j % 2
theorem bitsN_succ (n k : Nat) : bitsN n (k + 1) = bitsN n k ++ [n / 2 ^ k % 2] := by simp [bitsN, List.range_succ]
theorem bitsN_length (n k : Nat) : (bitsN n k).length = k := by simp [bitsN]
def bitsL (l : List (Int × Int)) : List Nat := l.flatMap fun p => bitsN p.1.toNat p.2.toNat
def valN : List Nat → Nat
  | [] => 0
  | b :: r => b + 2 * valN r
theorem valN_append : ∀ (a b : List Nat), valN (a ++ b) = valN a + 2 ^ a.length * valN b
  | [], b => by simp [valN]
  | x :: a, b => by
    simp only [List.cons_append, valN, valN_append a b, List.length_cons, Nat.pow_succ]
    rw [Nat.mul_add, ← Nat.mul_assoc, Nat.mul_comm 2 (2 ^ a.length), Nat.add_assoc]
theorem valN_bits (n : Nat) : ∀ k, valN (bitsN n k) = n % 2 ^ k
  | 0 => by simp [bitsN, valN, Nat.mod_one]
  | k + 1 => by
    rw [bitsN_succ, valN_append, valN_bits n k, bitsN_length]
    simp only [valN, Nat.mul_zero, Nat.add_zero]
    rw [Nat.pow_succ, Nat.mod_mul]
def Bits (l : List Nat) : Prop := ∀ b ∈ l, b < 2
theorem valN_lt : ∀ (l : List Nat), Bits l → valN l < 2 ^ l.length
  | [], _ => by simp [valN]
  | b :: r, h => by
    have h1 := h b (List.mem_cons_self ..)
    have h2 := valN_lt r fun x hx => h x (List.mem_cons_of_mem _ hx)
    simp only [valN, List.length_cons, Nat.pow_succ]
    omega
theorem bits_N (n k : Nat) : Bits (bitsN n k) := fun b hb => by
  obtain ⟨j, _, rfl⟩ := List.mem_map.1 hb
  exact Nat.mod_lt _ (by decide)
theorem bits_L (l : List (Int × Int)) : Bits (bitsL l) := fun b hb => by
  obtain ⟨p, _, hp⟩ := List.mem_flatMap.1 hb
  exact bits_N _ _ b hp
theorem bitsL_snoc (l : List (Int × Int)) (i : Nat) (p : Int × Int) (h : l[i]? = some p) : bitsL (l.take (i + 1)) = bitsL (l.take i) ++ bitsN p.1.toNat p.2.toNat := by
  unfold bitsL
  rw [List.take_add_one, h, List.flatMap_append]; simp
theorem mayN {p : Int × Int} (h0 : 0 ≤ p.1) (h : mayB p = true) : ∃ n w : Nat, p = ((n : Int), (w : Int)) ∧ w ≤ 24 ∧ n < 2 ^ w := by
  obtain ⟨h1, h2, h3⟩ := mayB_iff h
  obtain ⟨a, b⟩ := p
  simp only at h0 h1 h2 h3
  obtain ⟨n, rfl⟩ := Int.eq_ofNat_of_zero_le h0
  obtain ⟨w, rfl⟩ := Int.eq_ofNat_of_zero_le h1
  refine ⟨n, w, rfl, by omega, ?_⟩
  simp only [Int.toNat_natCast] at h3
  rw [show ((2 : Int) ^ w) = ((2 ^ w : Nat) : Int) by rw [Int.natCast_pow]; rfl] at h3
  exact Int.ofNat_lt.1 h3
theorem packW_bits (l : List (Int × Int)) (hl : ∀ p ∈ l, PcOk p) (hm : packOk l = true) : ∀ i, i ≤ l.length → (packW (l.take i)).1 = valN (bitsL (l.take i)) ∧ (packW (l.take i)).2 = (bitsL (l.take i)).length
  | 0, _ => by simp [packW, bitsL, valN]
  | i + 1, hi => by
    obtain ⟨p, hp⟩ : ∃ p, l[i]? = some p := ⟨l[i]'(by omega), List.getElem?_eq_getElem _⟩
    have hmem := List.mem_of_getElem? hp
    have hmay : mayB p = true := List.all_eq_true.1 hm p hmem
    obtain ⟨n, w, rfl, hw, hn⟩ := mayN (hl p hmem).1 hmay
    obtain ⟨h1, h2⟩ := packW_bits l hl hm i (by omega)
    rw [packW_snoc l i _ hp, bitsL_snoc l i _ hp, stP, if_pos hmay]
    simp only [Int.toNat_natCast, List.length_append, bitsN_length, valN_append, valN_bits, h1, h2, and_true]
    rw [Nat.mod_eq_of_lt hn, Nat.mul_comm]
theorem bitsL_len (l : List (Int × Int)) (hl : ∀ p ∈ l, PcOk p) (hm : packOk l = true) (i : Nat) (hi : i ≤ l.length) : (bitsL (l.take i)).length ≤ 24 * i := by
  rw [← (packW_bits l hl hm i hi).2]; exact packW_le l i
theorem valN_split (l : List Nat) (m : Nat) : valN l = valN (l.take m) + 2 ^ (l.take m).length * valN (l.drop m) := by
  rw [← valN_append, List.take_append_drop]
theorem bits_take {l : List Nat} (h : Bits l) (m : Nat) : Bits (l.take m) := fun b hb => h b (List.mem_of_mem_take hb)
theorem bits_drop {l : List Nat} (h : Bits l) (m : Nat) : Bits (l.drop m) := fun b hb => h b (List.mem_of_mem_drop hb)
theorem valN_div {l : List Nat} (h : Bits l) (m : Nat) : valN l / 2 ^ m = valN (l.drop m) := by
  by_cases hm : m ≤ l.length
  · have hlt := valN_lt _ (bits_take h m)
    rw [valN_split l m]
    rw [List.length_take, Nat.min_eq_left hm] at hlt ⊢
    rw [Nat.add_mul_div_left _ _ (Nat.two_pow_pos m), Nat.div_eq_of_lt hlt, Nat.zero_add]
  · rw [List.drop_eq_nil_of_le (by omega)]
    exact Nat.div_eq_of_lt (Nat.lt_of_lt_of_le (valN_lt l h) (Nat.pow_le_pow_right (by decide) (by omega)))
theorem valN_mod {l : List Nat} (h : Bits l) (m : Nat) : valN l % 2 ^ m = valN (l.take m) := by
  by_cases hm : m ≤ l.length
  · have hlt := valN_lt _ (bits_take h m)
    rw [valN_split l m]
    rw [List.length_take, Nat.min_eq_left hm] at hlt ⊢
    rw [Nat.add_mul_mod_self_left, Nat.mod_eq_of_lt hlt]
  · rw [List.take_of_length_le (by omega)]
    exact Nat.mod_eq_of_lt (Nat.lt_of_lt_of_le (valN_lt l h) (Nat.pow_le_pow_right (by decide) (by omega)))
theorem valN_chunk {l : List Nat} (h : Bits l) (j : Nat) : valN l / 256 ^ j % 256 = valN ((l.drop (8 * j)).take 8) := by
  rw [pow256, valN_div h, show 256 = 2 ^ 8 from rfl, valN_mod (bits_drop h _)]
theorem valN_take_succ {l : List Nat} {k b : Nat} (h : l[k]? = some b) : valN (l.take (k + 1)) = valN (l.take k) + b * 2 ^ k := by
  rw [List.take_add_one, h, valN_append, List.length_take, Nat.min_eq_left (by have := (List.getElem?_eq_some_iff.1 h).1; omega)]
  simp [valN, Nat.mul_comm]
/-- A piece's cells; how an argument's pieces are read. -/
def pcE (p : Int × Int) : List Value := [.int .u32 p.1, .int .i64 p.2]
theorem pcE_len (p : Int × Int) : (pcE p).length = 2 := rfl
theorem flatP_eq : ∀ l : List (Int × Int), l.flatMap pcE = flatP l
  | [] => rfl
  | p :: l => by rw [List.flatMap_cons, flatP_eq l]; rfl
def packS (l : List (Int × Int)) : ByteArray × Int := if packOk l then (strOfNums (le (((packW l).2 + 7) / 8) (packW l).1), 0) else (.empty, 1)
theorem packR_eq (l : List (Int × Int)) : packR l = .tuple #[.string (packS l).1, .int .i64 (packS l).2] := by unfold packR packS; split <;> rfl
theorem packW_b (l : List (Int × Int)) (hl : ∀ p ∈ l, PcOk p) (hm : packOk l = true) : packW l = (valN (bitsL l), (bitsL l).length) := by
  have := packW_bits l hl hm l.length (Nat.le_refl _)
  rw [List.take_length] at this
  exact Prod.ext this.1 this.2
theorem packS_ok {l : List (Int × Int)} (hl : ∀ p ∈ l, PcOk p) (hm : packOk l = true) : packS l = (strOfNums (le (((bitsL l).length + 7) / 8) (valN (bitsL l))), 0) := by
  unfold packS; rw [if_pos hm, packW_b l hl hm]
theorem bitsL_append (a b : List (Int × Int)) : bitsL (a ++ b) = bitsL a ++ bitsL b := List.flatMap_append
theorem takeS_short {s : ByteArray} {k w : Nat} (hw : w ≤ 24) (h : 8 * s.size - k < w) : takeS s k (w : Int) = (0, 40, k) := by
  unfold takeS; rw [if_neg (by omega), if_pos (by omega)]
theorem takeS_fine {s : ByteArray} {k w : Nat} (hw : w ≤ 24) (h : w ≤ 8 * s.size - k) : takeS s k (w : Int) = (((strV s / 2 ^ k % 2 ^ w : Nat) : Int), 0, k + w) := by
  unfold takeS; rw [if_neg (by omega), if_neg (by omega)]; rfl
theorem le_byte (k V : Nat) : ∀ x ∈ le k V, Byte x := by
  intro x hx
  obtain ⟨i, _, rfl⟩ := List.mem_map.1 hx
  have := Nat.mod_lt (V / 256 ^ i) (show 0 < 256 by decide)
  unfold Byte
  omega
theorem leV_append : ∀ (a b : List Int), leV (a ++ b) = leV a + 256 ^ a.length * leV b
  | [], b => by simp [leV]
  | x :: a, b => by
    simp only [List.cons_append, leV, leV_append a b, List.length_cons, Nat.pow_succ]
    rw [Nat.mul_add, ← Nat.mul_assoc, Nat.mul_comm 256 (256 ^ a.length), Nat.add_assoc]
theorem leV_le (V : Nat) : ∀ k, leV (le k V) = V % 256 ^ k
  | 0 => by simp [le, leV, Nat.mod_one]
  | k + 1 => by
    rw [le_succ, leV_append, leV_le V k, le_length]
    simp only [leV, Nat.mul_zero, Nat.add_zero, Int.toNat_natCast]
    rw [Nat.pow_succ, Nat.mod_mul]
theorem packS_V {l : List (Int × Int)} (hl : ∀ p ∈ l, PcOk p) (hm : packOk l = true) : strV (packS l).1 = valN (bitsL l) := by
  rw [packS_ok hl hm]
  unfold strV
  rw [nums_str (le_byte _ _), leV_le, Nat.mod_eq_of_lt]
  rw [pow256]
  exact Nat.lt_of_lt_of_le (valN_lt _ (bits_L l)) (Nat.pow_le_pow_right (by decide) (by omega))
theorem packS_size {l : List (Int × Int)} (hl : ∀ p ∈ l, PcOk p) (hm : packOk l = true) : (packS l).1.size = ((bitsL l).length + 7) / 8 := by rw [packS_ok hl hm, str_size, le_length]
theorem piece_at {l : List (Int × Int)} {i n w : Nat} (h : l[i]? = some ((n : Int), (w : Int))) (hn : n < 2 ^ w) : valN (bitsL l) / 2 ^ (bitsL (l.take i)).length % 2 ^ w = n := by
  have hsp : bitsL l = bitsL (l.take i) ++ (bitsN n w ++ bitsL (l.drop (i + 1))) := by
    conv => lhs; rw [← List.take_append_drop (i + 1) l, bitsL_append, bitsL_snoc l i _ h]
    simp
  rw [valN_div (bits_L l), valN_mod (bits_drop (bits_L l) _)]
  rw [show (bitsL l).drop (bitsL (l.take i)).length = bitsN n w ++ bitsL (l.drop (i + 1)) by conv => lhs; rw [hsp]; rw [List.drop_left]]
  rw [List.take_left' (bitsN_length n w), valN_bits, Nat.mod_eq_of_lt hn]
end Go.Fw

set_option linter.unusedSimpArgs false
set_option linter.unusedVariables false
set_option maxRecDepth 4000
namespace Go.Fw
open Go.Proofs Go.RowKit
theorem Try.enters45 : Enters Try.prog 45 := enters_of Try.func45 rfl (by kernel_rfl)
set_option maxHeartbeats 1000000 in
theorem rmay_ok (w0 : World) (A : St) (p : Int × Int) (hp : PcOk p) : ACalls Try.prog w0 45 #[pcV p] A (fin (.bool (mayB p)) A) := by
  obtain ⟨n, wd⟩ := p
  unfold pcV
  refine call_E Try.enters45 Try.func45 rfl (Nat.le_of_ble_eq_true rfl) fun hw hbd => ?_
  simp (maxSteps := 1000000) (disch := first | omega | (simp only [z1, z2, z3, z4, z5, z6, z7] <;> omega) | fail) only [go_sem, Try.ntmps45, Try.results45]
  obtain ⟨hn0, hn1, hn2, hn3⟩ := hp
  simp only at hn0 hn1 hn2 hn3
  by_cases h1 : 0 ≤ wd
  · by_cases h2 : wd ≤ 24
    · obtain ⟨k, rfl⟩ := Int.eq_ofNat_of_zero_le h1
      have hk : 2 ^ k ≤ 2 ^ 24 := Nat.pow_le_pow_right (by decide) (by omega)
      have he : ishl .u64 1 (k : Int) = ((2 ^ k : Nat) : Int) := by
        rw [ishl_eq .u64 rfl 1 k (by simp only [IntKind.bits]; omega) (by omega) (by rw [Int.one_mul, show ((2 : Int) ^ k) = ((2 ^ k : Nat) : Int) by rw [Int.natCast_pow]; rfl]; simp only [IntKind.bits]; omega), Int.one_mul, Int.natCast_pow]; rfl
      refine aw_draw (by kernel_rfl) ?_
      simp (maxSteps := 1000000) (disch := first | omega | (simp only [z1, z2, z3, z4, z5, z6, z7] <;> omega) | fail) only [go_sem, he, Try.results45]
      refine gc_fin' hw ((Over.refl _).alloc _) (congrArg Value.bool ?_) (by simp only [bnd_bool])
      unfold mayB
      rw [decide_eq_decide]
      simp only [Int.toNat_natCast, Int.natCast_pow]
      exact ⟨fun h => ⟨h1, h2, h.2⟩, fun h => ⟨⟨h1, h2⟩, h.2.2⟩⟩
    · refine aw_draw (by kernel_rfl) ?_
      simp (maxSteps := 1000000) (disch := first | omega | (simp only [z1, z2, z3, z4, z5, z6, z7] <;> omega) | fail) only [go_sem, Try.results45]
      exact gc_fin' hw ((Over.refl _).alloc _) (by unfold mayB; rw [decide_eq_false (by intro h; exact h2 h.2.1)]) (by simp only [bnd_bool])
  · refine aw_draw (by kernel_rfl) ?_
    simp (maxSteps := 1000000) (disch := first | omega | (simp only [z1, z2, z3, z4, z5, z6, z7] <;> omega) | fail) only [go_sem, Try.results45]
    exact gc_fin' hw ((Over.refl _).alloc _) (by unfold mayB; rw [decide_eq_false (by intro h; exact h1 h.1)]) (by simp only [bnd_bool])
theorem Try.enters47 : Enters Try.prog 47 := enters_of Try.func47 rfl (by kernel_rfl)
theorem Try.enters46 : Enters Try.prog 46 := enters_of Try.func46 rfl (by kernel_rfl)
def bitV (b : Nat) : Value := .int .u8 (b : Int)
theorem u32_and1 (n k : Nat) (hn : n < 4294967296) (hk : k ≤ 24) : ibits .and .u32 (ishr .u32 (n : Int) (k : Int)) 1 = ((n / 2 ^ k % 2 : Nat) : Int) := by
  rw [ishr_eq .u32 _ k (by simp only [IntKind.bits]; omega), show ((n : Int) / 2 ^ k) = ((n / 2 ^ k : Nat) : Int) by rw [Int.natCast_ediv, Int.natCast_pow]; rfl]
  have hlt : n / 2 ^ k < 4294967296 := Nat.lt_of_le_of_lt (Nat.div_le_self _ _) hn
  generalize n / 2 ^ k = q at *
  have := and_mask .u32 rfl (q : Int) 1 ⟨by omega, by simp only [IntKind.bits]; omega⟩ (by decide)
  rw [show ((2 : Int) ^ 1 - 1) = 1 from rfl] at this
  rw [this]; rfl
set_option maxHeartbeats 4000000 in
theorem rbits_ok (w0 : World) (A : St) (v : Value) (l : List (Int × Int)) (hl : ∀ p ∈ l, PcOk p) (hm : packOk l = true) (hlen : l.length ≤ 1073741824) (hv : View A 2 (flatP l) l.length v) :
    ACalls Try.prog w0 47 #[v] A (fun e A' => ∃ v', e = .returned v' ∧ Over A A' ∧ Row A' 5 1 A.next ((bitsL l).map bitV) (bitsL l).length v') := by
  refine call_E Try.enters47 Try.func47 rfl (Nat.le_of_ble_eq_true rfl) fun hw hbd => ?_
  simp (maxSteps := 1000000) (disch := first | omega | (simp only [z1, z2, z3, z4, z5, z6, z7] <;> omega) | fail) only [go_sem, Try.ntmps47, Try.results47]
  refine aw_loop (fun k a A' => ∃ (ρ : Nat → Value) (i : Nat), a = E 35 ρ [] ∧ k = l.length - i ∧ i ≤ l.length ∧ Over A A' ∧ ρ 0 = v ∧ ρ 4 = .int .i64 i ∧ Row A' 5 1 A.next ((bitsL (l.take i)).map bitV) (bitsL (l.take i)).length (ρ 3)) l.length
    ⟨_, 0, rfl, rfl, by omega, (Over.refl A).alloc _, rfl, rfl, ⟨rfl, .inr ⟨A.next, none, rfl, .inl rfl, Nat.le_refl _, by simp, get_alloc_same ..⟩⟩⟩ ?_
  rintro k a A' ⟨ρ, i, rfl, rfl, hi, hov, h0, h4, h3⟩
  refine aw_of ?_
  have hv2 := hv.over hov
  simp (maxSteps := 1000000) (disch := first | omega | (simp only [z1, z2, z3, z4, z5, z6, z7] <;> omega) | fail) only [go_sem, h0, h4, hv2.lenU]
  refine ifB_dec (fun hlt => ?_) (fun hlt => ?_)
  rotate_left
  · have hil : i = l.length := by omega
    subst hil
    simp (maxSteps := 1000000) (disch := first | omega | (simp only [z1, z2, z3, z4, z5, z6, z7] <;> omega) | fail) only [go_sem, h3, Try.results47]
    rw [List.take_length] at h3
    exact gc_here ⟨_, rfl, hov, h3⟩
  obtain ⟨p, hp⟩ : ∃ p, l[i]? = some p := ⟨l[i]'(by omega), List.getElem?_eq_getElem _⟩
  have hmem := List.mem_of_getElem? hp
  obtain ⟨n, w, rfl, hw24, hn⟩ := mayN (hl p hmem).1 (List.all_eq_true.1 hm p hmem)
  have hln := bitsL_len l hl hm i hi
  simp (maxSteps := 1000000) (disch := first | omega | (simp only [z1, z2, z3, z4, z5, z6, z7] <;> omega) | fail) only [go_sem]
  refine aw_hide fun Q hQ => ?_
  refine aw_loop (fun m a A' => ∃ (ρ : Nat → Value) (k : Nat), a = E 35 ρ [] ∧ m = w - k ∧ k ≤ w ∧ Over A A' ∧ ρ 0 = v ∧ ρ 4 = .int .i64 i ∧ ρ 5 = .int .i64 k ∧ Row A' 5 1 A.next ((bitsL (l.take i) ++ bitsN n k).map bitV) (bitsL (l.take i) ++ bitsN n k).length (ρ 3)) w
    ⟨_, 0, rfl, rfl, by omega, hov, ?_, ?_, rfl, ?_⟩ ?_
  · simp (maxSteps := 1000000) (disch := first | omega | (simp only [z1, z2, z3, z4, z5, z6, z7] <;> omega) | fail) only [go_sem, h0]
  · simp (maxSteps := 1000000) (disch := first | omega | (simp only [z1, z2, z3, z4, z5, z6, z7] <;> omega) | fail) only [go_sem, h4]
  · simp (maxSteps := 1000000) (disch := first | omega | (simp only [z1, z2, z3, z4, z5, z6, z7] <;> omega) | fail) only [go_sem]
    simpa [bitsN] using h3
  clear h3 h4 h0 ρ hv2 hov A'
  rintro m a A' ⟨ρ, k, rfl, rfl, hk, hov, h0, h4, h5, h3⟩
  have hv2 := hv.over hov
  obtain ⟨b, off, hb1, hb2, hix, cells, e', m, hg, hln2, hpc, hc0, hc1⟩ := pcs_at (P := Try.prog) (e := 60) hv2 Try.sz60 hp
  refine aw_of ?_
  simp (maxSteps := 1000000) (disch := first | omega | (simp only [z1, z2, z3, z4, z5, z6, z7] <;> omega) | fail) only [go_sem, h0, h4, h5, hix, hg, hc1]
  refine ifB_dec (fun hlt2 => ?_) (fun hlt2 => ?_)
  · have hu8 : IntKind.wrap .u8 ((n / 2 ^ k % 2 : Nat) : Int) = ((n / 2 ^ k % 2 : Nat) : Int) := by simp only [IntKind.wrap, IntKind.signed, IntKind.bits, Bool.false_and, Bool.false_eq_true, if_false]; omega
    have hn32 : n < 4294967296 := Nat.lt_of_lt_of_le hn (Nat.pow_le_pow_right (by decide) (by omega : w ≤ 32))
    simp (maxSteps := 1000000) (disch := first | omega | (simp only [z1, z2, z3, z4, z5, z6, z7] <;> omega) | fail) only [go_sem, h0, h3, h4, h5, hix, hg, hc0, u32_and1 n k hn32 (by omega), hu8]
    obtain ⟨v', A2, hap, hr2, hn2, hrb, hf2⟩ := row_push (sp := none) (c := 1) (xs := [.int .u8 ((n / 2 ^ k % 2 : Nat) : Int)]) Try.el40 Try.underlying40 (by intro k; exact TypeDesc.noConfusion) Try.sz5 Try.byt5 Try.zero5 rfl h3 hov.next (by simp [bitsN_length]; omega) (by simp [bitsN_length]; omega) rfl rfl
    rw [hap]
    simp (maxSteps := 1000000) (disch := first | omega | (simp only [z1, z2, z3, z4, z5, z6, z7] <;> omega) | fail) only [go_sem, h5]
    refine ⟨w - (k + 1), by omega, _, k + 1, rfl, rfl, by omega, ⟨by have := hov.next; omega, fun b hb => ?_⟩, ?_, ?_, ?_, ?_⟩
    · rw [hf2 b (by have := hov.next; omega) (h3.ne hb), hov.get b hb]
    · simp (maxSteps := 1000000) (disch := first | omega | (simp only [z1, z2, z3, z4, z5, z6, z7] <;> omega) | fail) only [go_sem, h0]
    · simp (maxSteps := 1000000) (disch := first | omega | (simp only [z1, z2, z3, z4, z5, z6, z7] <;> omega) | fail) only [go_sem, h4]
    · simp (maxSteps := 1000000) (disch := first | omega | (simp only [z1, z2, z3, z4, z5, z6, z7] <;> omega) | fail) only [go_sem]
      rfl
    · simp (maxSteps := 1000000) (disch := first | omega | (simp only [z1, z2, z3, z4, z5, z6, z7] <;> omega) | fail) only [go_sem]
      rw [bitsN_succ, ← List.append_assoc, List.map_append, List.length_append]
      exact hr2
  · have hkw : k = w := by omega
    subst hkw
    rw [hQ]
    simp (maxSteps := 1000000) (disch := first | omega | (simp only [z1, z2, z3, z4, z5, z6, z7] <;> omega) | fail) only [go_sem, h4]
    refine ⟨l.length - (i + 1), by omega, _, i + 1, rfl, rfl, by omega, hov, ?_, ?_, ?_⟩
    · simp (maxSteps := 1000000) (disch := first | omega | (simp only [z1, z2, z3, z4, z5, z6, z7] <;> omega) | fail) only [go_sem, h0]
    · simp (maxSteps := 1000000) (disch := first | omega | (simp only [z1, z2, z3, z4, z5, z6, z7] <;> omega) | fail) only [go_sem]
      rfl
    · simp (maxSteps := 1000000) (disch := first | omega | (simp only [z1, z2, z3, z4, z5, z6, z7] <;> omega) | fail) only [go_sem]
      rw [bitsL_snoc l i _ hp]
      exact h3

theorem u8_shl (b k : Nat) (hb : b < 2) (hk : k < 8) : ishl .u8 (b : Int) (k : Int) = ((b * 2 ^ k : Nat) : Int) := by
  have hp : 2 ^ k ≤ 2 ^ 7 := Nat.pow_le_pow_right (by decide) (by omega)
  have h : b * 2 ^ k ≤ 1 * 2 ^ 7 := Nat.mul_le_mul (by omega) hp
  have e : ((b * 2 ^ k : Nat) : Int) = (b : Int) * 2 ^ k := by rw [Int.natCast_mul, Int.natCast_pow]; rfl
  rw [ishl_eq .u8 rfl (b : Int) k (by simp only [IntKind.bits]; omega) (by omega) (by rw [← e]; simp only [IntKind.bits]; omega), e]
theorem u8_or (c b k : Nat) (hb : b < 2) (hk : k < 8) (hc : c < 2 ^ k) : ibits .or .u8 (c : Int) ((b * 2 ^ k : Nat) : Int) = ((c + b * 2 ^ k : Nat) : Int) := by
  have hp : 2 ^ k ≤ 2 ^ 7 := Nat.pow_le_pow_right (by decide) (by omega)
  have h1 : b * 2 ^ k ≤ 1 * 2 ^ 7 := Nat.mul_le_mul (by omega) hp
  have e : ((b * 2 ^ k : Nat) : Int) = (b : Int) * 2 ^ k := by rw [Int.natCast_mul, Int.natCast_pow]; rfl
  have hh' : (c : Int) < 2 ^ k := by rw [show ((2 : Int) ^ k) = ((2 ^ k : Nat) : Int) by rw [Int.natCast_pow]; rfl]; exact Int.ofNat_lt.2 hc
  rw [e, or_add .u8 rfl (c : Int) (b : Int) k (by omega) hh' (by omega) (by rw [← e]; simp only [IntKind.bits]; omega), Int.natCast_add, e]
set_option maxHeartbeats 4000000 in
theorem rbytes_ok (w0 : World) (A : St) (v : Value) (bs : List Nat) (hb : Bits bs) (hlen : bs.length ≤ 1099511627776) (hv : View A 1 (bs.map bitV) bs.length v) :
    ACalls Try.prog w0 46 #[v] A (fin (.string (strOfNums (le ((bs.length + 7) / 8) (valN bs)))) A) := by
  refine call_E Try.enters46 Try.func46 rfl (Nat.le_of_ble_eq_true rfl) fun hw hbd => ?_
  simp (maxSteps := 1000000) (disch := first | omega | (simp only [z1, z2, z3, z4, z5, z6, z7] <;> omega) | fail) only [go_sem, Try.ntmps46, Try.results46]
  refine aw_loop (fun m a A' => ∃ (ρ : Nat → Value) (j : Nat), a = E 42 ρ [] ∧ m = (bs.length + 7) / 8 - j ∧ j ≤ (bs.length + 7) / 8 ∧ Over A A' ∧ ρ 0 = v ∧ ρ 4 = .int .i64 ((8 * j : Nat) : Int) ∧ Row A' 5 1 A.next ((le j (valN bs)).map (.int .u8 ·)) j (ρ 3)) ((bs.length + 7) / 8)
    ⟨_, 0, rfl, rfl, by omega, (Over.refl A).alloc _, rfl, rfl, ⟨rfl, .inr ⟨A.next, none, rfl, .inl rfl, Nat.le_refl _, by simp, get_alloc_same ..⟩⟩⟩ ?_
  rintro m a A' ⟨ρ, j, rfl, rfl, hj, hov, h0, h4, h3⟩
  refine aw_of ?_
  have hv2 := hv.over hov
  simp (maxSteps := 1000000) (disch := first | omega | (simp only [z1, z2, z3, z4, z5, z6, z7] <;> omega) | fail) only [go_sem, h0, h4, hv2.lenU]
  refine ifB_dec (fun hlt => ?_) (fun hlt => ?_)
  rotate_left
  · have hjl : j = (bs.length + 7) / 8 := by omega
    subst hjl
    simp (maxSteps := 1000000) (disch := first | omega | (simp only [z1, z2, z3, z4, z5, z6, z7] <;> omega) | fail) only [go_sem, h3.view.text Try.underlying5, Try.results46]
    exact gc_fin' hw hov rfl (by simp only [bnd_string])
  simp (maxSteps := 1000000) (disch := first | omega | (simp only [z1, z2, z3, z4, z5, z6, z7] <;> omega) | fail) only [go_sem]
  refine aw_hide fun Q hQ => ?_
  refine aw_loop (fun m a A' => ∃ (ρ : Nat → Value) (k : Nat), a = E 42 ρ [] ∧ m = 8 - k ∧ k ≤ 8 ∧ 8 * j + k ≤ bs.length ∧ Over A A' ∧ ρ 0 = v ∧ ρ 4 = .int .i64 ((8 * j : Nat) : Int) ∧ ρ 5 = .int .u8 (valN ((bs.drop (8 * j)).take k) : Nat) ∧ ρ 6 = .int .i64 k ∧ Row A' 5 1 A.next ((le j (valN bs)).map (.int .u8 ·)) j (ρ 3)) 8
    ⟨_, 0, rfl, rfl, by omega, by omega, hov, ?_, ?_, ?_, ?_, ?_⟩ ?_
  · simp (maxSteps := 1000000) (disch := first | omega | (simp only [z1, z2, z3, z4, z5, z6, z7] <;> omega) | fail) only [go_sem, h0]
  · simp (maxSteps := 1000000) (disch := first | omega | (simp only [z1, z2, z3, z4, z5, z6, z7] <;> omega) | fail) only [go_sem, h4]
  · simp (maxSteps := 1000000) (disch := first | omega | (simp only [z1, z2, z3, z4, z5, z6, z7] <;> omega) | fail) only [go_sem]
    simp [valN]
  · simp (maxSteps := 1000000) (disch := first | omega | (simp only [z1, z2, z3, z4, z5, z6, z7] <;> omega) | fail) only [go_sem]
    rfl
  · simp (maxSteps := 1000000) (disch := first | omega | (simp only [z1, z2, z3, z4, z5, z6, z7] <;> omega) | fail) only [go_sem]
    exact h3
  clear h3 h4 h0 ρ hv2 hov A'
  rintro m a A' ⟨ρ, k, rfl, rfl, hk, hkl, hov, h0, h4, h5, h6, h3⟩
  have hv2 := hv.over hov
  have e84 : ((8 * j : Nat) : Int) + (k : Int) = ((8 * j + k : Nat) : Int) := by omega
  refine aw_of ?_
  by_cases hgo : k < 8 ∧ 8 * j + k < bs.length
  · obtain ⟨b, hbk⟩ : ∃ b, bs[8 * j + k]? = some b := ⟨bs[8 * j + k]'(by omega), List.getElem?_eq_getElem _⟩
    have hb2 : b < 2 := hb b (List.mem_of_getElem? hbk)
    have hbk' : (bs.drop (8 * j))[k]? = some b := by rw [List.getElem?_drop]; exact hbk
    obtain ⟨bb, off, q1, q2, hix, cells, e', m, hg, hc⟩ := hv2.at1 (P := Try.prog) (e := 5) (x := bitV b) Try.sz5 (by rw [List.getElem?_map, hbk]; rfl)
    have hcl : valN ((bs.drop (8 * j)).take k) < 2 ^ k := by
      have := valN_lt _ (bits_take (bits_drop hb (8 * j)) k)
      rwa [List.length_take, Nat.min_eq_left (by rw [List.length_drop]; omega)] at this
    unfold bitV at hc
    simp (maxSteps := 1000000) (disch := first | omega | (simp only [z1, z2, z3, z4, z5, z6, z7] <;> omega) | fail) only [go_sem, h0, h4, h5, h6, hv2.lenU, e84, hix, hg, hc, u8_shl b k hb2 hgo.1, u8_or _ b k hb2 hgo.1 hcl]
    refine ⟨8 - (k + 1), by omega, _, k + 1, rfl, rfl, by omega, by omega, hov, ?_, ?_, ?_, ?_, ?_⟩
    · simp (maxSteps := 1000000) (disch := first | omega | (simp only [z1, z2, z3, z4, z5, z6, z7] <;> omega) | fail) only [go_sem, h0]
    · simp (maxSteps := 1000000) (disch := first | omega | (simp only [z1, z2, z3, z4, z5, z6, z7] <;> omega) | fail) only [go_sem, h4]
    · simp (maxSteps := 1000000) (disch := first | omega | (simp only [z1, z2, z3, z4, z5, z6, z7] <;> omega) | fail) only [go_sem]
      rw [valN_take_succ hbk']
    · simp (maxSteps := 1000000) (disch := first | omega | (simp only [z1, z2, z3, z4, z5, z6, z7] <;> omega) | fail) only [go_sem]
      rfl
    · simp (maxSteps := 1000000) (disch := first | omega | (simp only [z1, z2, z3, z4, z5, z6, z7] <;> omega) | fail) only [go_sem]
      exact h3
  · have hend : valN ((bs.drop (8 * j)).take k) = valN bs / 256 ^ j % 256 := by
      rw [valN_chunk hb]
      by_cases h8 : k = 8
      · rw [h8]
      · rw [List.take_of_length_le (l := bs.drop (8 * j)) (i := k) (by rw [List.length_drop]; omega), List.take_of_length_le (by rw [List.length_drop]; omega)]
    have hpos : valN bs / 256 ^ j % 256 < 256 := Nat.mod_lt _ (by decide)
    have e88 : ((8 * j : Nat) : Int) + 8 = ((8 * (j + 1) : Nat) : Int) := by omega
    have tail : ∀ ρ' : Nat → Value, ρ' 0 = v → ρ' 4 = .int .i64 ((8 * j : Nat) : Int) → ρ' 5 = .int .u8 (valN bs / 256 ^ j % 256 : Nat) → ρ' 3 = ρ 3 → Q (.exit 2) (E 42 ρ' []) A' := by
      intro ρ' p0 p4 p5 p3
      rw [hQ]
      simp (maxSteps := 1000000) (disch := first | omega | (simp only [z1, z2, z3, z4, z5, z6, z7] <;> omega) | fail) only [go_sem, p3, p4, p5]
      obtain ⟨v', A2, hap, hr2, hn2, hrb, hf2⟩ := row_push (sp := none) (c := 1) (xs := [.int .u8 ((valN bs / 256 ^ j % 256 : Nat) : Int)]) Try.el40 Try.underlying40 (by intro k; exact TypeDesc.noConfusion) Try.sz5 Try.byt5 Try.zero5 rfl h3 hov.next (by omega) (by omega) rfl rfl
      rw [hap]
      simp (maxSteps := 1000000) (disch := first | omega | (simp only [z1, z2, z3, z4, z5, z6, z7] <;> omega) | fail) only [go_sem, p4, e88]
      refine ⟨(bs.length + 7) / 8 - (j + 1), by omega, _, j + 1, rfl, rfl, by omega, ⟨by have := hov.next; omega, fun b hb => ?_⟩, ?_, ?_, ?_⟩
      · rw [hf2 b (by have := hov.next; omega) (h3.ne hb), hov.get b hb]
      · simp (maxSteps := 1000000) (disch := first | omega | (simp only [z1, z2, z3, z4, z5, z6, z7] <;> omega) | fail) only [go_sem, p0]
      · simp (maxSteps := 1000000) (disch := first | omega | (simp only [z1, z2, z3, z4, z5, z6, z7] <;> omega) | fail) only [go_sem]
      · simp (maxSteps := 1000000) (disch := first | omega | (simp only [z1, z2, z3, z4, z5, z6, z7] <;> omega) | fail) only [go_sem]
        rw [le_succ, List.map_append]
        exact hr2
    by_cases h8 : k = 8
    · subst h8
      simp (maxSteps := 1000000) (disch := first | omega | (simp only [z1, z2, z3, z4, z5, z6, z7] <;> omega) | fail) only [go_sem, h0, h4, h5, h6]
      refine tail _ ?_ ?_ ?_ ?_
      · simp (maxSteps := 1000000) (disch := first | omega | (simp only [z1, z2, z3, z4, z5, z6, z7] <;> omega) | fail) only [go_sem, h0]
      · simp (maxSteps := 1000000) (disch := first | omega | (simp only [z1, z2, z3, z4, z5, z6, z7] <;> omega) | fail) only [go_sem, h4]
      · simp (maxSteps := 1000000) (disch := first | omega | (simp only [z1, z2, z3, z4, z5, z6, z7] <;> omega) | fail) only [go_sem, h5]
        rw [hend]
      · simp (maxSteps := 1000000) (disch := first | omega | (simp only [z1, z2, z3, z4, z5, z6, z7] <;> omega) | fail) only [go_sem]
    · have hkl2 : 8 * j + k = bs.length := by omega
      simp (maxSteps := 1000000) (disch := first | omega | (simp only [z1, z2, z3, z4, z5, z6, z7] <;> omega) | fail) only [go_sem, h0, h4, h5, h6, hv2.lenU, e84]
      refine tail _ ?_ ?_ ?_ ?_
      · simp (maxSteps := 1000000) (disch := first | omega | (simp only [z1, z2, z3, z4, z5, z6, z7] <;> omega) | fail) only [go_sem, h0]
      · simp (maxSteps := 1000000) (disch := first | omega | (simp only [z1, z2, z3, z4, z5, z6, z7] <;> omega) | fail) only [go_sem, h4]
      · simp (maxSteps := 1000000) (disch := first | omega | (simp only [z1, z2, z3, z4, z5, z6, z7] <;> omega) | fail) only [go_sem, h5]
        rw [hend]
      · simp (maxSteps := 1000000) (disch := first | omega | (simp only [z1, z2, z3, z4, z5, z6, z7] <;> omega) | fail) only [go_sem]

theorem Try.enters24 : Enters Try.prog 24 := enters_of Try.func24 rfl (by kernel_rfl)
theorem all_take {l : List (Int × Int)} {i : Nat} {p : Int × Int} (h : l[i]? = some p) : (l.take (i + 1)).all mayB = ((l.take i).all mayB && mayB p) := by
  rw [List.take_add_one, h, List.all_append]; simp
set_option maxHeartbeats 4000000 in
theorem rpack_ok (w0 : World) (A : St) (v : Value) (l : List (Int × Int)) (hl : ∀ p ∈ l, PcOk p) (hlen : l.length ≤ 1073741824) (hv : View A 2 (flatP l) l.length v) : ACalls Try.prog w0 24 #[v] A (fin (packR l) A) := by
  refine call_E Try.enters24 Try.func24 rfl (Nat.le_of_ble_eq_true rfl) fun hw hbd => ?_
  simp (maxSteps := 1000000) (disch := first | omega | (simp only [z1, z2, z3, z4, z5, z6, z7] <;> omega) | fail) only [go_sem, Try.ntmps24, Try.results24]
  refine aw_loop (fun m a A' => ∃ (ρ : Nat → Value) (i : Nat), a = E 20 ρ [] ∧ m = l.length - i ∧ i ≤ l.length ∧ A' = A ∧ ρ 0 = v ∧ ρ 4 = .int .i64 i ∧ (l.take i).all mayB = true) l.length
    ⟨_, 0, rfl, rfl, by omega, rfl, rfl, rfl, rfl⟩ ?_
  rintro m a A' ⟨ρ, i, rfl, rfl, hi, rfl, h0, h4, hall⟩
  refine aw_of ?_
  simp (maxSteps := 1000000) (disch := first | omega | (simp only [z1, z2, z3, z4, z5, z6, z7] <;> omega) | fail) only [go_sem, h0, h4, hv.lenU]
  refine ifB_dec (fun hlt => ?_) (fun hlt => ?_)
  · obtain ⟨p, hp⟩ : ∃ p, l[i]? = some p := ⟨l[i]'(by omega), List.getElem?_eq_getElem _⟩
    have hmem := List.mem_of_getElem? hp
    obtain ⟨b, off, hb1, hb2, hix, cells, e', m', hg, hln, hpc, _⟩ := pcs_at (P := Try.prog) (e := 60) hv Try.sz60 hp
    simp (maxSteps := 1000000) (disch := first | omega | (simp only [z1, z2, z3, z4, z5, z6, z7] <;> omega) | fail) only [go_sem, h0, h4, hix, hg, hpc]
    refine call1 (rmay_ok w0 _ p (hl p hmem)) ?_
    by_cases hmay : mayB p = true
    · simp (maxSteps := 1000000) (disch := first | omega | (simp only [z1, z2, z3, z4, z5, z6, z7] <;> omega) | fail) only [go_sem, hmay, h4]
      refine ⟨l.length - (i + 1), by omega, _, i + 1, rfl, rfl, by omega, ?_, ?_, ?_⟩
      · simp (maxSteps := 1000000) (disch := first | omega | (simp only [z1, z2, z3, z4, z5, z6, z7] <;> omega) | fail) only [go_sem, h0]
      · simp (maxSteps := 1000000) (disch := first | omega | (simp only [z1, z2, z3, z4, z5, z6, z7] <;> omega) | fail) only [go_sem]
        rfl
      · rw [all_take hp, hall, hmay]; rfl
    · have hmay' : mayB p = false := by simpa using hmay
      simp (maxSteps := 1000000) (disch := first | omega | (simp only [z1, z2, z3, z4, z5, z6, z7] <;> omega) | fail) only [go_sem, hmay', Try.results24]
      have hno : packOk l = false := by
        rw [Bool.eq_false_iff]
        intro h
        exact hmay (List.all_eq_true.1 h p hmem)
      exact gc_fin' hw (Over.refl _) (by unfold packR; rw [hno]; rfl) (bnd_packR _ _)
  · have hil : i = l.length := by omega
    subst hil
    rw [List.take_length] at hall
    simp (maxSteps := 1000000) (disch := first | omega | (simp only [z1, z2, z3, z4, z5, z6, z7] <;> omega) | fail) only [go_sem, h0]
    refine (rbits_ok w0 A' v l hl hall hlen hv).mono ?_
    rintro e A2 ⟨v', rfl, hov, hrow⟩
    have hlb : (bitsL l).length ≤ 24 * l.length := by have := bitsL_len l hl hall l.length (Nat.le_refl _); rwa [List.take_length] at this
    simp (maxSteps := 1000000) (disch := first | omega | (simp only [z1, z2, z3, z4, z5, z6, z7] <;> omega) | fail) only [go_sem]
    refine call1 (rbytes_ok w0 A2 v' (bitsL l) (bits_L l) (by omega) hrow.view) ?_
    simp (maxSteps := 1000000) (disch := first | omega | (simp only [z1, z2, z3, z4, z5, z6, z7] <;> omega) | fail) only [go_sem, Try.results24]
    have hpw := packW_bits l hl hall l.length (Nat.le_refl _)
    rw [List.take_length] at hpw
    exact gc_fin' hw hov (by unfold packR; rw [show packOk l = true from hall, hpw.1, hpw.2]; rfl) (bnd_packR _ _)
end Go.Fw
