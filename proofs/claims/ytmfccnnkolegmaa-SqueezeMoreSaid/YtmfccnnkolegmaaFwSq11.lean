import Derived.Test.YtmfccnnkolegmaaFwSq5
import Derived.Test.YtmfccnnkolegmaaFw38
set_option linter.unusedSimpArgs false
set_option linter.unusedVariables false
set_option maxRecDepth 4000
namespace Go.Fw
open Go.Proofs Go.RowKit
/-! The reader that panics: numbers, and its table. -/
theorem Try.enters29 : Enters Try.prog 29 := enters_of Try.func29 rfl (by kernel_rfl)
theorem Try.enters48 : Enters Try.prog 48 := enters_of Try.func48 rfl (by kernel_rfl)
theorem Try.enters27 : Enters Try.prog 27 := enters_of Try.func27 rfl (by kernel_rfl)
/-- An error that is panicked with. -/
def pE (e : Int) : Value := .iface 23 (.int .i64 e)
theorem pE_bnd (n : Nat) (e : Int) : Bnd n (pE e) := .iface _ _ (.int _ _)
theorem bndU (n : Nat) : Bnd n (.tuple #[]) := .tuple _ (fun i v h => by simp at h)
theorem ifU (e : Int) : ifaceU (some (.int .i64)) 23 (.int .i64 e) = some (.iface 23 (.int .i64 e)) := rfl
theorem must_ok (w0 : World) (A : St) : ACalls Try.prog w0 29 #[.int .i64 0] A (fin (.tuple #[]) A) := by
  refine call_E (l := [.int .i64 0]) Try.enters29 Try.func29 rfl (Nat.le_of_ble_eq_true rfl) fun hw hbd => ?_
  simp (maxSteps := 1000000) (disch := first | omega | (simp only [Fw.z1, Fw.z2, Fw.z3, Fw.z4, Fw.z5, Fw.z6, Fw.z7] <;> omega) | fail) only [go_sem, Try.ntmps29, Try.results29]
  exact gc_fin hw (Over.refl _) (bndU _)
theorem must_pan (w0 : World) (A : St) (e : Int) (he : e ≠ 0) : ACalls Try.prog w0 29 #[.int .i64 e] A (pan (pE e) A) := by
  refine call_E (l := [.int .i64 e]) Try.enters29 Try.func29 rfl (Nat.le_of_ble_eq_true rfl) fun hw hbd => ?_
  simp (maxSteps := 1000000) (disch := first | omega | (simp only [Fw.z1, Fw.z2, Fw.z3, Fw.z4, Fw.z5, Fw.z6, Fw.z7] <;> omega) | fail) only [go_sem, Try.ntmps29, Try.results29, he, ifU]
  exact gc_pan hw (Over.refl _) (pE_bnd _ _)
/-- The reader's block: the bits, and the lengths. -/
def rdS (bd : Nat) (f : Nat → Nat) : Blk := .cells (.pointer (some ⟨bd, 0, none⟩) :: numC .i64 289 f) 67 (some 0)
theorem rdS_len (bd : Nat) (f : Nat → Nat) : ((Value.pointer (some ⟨bd, 0, none⟩)) :: numC .i64 289 f).length = 290 := by rw [List.length_cons, numC_len]
structure Rdr (A : St) (rb bd : Nat) (s : ByteArray) (f : Nat → Nat) (p : Nat) : Prop where
  grb : A.get rb = some (rdS bd f)
  gbd : A.get bd = some (rdB 97 s p)
  ne : rb ≠ bd
  sz : s.size ≤ 1000000
  le : p ≤ 8 * s.size
def numV (s : ByteArray) (p w : Nat) : Nat := strV s / 2 ^ p % 2 ^ w
theorem numV_lt (s : ByteArray) (p w : Nat) : numV s p w < 2 ^ w := Nat.mod_lt _ (Nat.pow_pos (by decide))
theorem conv_u32i64 {n : Nat} (h : n < 4294967296) : IntKind.i64.wrap (n : Int) = (n : Int) := wrap_small (by omega) (by omega)
set_option maxHeartbeats 1000000 in
theorem number_ok (w0 : World) (A : St) {rb bd : Nat} {s : ByteArray} {f : Nat → Nat} {p w : Nat} (h : Rdr A rb bd s f p) (hw24 : w ≤ 24) (hp : p + w ≤ 8 * s.size) :
    ACalls Try.prog w0 48 #[.pointer (some ⟨rb, 0, none⟩), .int .i64 (w : Nat)] A (fin (.int .i64 (numV s p w : Nat)) (A.upd bd (some (rdB 97 s (p + w))))) := by
  refine call_E (l := [.pointer (some ⟨rb, 0, none⟩), .int .i64 (w : Nat)]) Try.enters48 Try.func48 rfl (Nat.le_of_ble_eq_true rfl) fun hw hbd => ?_
  have g1 := h.grb
  unfold rdS at g1
  have hlt := numV_lt s p w
  have h2 : 2 ^ w ≤ 2 ^ 24 := Nat.pow_le_pow_right (by decide) hw24
  have h24 : (2 : Nat) ^ 24 = 16777216 := rfl
  have hcv := conv_u32i64 (n := numV s p w) (by omega)
  simp (maxSteps := 1000000) (disch := first | omega | (simp only [Fw.z1, Fw.z2, Fw.z3, Fw.z4, Fw.z5, Fw.z6, Fw.z7] <;> omega) | fail) only [go_sem, Try.ntmps48, Try.results48, g1]
  refine call1 (take_ok w0 A bd s p w h.gbd (by have := h.sz; omega) h.le) ?_
  rw [takeS_fine hw24 (by omega)]
  simp (maxSteps := 1000000) (disch := first | omega | (simp only [Fw.z1, Fw.z2, Fw.z3, Fw.z4, Fw.z5, Fw.z6, Fw.z7] <;> omega) | fail) only [go_sem]
  refine call1 (must_ok w0 _) ?_
  have hnv : strV s / 2 ^ p % 2 ^ w = numV s p w := rfl
  simp (maxSteps := 1000000) (disch := first | omega | (simp only [Fw.z1, Fw.z2, Fw.z3, Fw.z4, Fw.z5, Fw.z6, Fw.z7] <;> omega) | fail) only [go_sem, hnv, hcv, Try.results48]
  exact gc_upd hw (hw bd _ h.gbd).1 (RdAt.bnd _ _ _) (Over.refl _) rfl (.int _ _)
set_option maxHeartbeats 1000000 in
theorem number_pan (w0 : World) (A : St) {rb bd : Nat} {s : ByteArray} {f : Nat → Nat} {p w : Nat} (h : Rdr A rb bd s f p) (hw24 : w ≤ 24) (hp : 8 * s.size < p + w) :
    ACalls Try.prog w0 48 #[.pointer (some ⟨rb, 0, none⟩), .int .i64 (w : Nat)] A (pan (pE 40) A) := by
  refine call_E (l := [.pointer (some ⟨rb, 0, none⟩), .int .i64 (w : Nat)]) Try.enters48 Try.func48 rfl (Nat.le_of_ble_eq_true rfl) fun hw hbd => ?_
  have g1 := h.grb
  unfold rdS at g1
  simp (maxSteps := 1000000) (disch := first | omega | (simp only [Fw.z1, Fw.z2, Fw.z3, Fw.z4, Fw.z5, Fw.z6, Fw.z7] <;> omega) | fail) only [go_sem, Try.ntmps48, Try.results48, g1]
  have hle := h.le
  refine call1 (take_ok w0 A bd s p w h.gbd (by have := h.sz; omega) h.le) ?_
  rw [takeS_short hw24 (by omega)]
  rw [show A.upd bd (some (rdB 97 s (0, 40, p).2.2)) = A from upd_id h.gbd]
  simp (maxSteps := 1000000) (disch := first | omega | (simp only [Fw.z1, Fw.z2, Fw.z3, Fw.z4, Fw.z5, Fw.z6, Fw.z7] <;> omega) | fail) only [go_sem]
  refine callp (must_pan w0 _ 40 (by decide)) ?_
  simp (maxSteps := 1000000) (disch := first | omega | (simp only [Fw.z1, Fw.z2, Fw.z3, Fw.z4, Fw.z5, Fw.z6, Fw.z7] <;> omega) | fail) only [go_sem, after_pan]
  exact gc_pan hw (Over.refl _) (pE_bnd _ _)
/-- What stays of the heap while one reads. -/
structure RdK (A : St) (rb bd : Nat) (A' : St) : Prop where
  n : A.next ≤ A'.next
  ov : ∀ b, b < A.next → b ≠ rb → b ≠ bd → A'.get b = A.get b
theorem RdK.refl (A : St) (rb bd : Nat) : RdK A rb bd A := ⟨Nat.le_refl _, fun _ _ _ _ => rfl⟩
theorem RdK.trans {A B C : St} {rb bd : Nat} (h : RdK A rb bd B) (k : RdK B rb bd C) : RdK A rb bd C := ⟨Nat.le_trans h.n k.n, fun b hb h1 h2 => (k.ov b (Nat.lt_of_lt_of_le hb h.n) h1 h2).trans (h.ov b hb h1 h2)⟩
theorem RdK.over {A B C : St} {rb bd : Nat} (h : RdK A rb bd B) (k : Over B C) : RdK A rb bd C := ⟨Nat.le_trans h.n k.next, fun b hb h1 h2 => (k.get b (Nat.lt_of_lt_of_le hb h.n)).trans (h.ov b hb h1 h2)⟩
theorem RdK.rd {A B : St} {rb bd : Nat} (h : RdK A rb bd B) (X : Option Blk) : RdK A rb bd (B.upd bd X) := ⟨h.n, fun b hb h1 h2 => by rw [get_upd_old h2]; exact h.ov b hb h1 h2⟩
theorem RdK.st {A B : St} {rb bd : Nat} (h : RdK A rb bd B) (X : Option Blk) : RdK A rb bd (B.upd rb X) := ⟨h.n, fun b hb h1 h2 => by rw [get_upd_old h1]; exact h.ov b hb h1 h2⟩
theorem Rdr.rd {A : St} {rb bd : Nat} {s : ByteArray} {f : Nat → Nat} {p : Nat} (h : Rdr A rb bd s f p) {q : Nat} (hq : q ≤ 8 * s.size) : Rdr (A.upd bd (some (rdB 97 s q))) rb bd s f q :=
  ⟨by rw [get_upd_old h.ne]; exact h.grb, get_upd_same .., h.ne, h.sz, hq⟩
theorem Rdr.st {A : St} {rb bd : Nat} {s : ByteArray} {f g : Nat → Nat} {p : Nat} (h : Rdr A rb bd s f p) : Rdr (A.upd rb (some (rdS bd g))) rb bd s g p :=
  ⟨get_upd_same .., by rw [get_upd_old (fun e => h.ne e.symm)]; exact h.gbd, h.ne, h.sz, h.le⟩
theorem Rdr.over {A B : St} {rb bd : Nat} {s : ByteArray} {f : Nat → Nat} {p : Nat} (h : Rdr A rb bd s f p) (hr : rb < A.next) (hb : bd < A.next) (o : Over A B) : Rdr B rb bd s f p :=
  ⟨(o.get _ hr).trans h.grb, (o.get _ hb).trans h.gbd, h.ne, h.sz, h.le⟩
/-- The lengths in the reader, as a slice. -/
theorem Rdr.view {A : St} {rb bd : Nat} {s : ByteArray} {f : Nat → Nat} {p : Nat} (h : Rdr A rb bd s f p) (hr : rb < A.next) : InView A (numL f) (.slice (some ⟨rb, 1, none⟩) 289 289) := by
  unfold InView
  rw [flat_i64, numL_num]
  refine ⟨by rw [numC_len, numL_len], .inr ⟨rb, 1, none, 289, _, _, _, by rw [numL_len], hr, h.grb, by rw [rdS_len, numL_len]; decide, ?_⟩⟩
  rw [List.drop_succ_cons, List.drop_zero, numL_len]
  exact List.take_of_length_le (by rw [numC_len]; decide)
/-- The table of lengths that bits begin by. -/
def tabR (s : ByteArray) : Nat → Int → (Nat → Nat) → Nat → Int × (Nat → Nat) × Nat
  | 0, _, f, p => (0, f, p)
  | n + 1, bf, f, p =>
    if 8 * s.size < p + 9 then (40, f, p)
    else if 8 * s.size < p + 13 then (40, f, p)
    else if 289 ≤ numV s p 9 ∨ ((numV s p 9 : Nat) : Int) ≤ bf ∨ numV s (p + 9) 4 = 0 then (70, f, p)
    else tabR s n (numV s p 9 : Nat) (fun j => if j = numV s p 9 then numV s (p + 9) 4 else f j) (p + 13)
def tabEnd (r : Int × (Nat → Nat) × Nat) : Int × (Nat → Nat) × Nat := if r.1 ≠ 0 then r else if isCode (numL r.2.1) = true ∧ r.2.1 288 ≠ 0 then r else (70, r.2.1, r.2.2)
def tableP (s : ByteArray) : Int × (Nat → Nat) × Nat :=
  if 8 * s.size < 9 then (40, fun _ => 0, 0)
  else if 289 < numV s 0 9 then (70, fun _ => 0, 0)
  else tabEnd (tabR s (numV s 0 9) (-1) (fun _ => 0) 9)
def TabPost (A : St) (rb bd : Nat) (s : ByteArray) (r : Int × (Nat → Nat) × Nat) (e : Ending) (A' : St) : Prop :=
  RdK A rb bd A' ∧ if r.1 = 0 then e = .returned (.tuple #[]) ∧ Rdr A' rb bd s r.2.1 r.2.2 else e = .panicked [⟨pE r.1, false, false⟩]
end Go.Fw

set_option linter.unusedSimpArgs false
set_option linter.unusedVariables false
set_option maxRecDepth 4000
namespace Go.Fw
open Go.Proofs Go.RowKit
set_option maxHeartbeats 8000000 in
theorem table_ok (w0 : World) (A : St) {rb bd : Nat} {s : ByteArray} (h : Rdr A rb bd s (fun _ => 0) 0) : ACalls Try.prog w0 27 #[.pointer (some ⟨rb, 0, none⟩)] A (TabPost A rb bd s (tableP s)) := by
  refine call_E (l := [.pointer (some ⟨rb, 0, none⟩)]) Try.enters27 Try.func27 rfl (Nat.le_of_ble_eq_true rfl) fun hw hbd => ?_
  have hrb := (hw rb _ h.grb).1
  have hbd' := (hw bd _ h.gbd).1
  have hsz := h.sz
  have perr : ∀ {A' : St} {x : Int} {r : Int × (Nat → Nat) × Nat}, RdK A rb bd A' → r.1 = x → x ≠ 0 → tableP s = r → GcE A (TabPost A rb bd s (tableP s)) (.panicked [⟨pE x, false, false⟩]) A' := fun k e hx hr => gc_here ⟨k, by rw [hr, if_neg (by rw [e]; exact hx), e]⟩
  simp (maxSteps := 1000000) (disch := first | omega | (simp only [Fw.z1, Fw.z2, Fw.z3, Fw.z4, Fw.z5, Fw.z6, Fw.z7] <;> omega) | fail) only [go_sem, Try.ntmps27, Try.results27]
  by_cases h9 : 8 * s.size < 9
  · refine callp (number_pan w0 A (w := 9) h (by decide) h9) ?_
    simp (maxSteps := 1000000) (disch := first | omega | (simp only [Fw.z1, Fw.z2, Fw.z3, Fw.z4, Fw.z5, Fw.z6, Fw.z7] <;> omega) | fail) only [go_sem, after_pan]
    exact perr (RdK.refl ..) rfl (by decide) (if_pos h9)
  refine call1 (number_ok w0 A (w := 9) h (by decide) (by omega)) ?_
  have hn9 := numV_lt s 0 9
  have h29 : (2 : Nat) ^ 9 = 512 := rfl
  have hT : tableP s = if 289 < numV s 0 9 then (70, fun _ => 0, 0) else tabEnd (tabR s (numV s 0 9) (-1) (fun _ => 0) 9) := if_neg h9
  have r1 := h.rd (q := 9) (by omega)
  have k1 := (RdK.refl A rb bd).rd (some (rdB 97 s 9))
  rw [show (0 + 9 : Nat) = 9 from rfl]
  generalize A.upd bd (some (rdB 97 s 9)) = A1 at *
  generalize hN : numV s 0 9 = n at *
  by_cases hbig : 289 < n
  · have e1 : (n : Int) > 289 := by omega
    simp (maxSteps := 1000000) (disch := first | omega | (simp only [Fw.z1, Fw.z2, Fw.z3, Fw.z4, Fw.z5, Fw.z6, Fw.z7] <;> omega) | fail) only [go_sem, e1, ifU]
    exact perr k1 rfl (by decide) (by rw [hT, if_pos hbig])
  have e1 : ¬ (n : Int) > 289 := by omega
  rw [if_neg hbig] at hT
  simp (maxSteps := 1000000) (disch := first | omega | (simp only [Fw.z1, Fw.z2, Fw.z3, Fw.z4, Fw.z5, Fw.z6, Fw.z7] <;> omega) | fail) only [go_sem, e1]
  refine aw_loop (fun k x C => ∃ (ρ : Nat → Value) (i : Nat) (bf : Int) (f : Nat → Nat) (p : Nat), x = E 59 ρ [] ∧ RdK A rb bd C ∧ Rdr C rb bd s f p ∧ tabR s (n - i) bf f p = tabR s n (-1) (fun _ => 0) 9 ∧ k = n - i ∧ i ≤ n ∧ -1 ≤ bf ∧ bf ≤ 1000 ∧ ρ 0 = .pointer (some ⟨rb, 0, none⟩) ∧ ρ 3 = .int .i64 bf ∧ ρ 13 = .int .i64 n ∧ ρ 14 = .int .i64 i) n
    ⟨_, 0, -1, fun _ => 0, 9, rfl, k1, r1, rfl, rfl, Nat.zero_le _, Int.le_refl _, by decide, rfl, rfl, rfl, rfl⟩ ?_
  clear k1 r1 hn9 h29
  rintro k x C ⟨ρ, i, bf, f, p, rfl, kC, rC, hres, hk, hi, hbf, hbf2, r0, r3, r13, r14⟩
  refine aw_of ?_
  have hCn := kC.n
  by_cases hend : i = n
  rotate_left
  · have e2 : (i : Int) < (n : Int) := by omega
    obtain ⟨m, hm⟩ : ∃ m, n - i = m + 1 := ⟨n - i - 1, by omega⟩
    rw [hm, tabR] at hres
    simp (maxSteps := 1000000) (disch := first | omega | (simp only [Fw.z1, Fw.z2, Fw.z3, Fw.z4, Fw.z5, Fw.z6, Fw.z7] <;> omega) | fail) only [go_sem, r0, r3, r13, r14, e2]
    by_cases s9 : 8 * s.size < p + 9
    · rw [if_pos s9] at hres
      refine callp (number_pan w0 C (w := 9) rC (by decide) s9) ?_
      simp (maxSteps := 1000000) (disch := first | omega | (simp only [Fw.z1, Fw.z2, Fw.z3, Fw.z4, Fw.z5, Fw.z6, Fw.z7] <;> omega) | fail) only [go_sem, after_pan]
      exact perr kC rfl (by decide) (by rw [hT, ← hres] <;> rfl)
    rw [if_neg s9] at hres
    refine call1 (number_ok w0 C (w := 9) rC (by decide) (by omega)) ?_
    have rD := rC.rd (q := p + 9) (by omega)
    have kD := kC.rd (some (rdB 97 s (p + 9)))
    generalize C.upd bd (some (rdB 97 s (p + 9))) = D at *
    simp (maxSteps := 1000000) (disch := first | omega | (simp only [Fw.z1, Fw.z2, Fw.z3, Fw.z4, Fw.z5, Fw.z6, Fw.z7] <;> omega) | fail) only [go_sem, r0]
    by_cases s13 : 8 * s.size < p + 13
    · rw [if_pos s13] at hres
      refine callp (number_pan w0 D (w := 4) rD (by decide) (by omega)) ?_
      simp (maxSteps := 1000000) (disch := first | omega | (simp only [Fw.z1, Fw.z2, Fw.z3, Fw.z4, Fw.z5, Fw.z6, Fw.z7] <;> omega) | fail) only [go_sem, after_pan]
      exact perr kD rfl (by decide) (by rw [hT, ← hres] <;> rfl)
    rw [if_neg s13] at hres
    refine call1 (number_ok w0 D (w := 4) rD (by decide) (by omega)) ?_
    have rF := rD.rd (q := p + 13) (by omega)
    have kF := kD.rd (some (rdB 97 s (p + 13)))
    rw [show p + 9 + 4 = p + 13 from rfl]
    generalize D.upd bd (some (rdB 97 s (p + 13))) = F at *
    have hq1 := numV_lt s p 9
    have hq2 := numV_lt s (p + 9) 4
    generalize numV s p 9 = q1 at *
    generalize numV s (p + 9) 4 = q2 at *
    have h29 : (2 : Nat) ^ 9 = 512 := rfl
    have h24 : (2 : Nat) ^ 4 = 16 := rfl
    by_cases c1 : 289 ≤ q1
    · have d1 : (q1 : Int) ≥ 289 := by omega
      rw [if_pos (.inl c1)] at hres
      simp (maxSteps := 1000000) (disch := first | omega | (simp only [Fw.z1, Fw.z2, Fw.z3, Fw.z4, Fw.z5, Fw.z6, Fw.z7] <;> omega) | fail) only [go_sem, r0, r3, d1, ifU]
      exact perr kF rfl (by decide) (by rw [hT, ← hres] <;> rfl)
    have d1 : ¬ (q1 : Int) ≥ 289 := by omega
    by_cases c2 : (q1 : Int) ≤ bf
    · rw [if_pos (.inr (.inl c2))] at hres
      simp (maxSteps := 1000000) (disch := first | omega | (simp only [Fw.z1, Fw.z2, Fw.z3, Fw.z4, Fw.z5, Fw.z6, Fw.z7] <;> omega) | fail) only [go_sem, r0, r3, d1, c2, ifU]
      exact perr kF rfl (by decide) (by rw [hT, ← hres] <;> rfl)
    by_cases c3 : q2 = 0
    · have d3 : (q2 : Int) = 0 := by omega
      rw [if_pos (.inr (.inr c3))] at hres
      simp (maxSteps := 1000000) (disch := first | omega | (simp only [Fw.z1, Fw.z2, Fw.z3, Fw.z4, Fw.z5, Fw.z6, Fw.z7] <;> omega) | fail) only [go_sem, r0, r3, d1, c2, d3, ifU]
      exact perr kF rfl (by decide) (by rw [hT, ← hres] <;> rfl)
    have d3 : ¬ (q2 : Int) = 0 := by omega
    rw [if_neg (by omega)] at hres
    have gF := rF.grb
    unfold rdS at gF
    have hL := rdS_len bd f
    have hst : ∀ X : St, X.get rb = some (.cells (.pointer (some ⟨bd, 0, none⟩) :: numC .i64 289 f) 67 (some 0)) → storeC X (some 1) (some (.cells (.pointer (some ⟨bd, 0, none⟩) :: numC .i64 289 f) 67 (some 0))) rb (1 + q1) (.int .i64 q2) = some (X.upd rb (some (rdS bd (fun j => if j = q1 then q2 else f j)))) := fun X hX => by
      rw [storeC_int _ _ _ _ _ _ _ (Nat.zero_le _) (by omega), Nat.add_comm 1 q1, List.set_cons_succ]
      have := numC_set .i64 (n := 289) (j := q1) (f := f) (g := fun j => if j = q1 then q2 else f j) (fun j hj => if_neg hj)
      simp only [if_true] at this
      rw [this]; rfl
    have hst' := hst F gF
    have e3 : (q1 : Int) < 289 := by omega
    simp (maxSteps := 1000000) (disch := first | omega | (simp only [Fw.z1, Fw.z2, Fw.z3, Fw.z4, Fw.z5, Fw.z6, Fw.z7] <;> omega) | fail) only [go_sem, r0, r3, d1, c2, d3, gF, e3, hst', r14]
    refine ⟨k - 1, by omega, _, i + 1, (q1 : Int), _, p + 13, rfl, kF.st _, rF.st, by rw [← hres]; congr 1; omega, by omega, by omega, by omega, by omega, ?_, ?_, ?_, ?_⟩
    · simp (maxSteps := 1000000) (disch := first | omega | (simp only [Fw.z1, Fw.z2, Fw.z3, Fw.z4, Fw.z5, Fw.z6, Fw.z7] <;> omega) | fail) only [go_sem, r0]
    · simp (maxSteps := 1000000) (disch := first | omega | (simp only [Fw.z1, Fw.z2, Fw.z3, Fw.z4, Fw.z5, Fw.z6, Fw.z7] <;> omega) | fail) only [go_sem]
    · simp (maxSteps := 1000000) (disch := first | omega | (simp only [Fw.z1, Fw.z2, Fw.z3, Fw.z4, Fw.z5, Fw.z6, Fw.z7] <;> omega) | fail) only [go_sem, r13]
    · simp (maxSteps := 1000000) (disch := first | omega | (simp only [Fw.z1, Fw.z2, Fw.z3, Fw.z4, Fw.z5, Fw.z6, Fw.z7] <;> omega) | fail) only [go_sem]
      rfl
  have e2 : ¬ (i : Int) < (n : Int) := by omega
  rw [hend, Nat.sub_self] at hres
  have hres' : tabR s n (-1) (fun _ => 0) 9 = (0, f, p) := hres.symm
  rw [hres'] at hT
  have gC := rC.grb
  unfold rdS at gC
  have hL := rdS_len bd f
  have hvC := rC.view (by omega)
  simp (maxSteps := 1000000) (disch := first | omega | (simp only [Fw.z1, Fw.z2, Fw.z3, Fw.z4, Fw.z5, Fw.z6, Fw.z7] <;> omega) | fail) only [go_sem, r0, r3, r13, r14, e2, gC]
  refine (codes_ok w0 C (numL f) _ hvC (by rw [numL_len]; decide)).mono ?_
  rintro e D ⟨cv, rfl, oD, _⟩
  have rD := rC.over (by omega) (by omega) oD
  have kD := kC.over oD
  have gD := rD.grb
  unfold rdS at gD
  have hat : ((Value.pointer (some ⟨bd, 0, none⟩)) :: numC .i64 289 f)[289]? = some (.int .i64 (f 288 : Nat)) := by
    rw [List.getElem?_cons_succ]; exact numC_at .i64 f (by decide)
  rcases hc : isCode (numL f) with _ | _
  · have hcp : (codesP (numL f)).2 = 70 := by unfold codesP; rw [hc]; rfl
    simp (maxSteps := 1000000) (disch := first | omega | (simp only [Fw.z1, Fw.z2, Fw.z3, Fw.z4, Fw.z5, Fw.z6, Fw.z7] <;> omega) | fail) only [go_sem, r0, hcp, ifU]
    exact perr (r := (70, f, p)) kD rfl (by decide) (by rw [hT]; unfold tabEnd; rw [if_neg (by simp), if_neg (by rw [hc]; simp)])
  have hcp : (codesP (numL f)).2 = 0 := by unfold codesP; rw [hc]; rfl
  by_cases h0 : f 288 = 0
  · have d0 : ((f 288 : Nat) : Int) = 0 := by omega
    simp (maxSteps := 1000000) (disch := first | omega | (simp only [Fw.z1, Fw.z2, Fw.z3, Fw.z4, Fw.z5, Fw.z6, Fw.z7] <;> omega) | fail) only [go_sem, r0, hcp, gD, hat, d0, ifU]
    exact perr (r := (70, f, p)) kD rfl (by decide) (by rw [hT]; unfold tabEnd; rw [if_neg (by simp), if_neg (fun h => h.2 h0)])
  · have d0 : ¬ ((f 288 : Nat) : Int) = 0 := by omega
    simp (maxSteps := 1000000) (disch := first | omega | (simp only [Fw.z1, Fw.z2, Fw.z3, Fw.z4, Fw.z5, Fw.z6, Fw.z7] <;> omega) | fail) only [go_sem, r0, hcp, gD, hat, d0, Try.results27]
    refine gc_here ⟨kD, ?_⟩
    have hTe : tableP s = (0, f, p) := by rw [hT]; unfold tabEnd; rw [if_neg (by simp), if_pos ⟨hc, h0⟩]
    rw [hTe, if_pos rfl]
    exact ⟨rfl, rD⟩
end Go.Fw

set_option linter.unusedSimpArgs false
set_option linter.unusedVariables false
set_option maxRecDepth 4000
namespace Go.Fw
open Go.Proofs Go.RowKit
/-! The reader's tokens. -/
theorem Try.enters28 : Enters Try.prog 28 := enters_of Try.func28 rfl (by kernel_rfl)
theorem nextG_sym {l : List Int} {s : ByteArray} : ∀ (f k w p : Nat), NI l k w → (nextG l (sbit s) (8 * s.size) f k w p).2.1 = 0 → 0 ≤ (nextG l (sbit s) (8 * s.size) f k w p).1 ∧ (nextG l (sbit s) (8 * s.size) f k w p).1 < l.length
  | 0, k, w, p, _, h => by simp [nextG] at h
  | f + 1, k, w, p, hN, h => by
    rw [nextG] at h ⊢
    split at h
    · simp at h
    · rename_i h1
      rw [if_neg h1]
      split at h
      · rename_i h2
        rw [if_pos h2]
        have hb := (hN.bit (sbit_lt s p)).2
        have := (List.getElem?_eq_some_iff.1 (nthP_spec (l := l) (k := k + 1) (n := 2 * w + sbit s p - bs l (k + 1)) (by omega)).1).1
        exact ⟨by simp only; omega, by simp only; omega⟩
      · rename_i h2
        rw [if_neg h2]
        split at h
        · simp at h
        · rename_i h3
          rw [if_neg h3]
          exact nextG_sym f (k + 1) _ (p + 1) (hN.step (sbit_lt s p) h2) h
theorem nextP_sym {l : List Int} {s : ByteArray} {p : Nat} (h : (nextP l (sbit s) (8 * s.size) p).2.1 = 0) : 0 ≤ (nextP l (sbit s) (8 * s.size) p).1 ∧ (nextP l (sbit s) (8 * s.size) p).1 < l.length := by
  unfold nextP at h ⊢
  split at h
  · rename_i hc
    rw [if_pos hc]
    exact nextG_sym 15 0 0 p (NI.zero l) h
  · simp at h
def tokenX (s : ByteArray) (x : Int × Int × Nat) : Int × Tok × Bool × Nat :=
  if x.2.1 ≠ 0 then (x.2.1, (0, 0, 0), false, x.2.2)
  else if x.1 = 288 then (0, (0, 0, 0), false, x.2.2)
  else if x.1 < 256 then (0, (x.1, 0, 0), true, x.2.2)
  else if 8 * s.size < x.2.2 + 9 then (40, (0, 0, 0), false, x.2.2)
  else (0, (0, x.1 - 253, ((numV s x.2.2 9 + 1 : Nat) : Int)), true, x.2.2 + 9)
def tokenP (s : ByteArray) (f : Nat → Nat) (p : Nat) : Int × Tok × Bool × Nat := tokenX s (nextP (numL f) (sbit s) (8 * s.size) p)
def TokPost (A : St) (rb bd : Nat) (s : ByteArray) (f : Nat → Nat) (r : Int × Tok × Bool × Nat) (e : Ending) (A' : St) : Prop :=
  RdK A rb bd A' ∧ if r.1 = 0 then e = .returned (.tuple #[.agg (tkC r.2.1).toArray, .bool r.2.2.1]) ∧ Rdr A' rb bd s f r.2.2.2 else e = .panicked [⟨pE r.1, false, false⟩]
set_option maxHeartbeats 8000000 in
theorem token_ok (w0 : World) (A : St) {rb bd : Nat} {s : ByteArray} {f : Nat → Nat} {p : Nat} (h : Rdr A rb bd s f p) : ACalls Try.prog w0 28 #[.pointer (some ⟨rb, 0, none⟩)] A (TokPost A rb bd s f (tokenP s f p)) := by
  refine call_E (l := [.pointer (some ⟨rb, 0, none⟩)]) Try.enters28 Try.func28 rfl (Nat.le_of_ble_eq_true rfl) fun hw hbd => ?_
  have hrb := (hw rb _ h.grb).1
  have hbd' := (hw bd _ h.gbd).1
  have hsz := h.sz
  have hsym := nextP_sym (l := numL f) (s := s) (p := p)
  have hle := nextP_le (numL f) (sbit s) (8 * s.size) p h.le
  rw [numL_len] at hsym
  obtain ⟨A1, hA1⟩ : ∃ A1, A1 = A.alloc (.cells [.int .u8 0, .int .i64 0, .int .i64 0] 34 (some 0)) := ⟨_, rfl⟩
  have o1 : Over A A1 := by rw [hA1]; exact (Over.refl A).alloc _
  have g1 : A1.get A.next = some (.cells [.int .u8 0, .int .i64 0, .int .i64 0] 34 (some 0)) := by rw [hA1]; exact get_alloc_same ..
  have n1 : A.next < A1.next := by rw [hA1, nx_alloc]; omega
  have r1 := h.over hrb hbd' o1
  have k1 := (RdK.refl A rb bd).over o1
  have hn := next_ok w0 A1 (numL f) _ bd s p (r1.view (by omega)) (by rw [numL_len]; decide) r1.gbd (fun e => h.ne (by injection e)) (by omega) h.le
  have hP : tokenP s f p = tokenX s (nextP (numL f) (sbit s) (8 * s.size) p) := rfl
  unfold nextV at hn
  generalize nextP (numL f) (sbit s) (8 * s.size) p = x at *
  have r2 := r1.rd (q := x.2.2) hle.2
  have k2 := k1.rd (some (rdB 97 s x.2.2))
  have g2 : (A1.upd bd (some (rdB 97 s x.2.2))).get A.next = some (.cells [.int .u8 0, .int .i64 0, .int .i64 0] 34 (some 0)) := by rw [get_upd_old (by omega)]; exact g1
  have n2 : A.next < (A1.upd bd (some (rdB 97 s x.2.2))).next := n1
  have gr := r1.grb
  unfold rdS at gr
  have hL := rdS_len bd f
  simp (maxSteps := 1000000) (disch := first | omega | (simp only [Fw.z1, Fw.z2, Fw.z3, Fw.z4, Fw.z5, Fw.z6, Fw.z7] <;> omega) | fail) only [go_sem, Try.ntmps28, Try.results28]
  rw [← hA1]
  refine aw_draw2 [⟨false, [], [0]⟩, ⟨false, [0], [0]⟩, ⟨false, [0, 1], [0]⟩, ⟨false, [0, 1, 2], [0]⟩, ⟨false, [], [0]⟩, ⟨false, [4], [0]⟩, ⟨false, [4, 5], [0]⟩, ⟨false, [4, 5, 6], [0]⟩, ⟨true, [0, 1, 2, 3, 4, 5, 6, 7], [0]⟩, ⟨false, [0, 1, 2, 3, 4, 5, 6, 7, 8], [1]⟩, ⟨false, [0, 1, 2, 3, 4, 5, 6, 7, 8, 9], [1]⟩, ⟨false, [0, 1, 2, 3, 4, 5, 6, 7, 8, 9], [1]⟩, ⟨false, [0, 1, 2, 3, 4, 5, 6, 7, 8, 9, 10], [1]⟩, ⟨false, [0, 1, 2, 3, 4, 5, 6, 7, 8, 9, 10, 11, 12], [1]⟩] [A1, A1.upd bd (some (rdB 97 s x.2.2))] 1 (by kernel_rfl) (by kernel_rfl) rfl ?_
  generalize A1.upd bd (some (rdB 97 s x.2.2)) = A2 at *
  simp (maxSteps := 1000000) (disch := first | omega | (simp only [Fw.z1, Fw.z2, Fw.z3, Fw.z4, Fw.z5, Fw.z6, Fw.z7] <;> omega) | fail) only [go_sem, gr]
  refine ⟨_, hn, ?_⟩
  by_cases hx : x.2.1 = 0
  rotate_left
  · simp (maxSteps := 1000000) (disch := first | omega | (simp only [Fw.z1, Fw.z2, Fw.z3, Fw.z4, Fw.z5, Fw.z6, Fw.z7] <;> omega) | fail) only [go_sem]
    refine callp (must_pan w0 _ _ hx) ?_
    simp (maxSteps := 1000000) (disch := first | omega | (simp only [Fw.z1, Fw.z2, Fw.z3, Fw.z4, Fw.z5, Fw.z6, Fw.z7] <;> omega) | fail) only [go_sem, after_pan]
    refine gc_here ⟨k2, ?_⟩
    have : tokenP s f p = (x.2.1, (0, 0, 0), false, x.2.2) := by rw [hP]; exact if_pos hx
    rw [this, if_neg hx]
  obtain ⟨hk0, hk1⟩ := hsym hx
  simp (maxSteps := 1000000) (disch := first | omega | (simp only [Fw.z1, Fw.z2, Fw.z3, Fw.z4, Fw.z5, Fw.z6, Fw.z7] <;> omega) | fail) only [go_sem, hx]
  refine call1 (must_ok w0 _) ?_
  have hT1 : tokenP s f p = if x.1 = 288 then (0, (0, 0, 0), false, x.2.2) else if x.1 < 256 then (0, (x.1, 0, 0), true, x.2.2) else if 8 * s.size < x.2.2 + 9 then (40, (0, 0, 0), false, x.2.2) else (0, (0, x.1 - 253, ((numV s x.2.2 9 + 1 : Nat) : Int)), true, x.2.2 + 9) := by rw [hP]; exact if_neg (by simpa using hx)
  have bld0 : abuild Try.prog 34 #[] = some (.agg #[.int .u8 0, .int .i64 0, .int .i64 0]) := by kernel_rfl
  have up : ∀ {B : St} {q : Nat} (X : Option Blk), Rdr B rb bd s f q → Rdr (B.upd A.next X) rb bd s f q := fun X hB => ⟨by rw [get_upd_old (by omega)]; exact hB.grb, by rw [get_upd_old (by omega)]; exact hB.gbd, hB.ne, hB.sz, hB.le⟩
  have kup : ∀ {B : St} (X : Option Blk), RdK A rb bd B → RdK A rb bd (B.upd A.next X) := fun X hB => ⟨hB.n, fun b hb h1 h2 => by rw [get_upd_old (by omega)]; exact hB.ov b hb h1 h2⟩
  by_cases c1 : x.1 = 288
  · rw [if_pos c1] at hT1
    simp (maxSteps := 1000000) (disch := first | omega | (simp only [Fw.z1, Fw.z2, Fw.z3, Fw.z4, Fw.z5, Fw.z6, Fw.z7] <;> omega) | fail) only [go_sem, c1, bld0, g2, Try.results28]
    refine gc_here ⟨kup _ k2, ?_⟩
    rw [hT1, if_pos rfl]
    exact ⟨rfl, up _ r2⟩
  rw [if_neg c1] at hT1
  by_cases c2 : x.1 < 256
  · rw [if_pos c2] at hT1
    have hw8 : IntKind.u8.wrap x.1 = x.1 := by simp only [IntKind.wrap, IntKind.signed, IntKind.bits]; simp; omega
    simp (maxSteps := 1000000) (disch := first | omega | (simp only [Fw.z1, Fw.z2, Fw.z3, Fw.z4, Fw.z5, Fw.z6, Fw.z7] <;> omega) | fail) only [go_sem, c1, c2, hw8, g2, Try.results28]
    refine gc_here ⟨kup _ k2, ?_⟩
    rw [hT1, if_pos rfl]
    exact ⟨rfl, up _ r2⟩
  rw [if_neg c2] at hT1
  have hw1 : IntKind.i64.wrap (x.1 - 256) = x.1 - 256 := wrap_small (by omega) (by omega)
  have hw2 : IntKind.i64.wrap (x.1 - 256 + 3) = x.1 - 253 := by rw [wrap_small (by omega) (by omega)]; omega
  simp (maxSteps := 1000000) (disch := first | omega | (simp only [Fw.z1, Fw.z2, Fw.z3, Fw.z4, Fw.z5, Fw.z6, Fw.z7] <;> omega) | fail) only [go_sem, c1, c2, hw1, hw2]
  by_cases c3 : 8 * s.size < x.2.2 + 9
  · rw [if_pos c3] at hT1
    refine callp (number_pan w0 A2 (w := 9) r2 (by decide) c3) ?_
    simp (maxSteps := 1000000) (disch := first | omega | (simp only [Fw.z1, Fw.z2, Fw.z3, Fw.z4, Fw.z5, Fw.z6, Fw.z7] <;> omega) | fail) only [go_sem, after_pan]
    refine gc_here ⟨k2, ?_⟩
    rw [hT1, if_neg (by simp)]
  rw [if_neg c3] at hT1
  refine call1 (number_ok w0 A2 (w := 9) r2 (by decide) (by omega)) ?_
  have r3 := r2.rd (q := x.2.2 + 9) (by omega)
  have k3 := k2.rd (some (rdB 97 s (x.2.2 + 9)))
  have g3 : (A2.upd bd (some (rdB 97 s (x.2.2 + 9)))).get A.next = some (.cells [.int .u8 0, .int .i64 0, .int .i64 0] 34 (some 0)) := by rw [get_upd_old (by omega)]; exact g2
  generalize A2.upd bd (some (rdB 97 s (x.2.2 + 9))) = A3 at *
  have hnl := numV_lt s x.2.2 9
  have h29 : (2 : Nat) ^ 9 = 512 := rfl
  have hw3 : IntKind.i64.wrap ((numV s x.2.2 9 : Int) + 1) = ((numV s x.2.2 9 + 1 : Nat) : Int) := by rw [wrap_small (by omega) (by omega)]; omega
  simp (maxSteps := 1000000) (disch := first | omega | (simp only [Fw.z1, Fw.z2, Fw.z3, Fw.z4, Fw.z5, Fw.z6, Fw.z7] <;> omega) | fail) only [go_sem, hw3, g3, Try.results28]
  refine gc_here ⟨kup _ k3, ?_⟩
  rw [hT1, if_pos rfl]
  exact ⟨rfl, up _ r3⟩
end Go.Fw

set_option linter.unusedSimpArgs false
set_option linter.unusedVariables false
set_option maxRecDepth 4000
namespace Go.Fw
open Go.Proofs Go.RowKit
/-! What bytes are expanded to: plain; what is deferred. -/
theorem Try.enters25 : Enters Try.prog 25 := enters_of Try.func25 rfl (by kernel_rfl)
theorem leaveR_none {P : Program} {w0 : World} {g : Nat} {args : Array Value} {m : Option Value} {A A2 : St} {K : St → Prop} (he : Enters P g) (h : ADefR P w0 g args m A (fun A' => A' = A2)) (hk : K A2) : leaveFR P w0 g args m A K := ⟨he, h.mono fun A' e => by subst e; exact hk⟩
theorem excaught_none (w0 : World) (A : St) (a b : Nat) : ADefR Try.prog w0 25 #[.pointer (some ⟨a, 0, none⟩), .pointer (some ⟨b, 0, none⟩)] none A (fun A' => A' = A) := by
  refine adefR_E (l := [.pointer (some ⟨a, 0, none⟩), .pointer (some ⟨b, 0, none⟩)]) Try.func25 rfl (Nat.le_of_ble_eq_true rfl) (fun v h => by cases h) fun hw hbd => ?_
  have he : abin Try.prog .eql 20 (.tmp 5) (.const .nilIface) .nilIface .nilIface = some (.bool true) := by kernel_rfl
  simp (maxSteps := 1000000) (disch := first | omega | (simp only [Fw.z1, Fw.z2, Fw.z3, Fw.z4, Fw.z5, Fw.z6, Fw.z7] <;> omega) | fail) only [go_sem, Try.ntmps25, Option.getD_none, he, Try.results25]
theorem excaught_some (w0 : World) (A : St) (a b : Nat) (x y : Int) (z : ByteArray) (hne : a ≠ b) (ha : A.get a = some (.cells [.string z] 9 (some 0))) (hb : A.get b = some (.cells [.int .i64 y] 23 (some 0))) :
    ADefR Try.prog w0 25 #[.pointer (some ⟨a, 0, none⟩), .pointer (some ⟨b, 0, none⟩)] (some (pE x)) A (fun A' => A' = (A.upd a (some (.cells [.string ByteArray.empty] 9 (some 0)))).upd b (some (.cells [.int .i64 x] 23 (some 0)))) := by
  refine adefR_E (l := [.pointer (some ⟨a, 0, none⟩), .pointer (some ⟨b, 0, none⟩)]) Try.func25 rfl (Nat.le_of_ble_eq_true rfl) (fun v h => by cases h; exact pE_bnd _ _) fun hw hbd => ?_
  unfold pE
  have he : uI (some (.interface #[])) (.bool false) = some (.bool false) := rfl
  have ha' : aassert Try.prog (.iface 23 (.int .i64 x)) 23 true = some (.tuple #[.int .i64 x, .bool true]) := by kernel_rfl
  simp (maxSteps := 1000000) (disch := first | omega | (simp only [Fw.z1, Fw.z2, Fw.z3, Fw.z4, Fw.z5, Fw.z6, Fw.z7] <;> omega) | fail) only [go_sem, Try.ntmps25, Option.getD_some, he]
  simp (maxSteps := 1000000) (disch := first | omega | (simp only [Fw.z1, Fw.z2, Fw.z3, Fw.z4, Fw.z5, Fw.z6, Fw.z7] <;> omega) | fail) only [go_sem, ha', ha, hb, Try.results25]
  try rfl
def copyN (back : Nat) : Nat → List Int → List Int
  | 0, b => b
  | k + 1, b => copyN back k (b ++ [b.getD (b.length - back) 0])
theorem copyN_len (back : Nat) : ∀ k b, (copyN back k b).length = b.length + k
  | 0, _ => rfl
  | k + 1, b => by unfold copyN; rw [copyN_len back k]; simp; omega
/-- What is made of the bits from a place on, behind some bytes. -/
def expR (s : ByteArray) (f : Nat → Nat) (most : Int) : Nat → List Int → Nat → ByteArray × Int
  | 0, _, _ => (.empty, 40)
  | n + 1, b, p =>
    if (tokenP s f p).1 ≠ 0 then (.empty, (tokenP s f p).1)
    else if (tokenP s f p).2.2.1 = false then (if endS s (tokenP s f p).2.2.2 ≠ 0 then (.empty, endS s (tokenP s f p).2.2.2) else (strOfNums b, 0))
    else if (tokenP s f p).2.1.2.1 = 0 then (if ((b.length + 1 : Nat) : Int) > most then (.empty, 90) else expR s f most n (b ++ [(tokenP s f p).2.1.1]) (tokenP s f p).2.2.2)
    else if (tokenP s f p).2.1.2.2 > (b.length : Int) then (.empty, 80)
    else if ((copyN (tokenP s f p).2.1.2.2.toNat (tokenP s f p).2.1.2.1.toNat b).length : Int) > most then (.empty, 90)
    else expR s f most n (copyN (tokenP s f p).2.1.2.2.toNat (tokenP s f p).2.1.2.1.toNat b) (tokenP s f p).2.2.2
def expandP (s : ByteArray) (most : Int) : ByteArray × Int := if (tableP s).1 ≠ 0 then (.empty, (tableP s).1) else expR s (tableP s).2.1 most (8 * s.size + 1) [] (tableP s).2.2
def expV (s : ByteArray) (most : Int) : Value := .tuple #[.string (expandP s most).1, .int .i64 (expandP s most).2]
theorem bnd_expV (n : Nat) (s : ByteArray) (most : Int) : Bnd n (expV s most) := by unfold expV; simp only [bnd_tuple, bndL_cons, bndL_nil, bnd_int, bnd_string, and_self]
theorem nextG_lt (l : List Int) (bit : Nat → Nat) (size : Nat) (f k w p : Nat) (h : (nextG l bit size f k w p).2.1 = 0) (hp : p ≤ size) : p < (nextG l bit size f k w p).2.2 := by
  cases f with
  | zero => simp [nextG] at h
  | succ f =>
    rw [nextG] at h ⊢
    split at h
    · simp at h
    · rename_i h1
      rw [if_neg h1]
      split
      · exact Nat.lt_succ_self _
      · split
        · exact Nat.lt_succ_self _
        · have := nextG_le l bit size f (k + 1) (2 * w + bit p) (p + 1) (by omega)
          omega
/-- Tokens as the reader makes them. -/
def TokT (t : Tok) : Prop := (t.2.1 = 0 ∧ 0 ≤ t.1 ∧ t.1 ≤ 255) ∨ (3 ≤ t.2.1 ∧ t.2.1 ≤ 34 ∧ 1 ≤ t.2.2 ∧ t.2.2 ≤ 512)
theorem tokenP_law {s : ByteArray} {f : Nat → Nat} {p : Nat} (hp : p ≤ 8 * s.size) (h : (tokenP s f p).1 = 0) : p < (tokenP s f p).2.2.2 ∧ (tokenP s f p).2.2.2 ≤ 8 * s.size ∧ ((tokenP s f p).2.2.1 = true → TokT (tokenP s f p).2.1) := by
  have h1 := nextP_sym (l := numL f) (s := s) (p := p)
  have h2 := nextP_le (numL f) (sbit s) (8 * s.size) p hp
  have h3 : (nextP (numL f) (sbit s) (8 * s.size) p).2.1 = 0 → p < (nextP (numL f) (sbit s) (8 * s.size) p).2.2 := fun h => by
    unfold nextP at h ⊢
    split at h
    · rename_i hc
      rw [if_pos hc]
      exact nextG_lt _ _ _ _ _ _ _ h hp
    · simp at h
  rw [numL_len] at h1
  unfold tokenP at *
  generalize nextP (numL f) (sbit s) (8 * s.size) p = x at *
  unfold tokenX at *
  by_cases hx : x.2.1 = 0
  rotate_left
  · rw [if_pos hx] at h; exact absurd h hx
  rw [if_neg (by simpa using hx)] at h ⊢
  have h1 := h1 hx
  have h3 := h3 hx
  by_cases c1 : x.1 = 288
  · rw [if_pos c1]; exact ⟨h3, h2.2, fun h => by cases h⟩
  rw [if_neg c1] at h ⊢
  by_cases c2 : x.1 < 256
  · rw [if_pos c2]; exact ⟨h3, h2.2, fun _ => .inl ⟨rfl, h1.1, by show x.1 ≤ 255; omega⟩⟩
  rw [if_neg c2] at h ⊢
  by_cases c3 : 8 * s.size < x.2.2 + 9
  · rw [if_pos c3] at h; simp at h
  rw [if_neg c3]
  have hn := numV_lt s x.2.2 9
  have h29 : (2 : Nat) ^ 9 = 512 := rfl
  refine ⟨by simp only; omega, by simp only; omega, fun _ => .inr ⟨?_, ?_, ?_, ?_⟩⟩ <;> simp only <;> omega
theorem b_push {A : St} {lo : Nat} {l : List Int} {v : Value} (h : Row A 5 1 lo (l.map (Value.int .u8 ·)) l.length v) (x : Int) (hlo : lo ≤ A.next) (hl : l.length ≤ 1000000000) :
    ∃ v' A2, aappend Try.prog (A.alloc (.cells [.int .u8 x] 5 (some 0))) 40 40 v (.slice (some ⟨A.next, 0, none⟩) 1 1) = some (v', A2) ∧ Row A2 5 1 lo ((l ++ [x]).map (Value.int .u8 ·)) (l ++ [x]).length v' ∧ A2.next = A.next + 2 ∧ rowB v' = some (A.next + 1) ∧ ∀ b, b < A.next → rowB v ≠ some b → A2.get b = A.get b := by
  obtain ⟨v', A2, h1, h2, h3, h4, h5⟩ := row_push (A := A) (sp := none) (c := 1) (xs := [.int .u8 x]) Try.el40 Try.underlying40 (by intro k; exact TypeDesc.noConfusion) Try.sz5 Try.byt5 Try.zero5 rfl h hlo (by omega) (by omega) rfl rfl
  exact ⟨v', A2, h1, by rw [List.map_append, List.length_append]; exact h2, h3, h4, h5⟩
end Go.Fw

set_option linter.unusedSimpArgs false
set_option linter.unusedVariables false
set_option maxRecDepth 4000
namespace Go.Fw
open Go.Proofs Go.RowKit
/-! Expand. -/
theorem Try.enters12 : Enters Try.prog 12 := enters_of Try.func12 rfl (by kernel_rfl)
/-- The heap while one expands. -/
structure ExJ (A : St) (s : ByteArray) (f : Nat → Nat) (p : Nat) (A' : St) : Prop where
  ov : Over A A'
  n : A.next + 4 ≤ A'.next
  r0 : A'.get A.next = some (.cells [.string ByteArray.empty] 9 (some 0))
  r1 : A'.get (A.next + 1) = some (.cells [.int .i64 0] 23 (some 0))
  rd : Rdr A' (A.next + 3) (A.next + 2) s f p
/-- What is left of it when a call panics. -/
structure ExP (A : St) (A' : St) : Prop where
  ov : Over A A'
  r0 : A'.get A.next = some (.cells [.string ByteArray.empty] 9 (some 0))
  r1 : A'.get (A.next + 1) = some (.cells [.int .i64 0] 23 (some 0))
theorem ExJ.p {A : St} {s : ByteArray} {f : Nat → Nat} {p : Nat} {A' : St} (h : ExJ A s f p A') : ExP A A' := ⟨h.ov, h.r0, h.r1⟩
theorem ExJ.kP {A B C : St} {s : ByteArray} {f : Nat → Nat} {p : Nat} (h : ExJ A s f p B) (k : RdK B (A.next + 3) (A.next + 2) C) : ExP A C := by
  have := h.n
  refine ⟨⟨Nat.le_trans h.ov.next k.n, fun b hb => (k.ov b (by omega) (by omega) (by omega)).trans (h.ov.get b hb)⟩, ?_, ?_⟩
  · rw [k.ov _ (by omega) (by omega) (by omega)]; exact h.r0
  · rw [k.ov _ (by omega) (by omega) (by omega)]; exact h.r1
theorem ExJ.k {A B C : St} {s : ByteArray} {f g : Nat → Nat} {p q : Nat} (h : ExJ A s f p B) (k : RdK B (A.next + 3) (A.next + 2) C) (r : Rdr C (A.next + 3) (A.next + 2) s g q) : ExJ A s g q C :=
  ⟨(h.kP k).ov, Nat.le_trans h.n k.n, (h.kP k).r0, (h.kP k).r1, r⟩
theorem ExJ.over {A B C : St} {s : ByteArray} {f : Nat → Nat} {p : Nat} (h : ExJ A s f p B) (o : Over B C) : ExJ A s f p C := by
  have := h.n
  exact ⟨h.ov.trans o, Nat.le_trans h.n o.next, (o.get _ (by omega)).trans h.r0, (o.get _ (by omega)).trans h.r1, h.rd.over (by omega) (by omega) o⟩
theorem exp_fail {w0 : World} {A X : St} {s : ByteArray} {most x : Int} {ρ : Nat → Value} (hw : WF A) (h : ExP A X) (h4 : ρ 4 = .pointer (some ⟨A.next, 0, none⟩)) (h5 : ρ 5 = .pointer (some ⟨A.next + 1, 0, none⟩)) (hp : expandP s most = (.empty, x)) :
    leaveFR Try.prog w0 25 #[.pointer (some ⟨A.next, 0, none⟩), .pointer (some ⟨A.next + 1, 0, none⟩)] (some (pE x)) X (leaveKR Try.prog w0 Try.f12 (tm 69 ρ) (GcE A (fin (expV s most) A)) none []) := by
  refine leaveR_none Try.enters25 (excaught_some w0 X A.next (A.next + 1) x 0 ByteArray.empty (by omega) h.r0 h.r1) ?_
  have he : expV s most = .tuple #[.string ByteArray.empty, .int .i64 x] := by unfold expV; rw [hp]
  have hb := bnd_expV A.next s most
  simp (maxSteps := 1000000) (disch := first | omega | (simp only [Fw.z1, Fw.z2, Fw.z3, Fw.z4, Fw.z5, Fw.z6, Fw.z7] <;> omega) | fail) only [go_sem, leaveKR_nil, Try.results12, h4, h5]
  exact gc_fin' hw ((h.ov.upd (Nat.le_refl _) _).upd (by omega) _) he.symm hb
def exH (A : St) (s : ByteArray) : St := (((A.alloc (.cells [.string ByteArray.empty] 9 (some 0))).alloc (.cells [.int .i64 0] 23 (some 0))).alloc (rdB 97 s 0)).alloc (.cells (.pointer (some ⟨A.next + 2, 0, none⟩) :: numC .i64 289 fun _ => 0) 67 (some 0))
theorem exp_init (A : St) (s : ByteArray) (hs : s.size ≤ 1000000) : ExJ A s (fun _ => 0) 0 (exH A s) := by
  unfold exH
  refine ⟨((((Over.refl A).alloc _).alloc _).alloc _).alloc _, by simp only [nx_alloc]; omega, ?_, ?_, ⟨?_, ?_, by omega, hs, Nat.zero_le _⟩⟩
  · simp (disch := first | omega | (simp only [Fw.z1, Fw.z2, Fw.z3, Fw.z4, Fw.z5, Fw.z6, Fw.z7] <;> omega) | fail) only [St.get_upd, St.get_alloc, St.next_alloc, St.next_upd, ↓reduceIte, natF_lt, natF_gt, natF_ne, Nat.add_assoc, Nat.reduceAdd, Nat.reduceEqDiff, Nat.add_left_cancel_iff]
  · simp (disch := first | omega | (simp only [Fw.z1, Fw.z2, Fw.z3, Fw.z4, Fw.z5, Fw.z6, Fw.z7] <;> omega) | fail) only [St.get_upd, St.get_alloc, St.next_alloc, St.next_upd, ↓reduceIte, natF_lt, natF_gt, natF_ne, Nat.add_assoc, Nat.reduceAdd, Nat.reduceEqDiff, Nat.add_left_cancel_iff]
  · unfold rdS; simp (disch := first | omega | (simp only [Fw.z1, Fw.z2, Fw.z3, Fw.z4, Fw.z5, Fw.z6, Fw.z7] <;> omega) | fail) only [St.get_upd, St.get_alloc, St.next_alloc, St.next_upd, ↓reduceIte, natF_lt, natF_gt, natF_ne, Nat.add_assoc, Nat.reduceAdd, Nat.reduceEqDiff, Nat.add_left_cancel_iff]
  · simp (disch := first | omega | (simp only [Fw.z1, Fw.z2, Fw.z3, Fw.z4, Fw.z5, Fw.z6, Fw.z7] <;> omega) | fail) only [St.get_upd, St.get_alloc, St.next_alloc, St.next_upd, ↓reduceIte, natF_lt, natF_gt, natF_ne, Nat.add_assoc, Nat.reduceAdd, Nat.reduceEqDiff, Nat.add_left_cancel_iff]
set_option maxHeartbeats 16000000 in
theorem expand_ok (w0 : World) (A : St) (s : ByteArray) (most : Int) (hs : s.size ≤ 1000000) : ACalls Try.prog w0 12 #[.string s, .int .i64 most] A (fin (expV s most) A) := by
  refine call_ER (l := [.string s, .int .i64 most]) Try.enters12 Try.func12 rfl (Nat.le_of_ble_eq_true rfl) fun hw hbd => ?_
  simp (maxSteps := 1000000) (disch := first | omega | (simp only [Fw.z1, Fw.z2, Fw.z3, Fw.z4, Fw.z5, Fw.z6, Fw.z7] <;> omega) | fail) only [go_sem, Try.ntmps12, Try.results12]
  refine call1 (new_ok w0 _ s) ?_
  have hbld : ∀ b : Nat, abuild Try.prog 67 #[(0, .pointer (some ⟨b, 0, none⟩))] = some (.agg (.pointer (some ⟨b, 0, none⟩) :: numC .i64 289 (fun _ => 0)).toArray) := fun b => by kernel_rfl
  have hpl : (Value.pointer (some ⟨A.next + 2, 0, none⟩) :: numC .i64 289 (fun _ => 0)).all cell1 = true := by rw [List.all_cons, numC_plain]; rfl
  have j0 := exp_init A s hs
  simp (maxSteps := 1000000) (disch := first | omega | (simp only [Fw.z1, Fw.z2, Fw.z3, Fw.z4, Fw.z5, Fw.z6, Fw.z7] <;> omega) | fail) only [go_sem, hbld, hpl]
  unfold exH at j0
  generalize (((A.alloc (.cells [.string ByteArray.empty] 9 (some 0))).alloc (.cells [.int .i64 0] 23 (some 0))).alloc (rdB 97 s 0)).alloc (.cells (.pointer (some ⟨A.next + 2, 0, none⟩) :: numC .i64 289 fun _ => 0) 67 (some 0)) = B0 at *
  refine (table_ok w0 B0 j0.rd).mono ?_
  rintro e B ⟨kB, hB⟩
  have hE : expandP s most = if (tableP s).1 ≠ 0 then (.empty, (tableP s).1) else expR s (tableP s).2.1 most (8 * s.size + 1) [] (tableP s).2.2 := rfl
  generalize tableP s = tp at *
  obtain ⟨te, f, p⟩ := tp
  simp only at hB hE
  by_cases hte : te = 0
  rotate_left
  · rw [if_neg hte] at hB
    subst hB
    rw [if_pos hte] at hE
    simp (maxSteps := 1000000) (disch := first | omega | (simp only [Fw.z1, Fw.z2, Fw.z3, Fw.z4, Fw.z5, Fw.z6, Fw.z7] <;> omega) | fail) only [go_sem, after_pan, funQR_panic, leaveKR_fn]
    refine exp_fail hw (j0.kP kB) ?_ ?_ hE
    · simp (maxSteps := 1000000) (disch := first | omega | (simp only [Fw.z1, Fw.z2, Fw.z3, Fw.z4, Fw.z5, Fw.z6, Fw.z7] <;> omega) | fail) only [go_sem]
    · simp (maxSteps := 1000000) (disch := first | omega | (simp only [Fw.z1, Fw.z2, Fw.z3, Fw.z4, Fw.z5, Fw.z6, Fw.z7] <;> omega) | fail) only [go_sem]
  rw [if_pos hte] at hB
  obtain ⟨rfl, rB⟩ := hB
  rw [if_neg (by simpa using hte)] at hE
  have jB := j0.k kB rB
  simp (maxSteps := 1000000) (disch := first | omega | (simp only [Fw.z1, Fw.z2, Fw.z3, Fw.z4, Fw.z5, Fw.z6, Fw.z7] <;> omega) | fail) only [go_sem]
  have hlo : A.next + 4 ≤ B.next := jB.n
  refine aw_loop (fun k x C => ∃ (ρ : Nat → Value) (acc : List Int) (p : Nat) (bv : Value), x = E 69 ρ [⟨.fn (.func 25) #[.pointer (some ⟨A.next, 0, none⟩), .pointer (some ⟨A.next + 1, 0, none⟩)], #[]⟩] ∧ ExJ A s f p C ∧ B.next ≤ C.next ∧ Row C 5 1 B.next (acc.map (Value.int .u8 ·)) acc.length bv ∧ 8 * s.size + 1 ≤ k + p ∧ acc.length ≤ 34 * p ∧ expandP s most = expR s f most k acc p ∧ ρ 1 = .int .i64 most ∧ ρ 4 = .pointer (some ⟨A.next, 0, none⟩) ∧ ρ 5 = .pointer (some ⟨A.next + 1, 0, none⟩) ∧ ρ 6 = .pointer (some ⟨A.next + 3, 0, none⟩) ∧ ρ 7 = bv) (8 * s.size + 1)
    ⟨_, [], p, _, rfl, jB, Nat.le_refl _, Row.nil .., by omega, Nat.zero_le _, hE, rfl, rfl, rfl, rfl, rfl⟩ ?_
  clear hE hte jB rB kB
  rintro k x C ⟨ρ, acc, p, bv, rfl, jC, hBC, rp, hk, hal, hE, r1, r4, r5, r6, r7⟩
  refine aw_of ?_
  have hple := jC.rd.le
  obtain ⟨n, rfl⟩ : ∃ n, k = n + 1 := ⟨k - 1, by omega⟩
  rw [expR] at hE
  simp (maxSteps := 1000000) (disch := first | omega | (simp only [Fw.z1, Fw.z2, Fw.z3, Fw.z4, Fw.z5, Fw.z6, Fw.z7] <;> omega) | fail) only [go_sem, r1, r4, r5, r6, r7]
  refine (token_ok w0 C jC.rd).mono ?_
  rintro e D ⟨kD, hD⟩
  have hlaw := tokenP_law (s := s) (f := f) (p := p) hple
  generalize tokenP s f p = tk at *
  obtain ⟨te, ⟨tc, tn, tb⟩, mo, q⟩ := tk
  simp only at hD hE hlaw
  by_cases hte : te = 0
  rotate_left
  · rw [if_neg hte] at hD
    subst hD
    rw [if_pos hte] at hE
    simp (maxSteps := 1000000) (disch := first | omega | (simp only [Fw.z1, Fw.z2, Fw.z3, Fw.z4, Fw.z5, Fw.z6, Fw.z7] <;> omega) | fail) only [go_sem, after_pan, funQR_panic, leaveKR_fn]
    refine exp_fail hw (jC.kP kD) ?_ ?_ hE
    · simp (maxSteps := 1000000) (disch := first | omega | (simp only [Fw.z1, Fw.z2, Fw.z3, Fw.z4, Fw.z5, Fw.z6, Fw.z7] <;> omega) | fail) only [go_sem, r4]
    · simp (maxSteps := 1000000) (disch := first | omega | (simp only [Fw.z1, Fw.z2, Fw.z3, Fw.z4, Fw.z5, Fw.z6, Fw.z7] <;> omega) | fail) only [go_sem, r5]
  rw [if_pos hte] at hD
  obtain ⟨rfl, rD⟩ := hD
  rw [if_neg (by simpa using hte)] at hE
  obtain ⟨hq1, hq2, htT⟩ := hlaw hte
  have jD := jC.k kD rD
  have rpD : Row D 5 1 B.next (acc.map (Value.int .u8 ·)) acc.length bv := rp.keep kD.n (fun b _ hlo' hlt => kD.ov b hlt (by omega) (by omega)) (Nat.le_refl _)
  have hDn : B.next ≤ D.next := Nat.le_trans hBC kD.n
  obtain ⟨G, hG⟩ : ∃ G, G = (D.alloc (.cells [.int .u8 0, .int .i64 0, .int .i64 0] 34 (some 0))).upd D.next (some (.cells [.int .u8 tc, .int .i64 tn, .int .i64 tb] 34 (some 0))) := ⟨_, rfl⟩
  have oG : Over D G := by rw [hG]; exact ((Over.refl D).alloc _).upd (Nat.le_refl _) _
  have gG : G.get D.next = some (.cells [.int .u8 tc, .int .i64 tn, .int .i64 tb] 34 (some 0)) := by rw [hG]; exact get_upd_same ..
  have nG : D.next < G.next := by rw [hG, nx_upd, nx_alloc]; omega
  have jG := jD.over oG
  have rpG := rpD.over oG
  have hrb : rowB bv ≠ some D.next := fun h => by have := (rpD.rb _ h).2; omega
  unfold tkC
  simp (maxSteps := 1000000) (disch := first | omega | (simp only [Fw.z1, Fw.z2, Fw.z3, Fw.z4, Fw.z5, Fw.z6, Fw.z7] <;> omega) | fail) only [go_sem]
  rw [← hG]
  clear hG kD rD jD rpD rp jC
  cases mo with
  | false =>
    rw [if_pos rfl] at hE
    have gr := jG.rd.grb
    unfold rdS at gr
    simp (maxSteps := 1000000) (disch := first | omega | (simp only [Fw.z1, Fw.z2, Fw.z3, Fw.z4, Fw.z5, Fw.z6, Fw.z7] <;> omega) | fail) only [go_sem, r6, gr]
    refine call1 (end_ok w0 G (A.next + 2) s q jG.rd.gbd (by omega) jG.rd.le) ?_
    by_cases he0 : endS s q = 0
    rotate_left
    · rw [if_pos he0] at hE
      simp (maxSteps := 1000000) (disch := first | omega | (simp only [Fw.z1, Fw.z2, Fw.z3, Fw.z4, Fw.z5, Fw.z6, Fw.z7] <;> omega) | fail) only [go_sem]
      refine callp (must_pan w0 _ _ he0) ?_
      simp (maxSteps := 1000000) (disch := first | omega | (simp only [Fw.z1, Fw.z2, Fw.z3, Fw.z4, Fw.z5, Fw.z6, Fw.z7] <;> omega) | fail) only [go_sem, after_pan, funQR_panic, leaveKR_fn]
      refine exp_fail hw jG.p ?_ ?_ hE
      · simp (maxSteps := 1000000) (disch := first | omega | (simp only [Fw.z1, Fw.z2, Fw.z3, Fw.z4, Fw.z5, Fw.z6, Fw.z7] <;> omega) | fail) only [go_sem, r4]
      · simp (maxSteps := 1000000) (disch := first | omega | (simp only [Fw.z1, Fw.z2, Fw.z3, Fw.z4, Fw.z5, Fw.z6, Fw.z7] <;> omega) | fail) only [go_sem, r5]
    rw [if_neg (by simpa using he0)] at hE
    rw [he0]
    simp (maxSteps := 1000000) (disch := first | omega | (simp only [Fw.z1, Fw.z2, Fw.z3, Fw.z4, Fw.z5, Fw.z6, Fw.z7] <;> omega) | fail) only [go_sem]
    refine call1 (must_ok w0 _) ?_
    have htx : convU Try.prog G (some (.slice 5)) (some .string) bv = some (.string (strOfNums acc), G) := View.text rpG.view Try.underlying5
    have g0 := jG.r0
    have g1 := jG.r1
    have hGn := jG.n
    have heV : expV s most = .tuple #[.string (strOfNums acc), .int .i64 0] := by unfold expV; rw [hE]
    have hbV := bnd_expV A.next s most
    simp (maxSteps := 1000000) (disch := first | omega | (simp only [Fw.z1, Fw.z2, Fw.z3, Fw.z4, Fw.z5, Fw.z6, Fw.z7] <;> omega) | fail) only [go_sem, r1, r4, r5, r6, r7, htx, g0, g1, funQR_ret, leaveKR_fn]
    refine leaveR_none Try.enters25 (excaught_none w0 _ A.next (A.next + 1)) ?_
    simp (maxSteps := 1000000) (disch := first | omega | (simp only [Fw.z1, Fw.z2, Fw.z3, Fw.z4, Fw.z5, Fw.z6, Fw.z7] <;> omega) | fail) only [go_sem, leaveKR_nil, r4, r5, Try.results12]
    exact gc_fin' hw ((jG.ov.upd (Nat.le_refl _) _).upd (by omega) _) heV.symm hbV
  | true =>
    rw [if_neg (by simp)] at hE
    have hGn := jG.n
    have hlG : B.next ≤ G.next := by omega
    rcases htT rfl with ⟨z1, z2, z3⟩ | ⟨z1, z2, z3, z4⟩
    · simp only at z1 z2 z3
      subst z1
      rw [if_pos rfl] at hE
      obtain ⟨v1, G1, a1, a2, a3, a4, a5⟩ := b_push rpG tc hlG (by omega)
      have jG1 : ExJ A s f q G1 := by
        have hnb : ∀ b, b < B.next → G1.get b = G.get b := fun b hb => a5 b (by omega) (rpG.ne hb)
        exact ⟨⟨by have := jG.ov.next; omega, fun b hb => (hnb b (by omega)).trans (jG.ov.get b hb)⟩, by omega, (hnb _ (by omega)).trans jG.r0, (hnb _ (by omega)).trans jG.r1, ⟨(hnb _ (by omega)).trans jG.rd.grb, (hnb _ (by omega)).trans jG.rd.gbd, jG.rd.ne, jG.rd.sz, jG.rd.le⟩⟩
      have gG1 : G1.get D.next = some (.cells [.int .u8 tc, .int .i64 0, .int .i64 tb] 34 (some 0)) := (a5 _ nG hrb).trans gG
      simp (maxSteps := 1000000) (disch := first | omega | (simp only [Fw.z1, Fw.z2, Fw.z3, Fw.z4, Fw.z5, Fw.z6, Fw.z7] <;> omega) | fail) only [go_sem, r1, r4, r5, r6, r7, gG, a1, gG1]
      refine aw_loop (fun m x F => ∃ (ρ : Nat → Value), x = E 69 ρ [⟨.fn (.func 25) #[.pointer (some ⟨A.next, 0, none⟩), .pointer (some ⟨A.next + 1, 0, none⟩)], #[]⟩] ∧ F = G1 ∧ ρ 1 = .int .i64 most ∧ ρ 4 = .pointer (some ⟨A.next, 0, none⟩) ∧ ρ 5 = .pointer (some ⟨A.next + 1, 0, none⟩) ∧ ρ 6 = .pointer (some ⟨A.next + 3, 0, none⟩) ∧ ρ 7 = v1 ∧ ρ 41 = .int .i64 0 ∧ ρ 42 = .int .i64 0) 0
        ⟨_, rfl, rfl, by first | rfl | exact r1, by first | rfl | exact r4, by first | rfl | exact r5, by first | rfl | exact r6, rfl, rfl, rfl⟩ ?_
      clear r1 r4 r5 r6 r7
      rintro m x F ⟨ρ, rfl, rfl, r1, r4, r5, r6, r7, r41, r42⟩
      refine aw_of ?_
      have hlen1 : ∀ X, lenU X (some (.slice 5)) v1 = some (.int .i64 (acc ++ [tc]).length, X) := View.lenX a2.view
      rw [List.length_append, List.length_singleton] at hlen1
      by_cases hmost : ((acc.length + 1 : Nat) : Int) > most
      · rw [if_pos hmost] at hE
        simp (maxSteps := 1000000) (disch := first | omega | (simp only [Fw.z1, Fw.z2, Fw.z3, Fw.z4, Fw.z5, Fw.z6, Fw.z7] <;> omega) | fail) only [go_sem, r1, r4, r5, r6, r7, r41, r42, hlen1, hmost, ifU, funQR_panic, leaveKR_fn]
        refine exp_fail hw jG1.p ?_ ?_ hE
        · simp (maxSteps := 1000000) (disch := first | omega | (simp only [Fw.z1, Fw.z2, Fw.z3, Fw.z4, Fw.z5, Fw.z6, Fw.z7] <;> omega) | fail) only [go_sem, r4]
        · simp (maxSteps := 1000000) (disch := first | omega | (simp only [Fw.z1, Fw.z2, Fw.z3, Fw.z4, Fw.z5, Fw.z6, Fw.z7] <;> omega) | fail) only [go_sem, r5]
      · rw [if_neg hmost] at hE
        simp (maxSteps := 1000000) (disch := first | omega | (simp only [Fw.z1, Fw.z2, Fw.z3, Fw.z4, Fw.z5, Fw.z6, Fw.z7] <;> omega) | fail) only [go_sem, r1, r4, r5, r6, r7, r41, r42, hlen1, hmost]
        refine ⟨n, by omega, _, acc ++ [tc], q, v1, rfl, jG1, by omega, a2, by omega, by rw [List.length_append, List.length_singleton]; omega, hE, ?_, ?_, ?_, ?_, ?_⟩
        · simp (maxSteps := 1000000) (disch := first | omega | (simp only [Fw.z1, Fw.z2, Fw.z3, Fw.z4, Fw.z5, Fw.z6, Fw.z7] <;> omega) | fail) only [go_sem, r1]
        · simp (maxSteps := 1000000) (disch := first | omega | (simp only [Fw.z1, Fw.z2, Fw.z3, Fw.z4, Fw.z5, Fw.z6, Fw.z7] <;> omega) | fail) only [go_sem, r4]
        · simp (maxSteps := 1000000) (disch := first | omega | (simp only [Fw.z1, Fw.z2, Fw.z3, Fw.z4, Fw.z5, Fw.z6, Fw.z7] <;> omega) | fail) only [go_sem, r5]
        · simp (maxSteps := 1000000) (disch := first | omega | (simp only [Fw.z1, Fw.z2, Fw.z3, Fw.z4, Fw.z5, Fw.z6, Fw.z7] <;> omega) | fail) only [go_sem, r6]
        · simp (maxSteps := 1000000) (disch := first | omega | (simp only [Fw.z1, Fw.z2, Fw.z3, Fw.z4, Fw.z5, Fw.z6, Fw.z7] <;> omega) | fail) only [go_sem, r7]
    · simp only at z1 z2 z3 z4
      obtain ⟨N, rfl⟩ := Int.eq_ofNat_of_zero_le (show 0 ≤ tn by omega)
      obtain ⟨M, rfl⟩ := Int.eq_ofNat_of_zero_le (show 0 ≤ tb by omega)
      have d0 : ¬ ((N : Nat) : Int) = 0 := by omega
      rw [if_neg d0] at hE
      simp only [Int.toNat_natCast] at hE
      have hlenG : ∀ X, lenU X (some (.slice 5)) bv = some (.int .i64 acc.length, X) := View.lenX rpG.view
      by_cases hM : (M : Int) > (acc.length : Int)
      · rw [if_pos hM] at hE
        simp (maxSteps := 1000000) (disch := first | omega | (simp only [Fw.z1, Fw.z2, Fw.z3, Fw.z4, Fw.z5, Fw.z6, Fw.z7] <;> omega) | fail) only [go_sem, r1, r4, r5, r6, r7, gG, d0, hlenG, hM, ifU, funQR_panic, leaveKR_fn]
        refine exp_fail hw jG.p ?_ ?_ hE
        · simp (maxSteps := 1000000) (disch := first | omega | (simp only [Fw.z1, Fw.z2, Fw.z3, Fw.z4, Fw.z5, Fw.z6, Fw.z7] <;> omega) | fail) only [go_sem, r4]
        · simp (maxSteps := 1000000) (disch := first | omega | (simp only [Fw.z1, Fw.z2, Fw.z3, Fw.z4, Fw.z5, Fw.z6, Fw.z7] <;> omega) | fail) only [go_sem, r5]
      rw [if_neg hM] at hE
      simp (maxSteps := 1000000) (disch := first | omega | (simp only [Fw.z1, Fw.z2, Fw.z3, Fw.z4, Fw.z5, Fw.z6, Fw.z7] <;> omega) | fail) only [go_sem, r1, r4, r5, r6, r7, gG, d0, hlenG, hM]
      refine aw_loop (fun m x F => ∃ (ρ : Nat → Value) (j : Nat) (acc' : List Int) (v' : Value), x = E 69 ρ [⟨.fn (.func 25) #[.pointer (some ⟨A.next, 0, none⟩), .pointer (some ⟨A.next + 1, 0, none⟩)], #[]⟩] ∧ ExJ A s f q F ∧ B.next ≤ F.next ∧ D.next < F.next ∧ F.get D.next = some (.cells [.int .u8 tc, .int .i64 N, .int .i64 M] 34 (some 0)) ∧ Row F 5 1 B.next (acc'.map (Value.int .u8 ·)) acc'.length v' ∧ rowB v' ≠ some D.next ∧ m = N - j ∧ j ≤ N ∧ acc'.length = acc.length + j ∧ copyN M (N - j) acc' = copyN M N acc ∧ ρ 1 = .int .i64 most ∧ ρ 4 = .pointer (some ⟨A.next, 0, none⟩) ∧ ρ 5 = .pointer (some ⟨A.next + 1, 0, none⟩) ∧ ρ 6 = .pointer (some ⟨A.next + 3, 0, none⟩) ∧ ρ 7 = v' ∧ ρ 8 = .pointer (some ⟨D.next, 0, none⟩) ∧ ρ 41 = .int .i64 N ∧ ρ 42 = .int .i64 j) N
        ⟨_, 0, acc, bv, rfl, jG, hlG, nG, gG, rpG, hrb, rfl, Nat.zero_le _, rfl, rfl, by first | rfl | exact r1, by first | rfl | exact r4, by first | rfl | exact r5, by first | rfl | exact r6, by first | rfl | exact r7, rfl, rfl, rfl⟩ ?_
      clear r1 r4 r5 r6 r7 jG rpG hrb gG hlenG hGn hlG
      rintro m x F ⟨ρ, j, acc', v', rfl, jF, hlF, nF, gF, rpF, hrb, hm, hj, hla, hcp, r1, r4, r5, r6, r7, r8, r41, r42⟩
      refine aw_of ?_
      have hlenF : ∀ X, lenU X (some (.slice 5)) v' = some (.int .i64 acc'.length, X) := View.lenX rpF.view
      have hFn := jF.n
      by_cases hend : j = N
      rotate_left
      · have e1 : (j : Int) < (N : Int) := by omega
        obtain ⟨y, hy⟩ : ∃ y, acc'[acc'.length - M]? = some y := ⟨_, List.getElem?_eq_getElem (by omega)⟩
        have hgd : acc'.getD (acc'.length - M) 0 = y := getD_some hy
        obtain ⟨pb, po, hb1, hb2, hb3, cells, e', md, hb4, hb5⟩ := View.at1 (P := Try.prog) (e := 5) rpF.view Try.sz5 (show (acc'.map (Value.int .u8 ·))[acc'.length - M]? = some (.int .u8 y) by rw [List.getElem?_map, hy]; rfl)
        obtain ⟨v1, G1, a1, a2, a3, a4, a5⟩ := b_push rpF y hlF (by omega)
        have hw1 : IntKind.i64.wrap ((acc'.length : Int) - (M : Int)) = ((acc'.length - M : Nat) : Int) := by rw [wrap_small (by omega) (by omega)]; omega
        have hnb : ∀ b, b < B.next → G1.get b = F.get b := fun b hb => a5 b (by omega) (rpF.ne hb)
        have jG1 : ExJ A s f q G1 := ⟨⟨by have := jF.ov.next; omega, fun b hb => (hnb b (by omega)).trans (jF.ov.get b hb)⟩, by omega, (hnb _ (by omega)).trans jF.r0, (hnb _ (by omega)).trans jF.r1, ⟨(hnb _ (by omega)).trans jF.rd.grb, (hnb _ (by omega)).trans jF.rd.gbd, jF.rd.ne, jF.rd.sz, jF.rd.le⟩⟩
        have gG1 : G1.get D.next = some (.cells [.int .u8 tc, .int .i64 N, .int .i64 M] 34 (some 0)) := (a5 _ nF hrb).trans gF
        simp (maxSteps := 1000000) (disch := first | omega | (simp only [Fw.z1, Fw.z2, Fw.z3, Fw.z4, Fw.z5, Fw.z6, Fw.z7] <;> omega) | fail) only [go_sem, r1, r4, r5, r6, r7, r8, r41, r42, e1, hlenF, gF, hw1, hb3, hb4, hb5, a1]
        refine ⟨m - 1, by omega, _, j + 1, acc' ++ [y], v1, rfl, jG1, by omega, by omega, gG1, a2, by rw [a4]; intro h; injection h with h; omega, by omega, by omega, by rw [List.length_append, List.length_singleton]; omega, ?_, ?_, ?_, ?_, ?_, ?_, ?_, ?_, ?_⟩
        · obtain ⟨r, hr⟩ : ∃ r, N - j = r + 1 := ⟨N - j - 1, by omega⟩
          rw [hr, copyN, hgd] at hcp
          rw [← hcp]; congr 1; omega
        · simp (maxSteps := 1000000) (disch := first | omega | (simp only [Fw.z1, Fw.z2, Fw.z3, Fw.z4, Fw.z5, Fw.z6, Fw.z7] <;> omega) | fail) only [go_sem, r1]
        · simp (maxSteps := 1000000) (disch := first | omega | (simp only [Fw.z1, Fw.z2, Fw.z3, Fw.z4, Fw.z5, Fw.z6, Fw.z7] <;> omega) | fail) only [go_sem, r4]
        · simp (maxSteps := 1000000) (disch := first | omega | (simp only [Fw.z1, Fw.z2, Fw.z3, Fw.z4, Fw.z5, Fw.z6, Fw.z7] <;> omega) | fail) only [go_sem, r5]
        · simp (maxSteps := 1000000) (disch := first | omega | (simp only [Fw.z1, Fw.z2, Fw.z3, Fw.z4, Fw.z5, Fw.z6, Fw.z7] <;> omega) | fail) only [go_sem, r6]
        · simp (maxSteps := 1000000) (disch := first | omega | (simp only [Fw.z1, Fw.z2, Fw.z3, Fw.z4, Fw.z5, Fw.z6, Fw.z7] <;> omega) | fail) only [go_sem]
        · simp (maxSteps := 1000000) (disch := first | omega | (simp only [Fw.z1, Fw.z2, Fw.z3, Fw.z4, Fw.z5, Fw.z6, Fw.z7] <;> omega) | fail) only [go_sem, r8]
        · simp (maxSteps := 1000000) (disch := first | omega | (simp only [Fw.z1, Fw.z2, Fw.z3, Fw.z4, Fw.z5, Fw.z6, Fw.z7] <;> omega) | fail) only [go_sem, r41]
        · simp (maxSteps := 1000000) (disch := first | omega | (simp only [Fw.z1, Fw.z2, Fw.z3, Fw.z4, Fw.z5, Fw.z6, Fw.z7] <;> omega) | fail) only [go_sem]
          rfl
      have e1 : ¬ (j : Int) < (N : Int) := by omega
      rw [hend, Nat.sub_self] at hcp
      have hcp' : acc' = copyN M N acc := hcp
      rw [← hcp'] at hE
      by_cases hmost : (acc'.length : Int) > most
      · rw [if_pos hmost] at hE
        simp (maxSteps := 1000000) (disch := first | omega | (simp only [Fw.z1, Fw.z2, Fw.z3, Fw.z4, Fw.z5, Fw.z6, Fw.z7] <;> omega) | fail) only [go_sem, r1, r4, r5, r6, r7, r8, r41, r42, e1, hlenF, hmost, ifU, funQR_panic, leaveKR_fn]
        refine exp_fail hw jF.p ?_ ?_ hE
        · simp (maxSteps := 1000000) (disch := first | omega | (simp only [Fw.z1, Fw.z2, Fw.z3, Fw.z4, Fw.z5, Fw.z6, Fw.z7] <;> omega) | fail) only [go_sem, r4]
        · simp (maxSteps := 1000000) (disch := first | omega | (simp only [Fw.z1, Fw.z2, Fw.z3, Fw.z4, Fw.z5, Fw.z6, Fw.z7] <;> omega) | fail) only [go_sem, r5]
      · rw [if_neg hmost] at hE
        simp (maxSteps := 1000000) (disch := first | omega | (simp only [Fw.z1, Fw.z2, Fw.z3, Fw.z4, Fw.z5, Fw.z6, Fw.z7] <;> omega) | fail) only [go_sem, r1, r4, r5, r6, r7, r8, r41, r42, e1, hlenF, hmost]
        refine ⟨n, by omega, _, acc', q, v', rfl, jF, hlF, rpF, by omega, by omega, hE, ?_, ?_, ?_, ?_, ?_⟩
        · simp (maxSteps := 1000000) (disch := first | omega | (simp only [Fw.z1, Fw.z2, Fw.z3, Fw.z4, Fw.z5, Fw.z6, Fw.z7] <;> omega) | fail) only [go_sem, r1]
        · simp (maxSteps := 1000000) (disch := first | omega | (simp only [Fw.z1, Fw.z2, Fw.z3, Fw.z4, Fw.z5, Fw.z6, Fw.z7] <;> omega) | fail) only [go_sem, r4]
        · simp (maxSteps := 1000000) (disch := first | omega | (simp only [Fw.z1, Fw.z2, Fw.z3, Fw.z4, Fw.z5, Fw.z6, Fw.z7] <;> omega) | fail) only [go_sem, r5]
        · simp (maxSteps := 1000000) (disch := first | omega | (simp only [Fw.z1, Fw.z2, Fw.z3, Fw.z4, Fw.z5, Fw.z6, Fw.z7] <;> omega) | fail) only [go_sem, r6]
        · simp (maxSteps := 1000000) (disch := first | omega | (simp only [Fw.z1, Fw.z2, Fw.z3, Fw.z4, Fw.z5, Fw.z6, Fw.z7] <;> omega) | fail) only [go_sem, r7]
end Go.Fw
