import Derived.Test.YtpjacnialnlilaaFwPre38
set_option linter.unusedSimpArgs false
set_option linter.unusedVariables false
set_option maxRecDepth 4000
namespace Go.Fw
open Go.Proofs Go.RowKit
/-! What was packed by a code is read by it: plain. -/
theorem nextG_reads {l : List Int} (hc : isCode l = true) {bit : Nat → Nat} {size p t k w : Nat} (ht : l[t]? = some (k : Int)) (hk1 : 1 ≤ k) (hw : w = wrd l t k) (hbit : ∀ j, j < k → bit (p + j) = w / 2 ^ (k - 1 - j) % 2) (hsz : p + k ≤ size) :
    ∀ (f k' : Nat), k' < k → k ≤ k' + f → nextG l bit size f k' (w / 2 ^ (k - k')) (p + k') = (((t : Nat) : Int), 0, p + k)
  | 0, k', h1, h2 => by omega
  | f + 1, k', h1, h2 => by
    obtain ⟨hkr, _, h15⟩ := isCode_kr hc
    have hk15 := (h15 _ (List.mem_of_getElem? ht)).2
    have hmt := mny_at_lt ht
    have hpow : 2 ^ (k - k') = 2 ^ (k - 1 - k') * 2 := by rw [← Nat.pow_succ]; congr 1; omega
    have hstep : 2 * (w / 2 ^ (k - k')) + bit (p + k') = w / 2 ^ (k - 1 - k') := by
      rw [hbit k' h1, hpow, ← Nat.div_div_eq_div_mul]
      omega
    rw [nextG, if_neg (by omega), hstep]
    by_cases hlast : k' + 1 = k
    · have e : w / 2 ^ (k - 1 - k') = w := by rw [show k - 1 - k' = 0 by omega]; simp
      rw [e, hlast]
      have hwe : w = bs l k + mny (l.take t) k := hw
      rw [if_pos (by omega)]
      obtain ⟨h3, h4⟩ := nthP_spec (l := l) (k := k) (n := w - bs l k) (by omega)
      have := nth_one h3 ht (by omega)
      rw [this]
      congr 2
      omega
    · have hfar := bs_far (l := l) (k := k' + 1) (k' := k) (by omega) (by omega) (by omega)
      have hwe : w = bs l k + mny (l.take t) k := hw
      have hge := (Nat.le_div_iff_mul_le (Nat.pow_pos (by decide : 0 < 2))).2 (show (bs l (k' + 1) + mny l (k' + 1)) * 2 ^ (k - (k' + 1)) ≤ w by omega)
      rw [show k - (k' + 1) = k - 1 - k' by omega] at hge
      rw [if_neg (by omega), if_neg (lng_of ht (by omega))]
      have ih := nextG_reads hc ht hk1 hw hbit hsz f (k' + 1) (by omega) (by omega)
      rw [show k - (k' + 1) = k - 1 - k' by omega] at ih
      exact ih
theorem nextP_reads {l : List Int} (hc : isCode l = true) {s : ByteArray} {p t k : Nat} (ht : l[t]? = some (k : Int)) (hk1 : 1 ≤ k) (hv : strV s / 2 ^ p % 2 ^ k = rv k (wrd l t k)) (hsz : p + k ≤ 8 * s.size) : nextP l (sbit s) (8 * s.size) p = (((t : Nat) : Int), 0, p + k) := by
  obtain ⟨hkr, _, h15⟩ := isCode_kr hc
  have hk15 := (h15 _ (List.mem_of_getElem? ht)).2
  unfold nextP
  rw [if_pos hc]
  have hwl := wrd_lt hkr hk1 (by omega) ht
  have hbit : ∀ j, j < k → sbit s (p + j) = wrd l t k / 2 ^ (k - 1 - j) % 2 := fun j hj => by
    have h1 := congrArg (fun n => n.testBit j) hv
    simp only [rv_bit, Nat.testBit_mod_two_pow, Nat.testBit_div_two_pow] at h1
    rw [decide_eq_true hj, Bool.true_and, Bool.true_and, Nat.testBit_eq_decide_div_mod_eq, Nat.testBit_eq_decide_div_mod_eq, decide_eq_decide] at h1
    have h2 := sbit_lt s (p + j)
    have h3 : wrd l t k / 2 ^ (k - 1 - j) % 2 < 2 := Nat.mod_lt _ (by decide)
    unfold sbit at *
    rw [Nat.add_comm p j]
    rw [Nat.add_comm p j] at h2
    omega
  have := nextG_reads hc (size := 8 * s.size) (p := p) ht hk1 rfl hbit hsz 15 0 hk1 (by omega)
  rw [Nat.div_eq_of_lt (by rw [Nat.sub_zero]; exact hwl)] at this
  exact this
theorem pcb_push {A : St} {lo : Nat} {l : List (Int × Int)} {v : Value} (h : Row A 42 2 lo (l.flatMap pcE) l.length v) (x : Int × Int) (hlo : lo ≤ A.next) (hl : l.length ≤ 1000000) :
    ∃ v' A2, aappend Try.prog (A.alloc (.cells (pcE x) 42 (some 0))) 32 32 v (.slice (some ⟨A.next, 0, none⟩) 1 1) = some (v', A2) ∧ Row A2 42 2 lo ((l ++ [x]).flatMap pcE) (l ++ [x]).length v' ∧ A2.next = A.next + 2 ∧ rowB v' = some (A.next + 1) ∧ ∀ b, b < A.next → rowB v ≠ some b → A2.get b = A.get b := by
  obtain ⟨v', A2, h1, h2, h3, h4, h5⟩ := row_push (A := A) (sp := none) (c := 1) (xs := pcE x) Try.el32 Try.underlying32 (by intro k; exact TypeDesc.noConfusion) Try.sz42 Try.byt42 Try.zero42 rfl h hlo (by omega) (by omega) rfl rfl
  exact ⟨v', A2, h1, by rw [List.flatMap_append, List.length_append, List.flatMap_singleton]; exact h2, h3, h4, h5⟩
def u8E (i : Int) : List Value := [.int .u8 i]
theorem u8E_len (i : Int) : (u8E i).length = 1 := rfl
theorem u8E_pl (i : Int) : (u8E i).all plainV = true := rfl
def u8Ok (i : Int) : Prop := 0 ≤ i ∧ i ≤ 255
theorem u8E_dec {H : Type} {enc : TypeId × Value → H} {w : World} {held : Bool} (n : Nat) (cs : List Value) (y : DataW H × List MemPlace) (h : DataW.trod enc Try.prog w 0 (fun _ => true) held n 5 cs = some y) : ∃ a, cs = u8E a ∧ u8Ok a := by
  obtain ⟨a, e0, _, w0⟩ := DataW.trod_int Try.underlying5 h
  refine ⟨a, e0, ?_⟩
  have := w0
  simp [Lit.wf, IntKind.min, IntKind.max, IntKind.bits, IntKind.signed] at this
  unfold u8Ok
  omega
theorem u8E_at (l : List Int) (i : Nat) (x : Int) (h : l[i]? = some x) : (l.flatMap u8E)[i]? = some (.int .u8 x) := by
  have := flatMap_at (encE := u8E) (sz := 1) l (fun y _ => rfl) i 0 (by decide)
  rw [Nat.mul_one, Nat.add_zero, h] at this
  exact this
end Go.Fw
