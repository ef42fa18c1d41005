import Derived.Test.YtpjacnialnlilaaFwPre24
set_option linter.unusedSimpArgs false
set_option linter.unusedVariables false
set_option maxRecDepth 4000
namespace Go.Fw
open Go.Proofs Go.RowKit
/-! bits.Reverse32. -/
def st (m s x : Nat) : Nat := ((x >>> s) &&& m) ||| ((x &&& m) <<< s)
theorem st_lt {m s x : Nat} (hx : x < 4294967296) (hm : m * 2 ^ s < 4294967296) : st m s x < 4294967296 := by
  have h1 : (x >>> s) &&& m < 2 ^ 32 := Nat.lt_of_le_of_lt Nat.and_le_left (Nat.lt_of_le_of_lt (by rw [Nat.shiftRight_eq_div_pow]; exact Nat.div_le_self _ _) hx)
  have h2 : (x &&& m) <<< s < 2 ^ 32 := by
    rw [Nat.shiftLeft_eq]
    exact Nat.lt_of_le_of_lt (Nat.mul_le_mul_right _ Nat.and_le_right) hm
  exact Nat.or_lt_two_pow h1 h2
theorem u32_sr (x s : Nat) (hs : s ≤ 32) : ishr .u32 (x : Int) (s : Int) = ((x >>> s : Nat) : Int) := by
  rw [ishr_eq .u32 _ s (by simp only [IntKind.bits]; omega), Nat.shiftRight_eq_div_pow, Int.natCast_ediv, Int.natCast_pow]; rfl
theorem u32_sl {a s : Nat} (hs : s ≤ 32) (h : a * 2 ^ s < 4294967296) : ishl .u32 (a : Int) (s : Int) = ((a <<< s : Nat) : Int) := by
  have e : ((a : Int) * 2 ^ s) = ((a * 2 ^ s : Nat) : Int) := by rw [Int.natCast_mul, Int.natCast_pow]; rfl
  rw [ishl_eq .u32 rfl _ s (by simp only [IntKind.bits]; omega) (by omega) (by rw [e]; simp only [IntKind.bits]; omega), e, Nat.shiftLeft_eq]
theorem u32_step {x m s : Nat} (hx : x < 4294967296) (hm : m * 2 ^ s < 4294967296) (hs : s ≤ 32) (hm1 : m < 4294967296) : ibits .or .u32 (ibits .and .u32 (ishr .u32 (x : Int) (s : Int)) (m : Int)) (ishl .u32 (ibits .and .u32 (x : Int) (m : Int)) (s : Int)) = ((st m s x : Nat) : Int) := by
  have hb : (2 : Nat) ^ IntKind.u32.bits = 4294967296 := rfl
  have h1 : x >>> s < 4294967296 := Nat.lt_of_le_of_lt (by rw [Nat.shiftRight_eq_div_pow]; exact Nat.div_le_self _ _) hx
  have h2 : (x &&& m) * 2 ^ s < 4294967296 := Nat.lt_of_le_of_lt (Nat.mul_le_mul_right _ Nat.and_le_right) hm
  rw [u32_sr x s hs, bits_and .u32 rfl _ _ (by rw [hb]; exact h1) (by rw [hb]; exact hm1), bits_and .u32 rfl _ _ (by rw [hb]; exact hx) (by rw [hb]; exact hm1), u32_sl hs h2, bits_or .u32 rfl _ _ (by rw [hb]; exact Nat.lt_of_le_of_lt Nat.and_le_left h1) (by rw [hb, Nat.shiftLeft_eq]; exact h2)]
  rfl
def rev32 (x : Nat) : Nat := st 65535 16 (st 16711935 8 (st 252645135 4 (st 858993459 2 (st 1431655765 1 x))))
theorem st_bit (m s x i : Nat) : (st m s x).testBit i = (x.testBit (s + i) && m.testBit i || (decide (s ≤ i) && (x.testBit (i - s) && m.testBit (i - s)))) := by
  unfold st
  rw [Nat.testBit_or, Nat.testBit_and, Nat.testBit_shiftRight, Nat.testBit_shiftLeft, Nat.testBit_and]
def flp (s i : Nat) : Nat := if i / s % 2 = 0 then s + i else i - s
theorem st_flip {m s x i : Nat} (hm : ∀ j : Fin 32, m.testBit j.1 = decide (j.1 / s % 2 = 0)) (hi : i < 32) (hd : i / s % 2 = 0 ∨ (s ≤ i ∧ (i - s) / s % 2 = 0)) (hn : i / s % 2 = 0 → s ≤ i → ¬ (i - s) / s % 2 = 0) : (st m s x).testBit i = x.testBit (if i / s % 2 = 0 then s + i else i - s) := by
  rw [st_bit, hm ⟨i, hi⟩]
  show (_ && decide (i / s % 2 = 0) || _) = _
  have h2 := hm ⟨i - s, by omega⟩
  rw [h2]
  show (_ && decide (i / s % 2 = 0) || (decide (s ≤ i) && (_ && decide ((i - s) / s % 2 = 0)))) = _
  by_cases h : i / s % 2 = 0
  · rw [if_pos h, decide_eq_true h]
    by_cases hs : s ≤ i
    · rw [decide_eq_false (hn h hs)]; simp
    · rw [decide_eq_false hs]; simp
  · obtain ⟨h1, h2⟩ := hd.resolve_left h
    rw [if_neg h, decide_eq_false h, decide_eq_true h1, decide_eq_true h2]; simp
theorem flp_all : ∀ i : Fin 32, flp 16 i.1 < 32 ∧ flp 8 i.1 < 32 ∧ flp 4 i.1 < 32 ∧ flp 2 i.1 < 32 ∧ flp 1 (flp 2 (flp 4 (flp 8 (flp 16 i.1)))) = 31 - i.1 := by decide
theorem rev32_bit (x : Nat) {i : Nat} (hi : i < 32) : (rev32 x).testBit i = x.testBit (31 - i) := by
  unfold rev32
  rw [← (flp_all ⟨i, hi⟩).2.2.2.2]
  show _ = x.testBit (flp 1 (flp 2 (flp 4 (flp 8 (flp 16 i)))))
  rw [st_flip (s := 16) (by decide) hi (by omega) (by omega)]
  show (st 16711935 8 _).testBit (flp 16 i) = _
  have h1 := (flp_all ⟨i, hi⟩).1
  generalize flp 16 i = a at *
  rw [st_flip (s := 8) (by decide) h1 (by omega) (by omega)]
  show (st 252645135 4 _).testBit (flp 8 a) = _
  have h2 := (flp_all ⟨a, h1⟩).2.1
  generalize flp 8 a = b at *
  rw [st_flip (s := 4) (by decide) h2 (by omega) (by omega)]
  show (st 858993459 2 _).testBit (flp 4 b) = _
  have h3 := (flp_all ⟨b, h2⟩).2.2.1
  generalize flp 4 b = c at *
  rw [st_flip (s := 2) (by decide) h3 (by omega) (by omega)]
  show (st 1431655765 1 _).testBit (flp 2 c) = _
  have h4 := (flp_all ⟨c, h3⟩).2.2.2.1
  generalize flp 2 c = d at *
  rw [st_flip (s := 1) (by decide) h4 (by omega) (by omega)]
  rfl
end Go.Fw
