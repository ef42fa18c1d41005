import Derived.Test.YtpjacnialnlilaaFwPre25
set_option linter.unusedSimpArgs false
set_option linter.unusedVariables false
set_option maxRecDepth 4000
namespace Go.Fw
open Go.Proofs Go.RowKit
/-! Bits in the opposite order, the program's way and the document's. -/
theorem Try.enters31 : Enters Try.prog 31 := enters_of Try.func31 rfl (by kernel_rfl)
theorem Try.enters45 : Enters Try.prog 45 := enters_of Try.func45 rfl (by kernel_rfl)
theorem Try.enters33 : Enters Try.prog 33 := enters_of Try.func33 rfl (by kernel_rfl)
theorem rev32_lt {x : Nat} (hx : x < 4294967296) : rev32 x < 4294967296 := by
  unfold rev32
  exact st_lt (st_lt (st_lt (st_lt (st_lt hx (by decide)) (by decide)) (by decide)) (by decide)) (by decide)
theorem rev32_rv {x k : Nat} (hx : x < 4294967296) (hk : k ≤ 32) : rev32 x / 2 ^ (32 - k) = rv k x := by
  rw [← Nat.shiftRight_eq_div_pow]
  apply Nat.eq_of_testBit_eq
  intro j
  rw [Nat.testBit_shiftRight, rv_bit]
  by_cases h : j < k
  · rw [rev32_bit x (by omega), decide_eq_true h, show 31 - (32 - k + j) = k - 1 - j by omega]; simp
  · rw [decide_eq_false h, Nat.testBit_lt_two_pow (Nat.lt_of_lt_of_le (rev32_lt hx) (show 2 ^ 32 ≤ 2 ^ (32 - k + j) from Nat.pow_le_pow_right (by decide) (by omega)))]; simp
set_option maxHeartbeats 1000000 in
theorem revb_ok (w0 : World) (A : St) (x : Nat) (hx : x < 4294967296) : ACalls Try.prog w0 45 #[.int .u32 x] A (fin (.int .u32 (st 65535 16 (st 16711935 8 x) : Nat)) A) := by
  refine call_E (l := [.int .u32 x]) Try.enters45 Try.func45 rfl (Nat.le_of_ble_eq_true rfl) fun hw hbd => ?_
  have s1 : ibits .or .u32 (ibits .and .u32 (ishr .u32 (x : Int) 8) 16711935) (ishl .u32 (ibits .and .u32 (x : Int) 16711935) 8) = ((st 16711935 8 x : Nat) : Int) := u32_step (m := 16711935) (s := 8) hx (by decide) (by decide) (by decide)
  have hy : st 16711935 8 x < 4294967296 := st_lt hx (by decide)
  generalize st 16711935 8 x = y at *
  have s2 : ibits .or .u32 (ishr .u32 (y : Int) 16) (ishl .u32 (y : Int) 16) = ((st 65535 16 y : Nat) : Int) := by
    have hb : (2 : Nat) ^ IntKind.u32.bits = 4294967296 := rfl
    have e1 : ishr .u32 (y : Int) 16 = ((y >>> 16 : Nat) : Int) := u32_sr y 16 (by decide)
    have ym : y &&& 65535 = y % 65536 := Nat.and_two_pow_sub_one_eq_mod y 16
    have h1 : y >>> 16 < 65536 := by rw [Nat.shiftRight_eq_div_pow]; omega
    have e2 : ishl .u32 (y : Int) 16 = (((y &&& 65535) <<< 16 : Nat) : Int) := by
      rw [ym, Nat.shiftLeft_eq]
      unfold ishl IntKind.wrap
      simp [IntKind.signed, IntKind.bits]
      omega
    have e3 : (y >>> 16) &&& 65535 = y >>> 16 := by
      rw [show (65535 : Nat) = 2 ^ 16 - 1 from rfl, Nat.and_two_pow_sub_one_eq_mod]; exact Nat.mod_eq_of_lt h1
    rw [e1, e2, bits_or .u32 rfl _ _ (by rw [hb]; omega) (by rw [hb, ym, Nat.shiftLeft_eq]; omega)]
    unfold st
    rw [e3]
  simp (maxSteps := 1000000) (disch := (first | omega | (simp only [nx_alloc, nx_upd, len_cons, len_nil, List.length_set, List.length_map, List.length_append] <;> omega) | fail)) only [go_sem, Try.ntmps45, Try.results45, s1, s2]
  exact gc_here ⟨rfl, rfl⟩
set_option maxHeartbeats 1000000 in
theorem rev_ok (w0 : World) (A : St) (x : Nat) (hx : x < 4294967296) : ACalls Try.prog w0 31 #[.int .u32 x] A (fin (.int .u32 (rev32 x : Nat)) A) := by
  refine call_E (l := [.int .u32 x]) Try.enters31 Try.func31 rfl (Nat.le_of_ble_eq_true rfl) fun hw hbd => ?_
  have s1 : ibits .or .u32 (ibits .and .u32 (ishr .u32 (x : Int) 1) 1431655765) (ishl .u32 (ibits .and .u32 (x : Int) 1431655765) 1) = ((st 1431655765 1 x : Nat) : Int) := u32_step (m := 1431655765) (s := 1) hx (by decide) (by decide) (by decide)
  have hy : st 1431655765 1 x < 4294967296 := st_lt hx (by decide)
  unfold rev32
  generalize st 1431655765 1 x = y at *
  have s2 : ibits .or .u32 (ibits .and .u32 (ishr .u32 (y : Int) 2) 858993459) (ishl .u32 (ibits .and .u32 (y : Int) 858993459) 2) = ((st 858993459 2 y : Nat) : Int) := u32_step (m := 858993459) (s := 2) hy (by decide) (by decide) (by decide)
  have hz : st 858993459 2 y < 4294967296 := st_lt hy (by decide)
  generalize st 858993459 2 y = z at *
  have s3 : ibits .or .u32 (ibits .and .u32 (ishr .u32 (z : Int) 4) 252645135) (ishl .u32 (ibits .and .u32 (z : Int) 252645135) 4) = ((st 252645135 4 z : Nat) : Int) := u32_step (m := 252645135) (s := 4) hz (by decide) (by decide) (by decide)
  have ht : st 252645135 4 z < 4294967296 := st_lt hz (by decide)
  generalize st 252645135 4 z = t at *
  simp (maxSteps := 1000000) (disch := (first | omega | (simp only [nx_alloc, nx_upd, len_cons, len_nil, List.length_set, List.length_map, List.length_append] <;> omega) | fail)) only [go_sem, Try.ntmps31, Try.results31, s1, s2, s3]
  refine call1 (revb_ok w0 A t ht) ?_
  simp (maxSteps := 1000000) (disch := (first | omega | (simp only [nx_alloc, nx_upd, len_cons, len_nil, List.length_set, List.length_map, List.length_append] <;> omega) | fail)) only [go_sem, Try.results31]
  exact gc_here ⟨rfl, rfl⟩
end Go.Fw
