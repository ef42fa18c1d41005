import Derived.Test.YtmfccnnkolegmaaFwPre30
set_option linter.unusedSimpArgs false
set_option linter.unusedVariables false
set_option maxRecDepth 4000
namespace Go.Fw
open Go.Proofs Go.RowKit
/-! bits.Reverse32. -/
def st (m s x : Nat) : Nat := ((x >>> s) &&& m) ||| ((x &&& m) <<< s)
theorem st_lt {m s x : Nat} (hx : x < 4294967296) (hm : m * 2 ^ s < 4294967296) : st m s x < 4294967296 := by
  have h1 : (x >>> s) &&& m < 2 ^ 32 := Nat.lt_of_le_of_lt Nat.and_le_left (Nat.lt_of_le_of_lt (by rw [Nat.shiftRight_eq_div_pow]; exact Nat.div_le_self _ _) hx)
  have h2 : (x &&& m) <<< s < 2 ^ 32 := by
    rw [Nat.shiftLeft_eq]
    exact Nat.lt_of_le_of_lt (Nat.mul_le_mul_right _ Nat.and_le_right) hm
  exact Nat.or_lt_two_pow h1 h2
theorem u32_sr (x s : Nat) (hs : s ≤ 32) : ishr .u32 (x : Int) (s : Int) = ((x >>> s : Nat) : Int) := by
  rw [ishr_eq .u32 _ s (by simp only [IntKind.bits]; omega), Nat.shiftRight_eq_div_pow, Int.natCast_ediv, Int.natCast_pow]; rfl
theorem u32_sl {a s : Nat} (hs : s ≤ 32) (h : a * 2 ^ s < 4294967296) : ishl .u32 (a : Int) (s : Int) = ((a <<< s : Nat) : Int) := by
  have e : ((a : Int) * 2 ^ s) = ((a * 2 ^ s : Nat) : Int) := by rw [Int.natCast_mul, Int.natCast_pow]; rfl
  rw [ishl_eq .u32 rfl _ s (by simp only [IntKind.bits]; omega) (by omega) (by rw [e]; simp only [IntKind.bits]; omega), e, Nat.shiftLeft_eq]
theorem u32_step {x m s : Nat} (hx : x < 4294967296) (hm : m * 2 ^ s < 4294967296) (hs : s ≤ 32) (hm1 : m < 4294967296) : ibits .or .u32 (ibits .and .u32 (ishr .u32 (x : Int) (s : Int)) (m : Int)) (ishl .u32 (ibits .and .u32 (x : Int) (m : Int)) (s : Int)) = ((st m s x : Nat) : Int) := by
  have hb : (2 : Nat) ^ IntKind.u32.bits = 4294967296 := rfl
  have h1 : x >>> s < 4294967296 := Nat.lt_of_le_of_lt (by rw [Nat.shiftRight_eq_div_pow]; exact Nat.div_le_self _ _) hx
  have h2 : (x &&& m) * 2 ^ s < 4294967296 := Nat.lt_of_le_of_lt (Nat.mul_le_mul_right _ Nat.and_le_right) hm
  rw [u32_sr x s hs, bits_and .u32 rfl _ _ (by rw [hb]; exact h1) (by rw [hb]; exact hm1), bits_and .u32 rfl _ _ (by rw [hb]; exact hx) (by rw [hb]; exact hm1), u32_sl hs h2, bits_or .u32 rfl _ _ (by rw [hb]; exact Nat.lt_of_le_of_lt Nat.and_le_left h1) (by rw [hb, Nat.shiftLeft_eq]; exact h2)]
  rfl
def rev32 (x : Nat) : Nat := st 65535 16 (st 16711935 8 (st 252645135 4 (st 858993459 2 (st 1431655765 1 x))))
theorem st_bit (m s x i : Nat) : (st m s x).testBit i = (x.testBit (s + i) && m.testBit i || (decide (s ≤ i) && (x.testBit (i - s) && m.testBit (i - s)))) := by
  unfold st
  rw [Nat.testBit_or, Nat.testBit_and, Nat.testBit_shiftRight, Nat.testBit_shiftLeft, Nat.testBit_and]
def flp (s i : Nat) : Nat := if i / s % 2 = 0 then s + i else i - s
theorem st_flip {m s x i : Nat} (hm : ∀ j : Fin 32, m.testBit j.1 = decide (j.1 / s % 2 = 0)) (hi : i < 32) (hd : i / s % 2 = 0 ∨ (s ≤ i ∧ (i - s) / s % 2 = 0)) (hn : i / s % 2 = 0 → s ≤ i → ¬ (i - s) / s % 2 = 0) : (st m s x).testBit i = x.testBit (if i / s % 2 = 0 then s + i else i - s) := by
  rw [st_bit, hm ⟨i, hi⟩]
  show (_ && decide (i / s % 2 = 0) || _) = _
  have h2 := hm ⟨i - s, by omega⟩
  rw [h2]
  show (_ && decide (i / s % 2 = 0) || (decide (s ≤ i) && (_ && decide ((i - s) / s % 2 = 0)))) = _
  by_cases h : i / s % 2 = 0
  · rw [if_pos h, decide_eq_true h]
    by_cases hs : s ≤ i
    · rw [decide_eq_false (hn h hs)]; simp
    · rw [decide_eq_false hs]; simp
  · obtain ⟨h1, h2⟩ := hd.resolve_left h
    rw [if_neg h, decide_eq_false h, decide_eq_true h1, decide_eq_true h2]; simp
theorem flp_all : ∀ i : Fin 32, flp 16 i.1 < 32 ∧ flp 8 i.1 < 32 ∧ flp 4 i.1 < 32 ∧ flp 2 i.1 < 32 ∧ flp 1 (flp 2 (flp 4 (flp 8 (flp 16 i.1)))) = 31 - i.1 := by decide
theorem rev32_bit (x : Nat) {i : Nat} (hi : i < 32) : (rev32 x).testBit i = x.testBit (31 - i) := by
  unfold rev32
  rw [← (flp_all ⟨i, hi⟩).2.2.2.2]
  show _ = x.testBit (flp 1 (flp 2 (flp 4 (flp 8 (flp 16 i)))))
  rw [st_flip (s := 16) (by decide) hi (by omega) (by omega)]
  show (st 16711935 8 _).testBit (flp 16 i) = _
  have h1 := (flp_all ⟨i, hi⟩).1
  generalize flp 16 i = a at *
  rw [st_flip (s := 8) (by decide) h1 (by omega) (by omega)]
  show (st 252645135 4 _).testBit (flp 8 a) = _
  have h2 := (flp_all ⟨a, h1⟩).2.1
  generalize flp 8 a = b at *
  rw [st_flip (s := 4) (by decide) h2 (by omega) (by omega)]
  show (st 858993459 2 _).testBit (flp 4 b) = _
  have h3 := (flp_all ⟨b, h2⟩).2.2.1
  generalize flp 4 b = c at *
  rw [st_flip (s := 2) (by decide) h3 (by omega) (by omega)]
  show (st 1431655765 1 _).testBit (flp 2 c) = _
  have h4 := (flp_all ⟨c, h3⟩).2.2.2.1
  generalize flp 2 c = d at *
  rw [st_flip (s := 1) (by decide) h4 (by omega) (by omega)]
  rfl
end Go.Fw

set_option linter.unusedSimpArgs false
set_option linter.unusedVariables false
set_option maxRecDepth 4000
namespace Go.Fw
open Go.Proofs Go.RowKit
/-! Bits in the opposite order, the program's way and the document's. -/
theorem Try.enters38 : Enters Try.prog 38 := enters_of Try.func38 rfl (by kernel_rfl)
theorem Try.enters58 : Enters Try.prog 58 := enters_of Try.func58 rfl (by kernel_rfl)
theorem Try.enters44 : Enters Try.prog 44 := enters_of Try.func44 rfl (by kernel_rfl)
theorem rev32_lt {x : Nat} (hx : x < 4294967296) : rev32 x < 4294967296 := by
  unfold rev32
  exact st_lt (st_lt (st_lt (st_lt (st_lt hx (by decide)) (by decide)) (by decide)) (by decide)) (by decide)
theorem rev32_rv {x k : Nat} (hx : x < 4294967296) (hk : k ≤ 32) : rev32 x / 2 ^ (32 - k) = rv k x := by
  rw [← Nat.shiftRight_eq_div_pow]
  apply Nat.eq_of_testBit_eq
  intro j
  rw [Nat.testBit_shiftRight, rv_bit]
  by_cases h : j < k
  · rw [rev32_bit x (by omega), decide_eq_true h, show 31 - (32 - k + j) = k - 1 - j by omega]; simp
  · rw [decide_eq_false h, Nat.testBit_lt_two_pow (Nat.lt_of_lt_of_le (rev32_lt hx) (show 2 ^ 32 ≤ 2 ^ (32 - k + j) from Nat.pow_le_pow_right (by decide) (by omega)))]; simp
set_option maxHeartbeats 1000000 in
theorem revb_ok (w0 : World) (A : St) (x : Nat) (hx : x < 4294967296) : ACalls Try.prog w0 58 #[.int .u32 x] A (fin (.int .u32 (st 65535 16 (st 16711935 8 x) : Nat)) A) := by
  refine call_E (l := [.int .u32 x]) Try.enters58 Try.func58 rfl (Nat.le_of_ble_eq_true rfl) fun hw hbd => ?_
  have s1 : ibits .or .u32 (ibits .and .u32 (ishr .u32 (x : Int) 8) 16711935) (ishl .u32 (ibits .and .u32 (x : Int) 16711935) 8) = ((st 16711935 8 x : Nat) : Int) := u32_step (m := 16711935) (s := 8) hx (by decide) (by decide) (by decide)
  have hy : st 16711935 8 x < 4294967296 := st_lt hx (by decide)
  generalize st 16711935 8 x = y at *
  have s2 : ibits .or .u32 (ishr .u32 (y : Int) 16) (ishl .u32 (y : Int) 16) = ((st 65535 16 y : Nat) : Int) := by
    have hb : (2 : Nat) ^ IntKind.u32.bits = 4294967296 := rfl
    have e1 : ishr .u32 (y : Int) 16 = ((y >>> 16 : Nat) : Int) := u32_sr y 16 (by decide)
    have ym : y &&& 65535 = y % 65536 := Nat.and_two_pow_sub_one_eq_mod y 16
    have h1 : y >>> 16 < 65536 := by rw [Nat.shiftRight_eq_div_pow]; omega
    have e2 : ishl .u32 (y : Int) 16 = (((y &&& 65535) <<< 16 : Nat) : Int) := by
      rw [ym, Nat.shiftLeft_eq]
      unfold ishl IntKind.wrap
      simp [IntKind.signed, IntKind.bits]
      omega
    have e3 : (y >>> 16) &&& 65535 = y >>> 16 := by
      rw [show (65535 : Nat) = 2 ^ 16 - 1 from rfl, Nat.and_two_pow_sub_one_eq_mod]; exact Nat.mod_eq_of_lt h1
    rw [e1, e2, bits_or .u32 rfl _ _ (by rw [hb]; omega) (by rw [hb, ym, Nat.shiftLeft_eq]; omega)]
    unfold st
    rw [e3]
  simp (maxSteps := 1000000) (disch := first | omega | (simp only [z1, z2, z3, z4, z5, z6, z7] <;> omega) | fail) only [go_sem, Try.ntmps58, Try.results58, s1, s2]
  exact gc_here ⟨rfl, rfl⟩
set_option maxHeartbeats 1000000 in
theorem rev_ok (w0 : World) (A : St) (x : Nat) (hx : x < 4294967296) : ACalls Try.prog w0 38 #[.int .u32 x] A (fin (.int .u32 (rev32 x : Nat)) A) := by
  refine call_E (l := [.int .u32 x]) Try.enters38 Try.func38 rfl (Nat.le_of_ble_eq_true rfl) fun hw hbd => ?_
  have s1 : ibits .or .u32 (ibits .and .u32 (ishr .u32 (x : Int) 1) 1431655765) (ishl .u32 (ibits .and .u32 (x : Int) 1431655765) 1) = ((st 1431655765 1 x : Nat) : Int) := u32_step (m := 1431655765) (s := 1) hx (by decide) (by decide) (by decide)
  have hy : st 1431655765 1 x < 4294967296 := st_lt hx (by decide)
  unfold rev32
  generalize st 1431655765 1 x = y at *
  have s2 : ibits .or .u32 (ibits .and .u32 (ishr .u32 (y : Int) 2) 858993459) (ishl .u32 (ibits .and .u32 (y : Int) 858993459) 2) = ((st 858993459 2 y : Nat) : Int) := u32_step (m := 858993459) (s := 2) hy (by decide) (by decide) (by decide)
  have hz : st 858993459 2 y < 4294967296 := st_lt hy (by decide)
  generalize st 858993459 2 y = z at *
  have s3 : ibits .or .u32 (ibits .and .u32 (ishr .u32 (z : Int) 4) 252645135) (ishl .u32 (ibits .and .u32 (z : Int) 252645135) 4) = ((st 252645135 4 z : Nat) : Int) := u32_step (m := 252645135) (s := 4) hz (by decide) (by decide) (by decide)
  have ht : st 252645135 4 z < 4294967296 := st_lt hz (by decide)
  generalize st 252645135 4 z = t at *
  simp (maxSteps := 1000000) (disch := first | omega | (simp only [z1, z2, z3, z4, z5, z6, z7] <;> omega) | fail) only [go_sem, Try.ntmps38, Try.results38, s1, s2, s3]
  refine call1 (revb_ok w0 A t ht) ?_
  simp (maxSteps := 1000000) (disch := first | omega | (simp only [z1, z2, z3, z4, z5, z6, z7] <;> omega) | fail) only [go_sem, Try.results38]
  exact gc_here ⟨rfl, rfl⟩
end Go.Fw

set_option linter.unusedSimpArgs false
set_option linter.unusedVariables false
set_option maxRecDepth 4000
namespace Go.Fw
open Go.Proofs Go.RowKit
/-! Counts of lengths, and the first words. -/
theorem Try.enters36 : Enters Try.prog 36 := enters_of Try.func36 rfl (by kernel_rfl)
theorem Try.enters37 : Enters Try.prog 37 := enters_of Try.func37 rfl (by kernel_rfl)
def numC (k : IntKind) (n : Nat) (f : Nat → Nat) : List Value := (List.range n).map fun j => .int k (f j : Nat)
theorem numC_len (k : IntKind) (n : Nat) (f : Nat → Nat) : (numC k n f).length = n := by unfold numC; rw [List.length_map, List.length_range]
theorem numC_at (k : IntKind) {n j : Nat} (f : Nat → Nat) (h : j < n) : (numC k n f)[j]? = some (.int k (f j : Nat)) := by
  unfold numC; rw [List.getElem?_map, List.getElem?_range h]; rfl
theorem numC_set (k : IntKind) {n j : Nat} {f g : Nat → Nat} (h : ∀ i, i ≠ j → g i = f i) : (numC k n f).set j (.int k (g j : Nat)) = numC k n g := by
  refine List.ext_getElem? fun i => ?_
  rw [List.getElem?_set, numC_len]
  unfold numC
  rw [List.getElem?_map, List.getElem?_map]
  by_cases hi : i < n
  · rw [List.getElem?_range hi]
    split
    · rename_i e; rw [← e, if_pos (by omega)]; rfl
    · rename_i e
      show some (Value.int k (f i : Nat)) = some (Value.int k (g i : Nat))
      rw [h i (fun e' => e e'.symm)]
  · have : (List.range n)[i]? = none := List.getElem?_eq_none (by rw [List.length_range]; omega)
    rw [this]
    split
    · rw [if_neg (by omega)]; rfl
    · rfl
theorem numC_plain (k : IntKind) (n : Nat) (f : Nat → Nat) : (numC k n f).all cell1 = true := by
  unfold numC; rw [List.all_map, List.all_eq_true]; intro x _; rfl
theorem numC_bnd (m : Nat) (k : IntKind) (n : Nat) (f : Nat → Nat) : Bnd m (.agg (numC k n f).toArray) := by
  rw [bnd_agg]
  intro v hv
  unfold numC at hv
  obtain ⟨j, _, rfl⟩ := List.mem_map.1 hv
  rw [bnd_int]; trivial
theorem mny_snoc (l : List Int) (x : Int) (k : Nat) : mny (l ++ [x]) k = mny l k + if x = (k : Int) then 1 else 0 := by
  unfold mny
  rw [List.count_append, List.count_singleton]
  congr 1
  by_cases h : x = (k : Int)
  · rw [if_pos h, if_pos (by simpa using h)]
  · rw [if_neg h, if_neg (by simpa using h)]
theorem mny_le (l : List Int) (k : Nat) : mny l k ≤ l.length := List.count_le_length ..
theorem code_no {l : List Int} {x : Int} (hx : x ∈ l) (h : x < 0 ∨ 15 < x) : isCode l = false := by
  rcases hc : isCode l with _ | _
  · rfl
  · have := (isCode_kr hc).2.2 x hx; omega
theorem code_eq {l : List Int} (h : ∀ x ∈ l, 0 ≤ x ∧ x ≤ 15) : isCode l = (decide (l.length ≤ 300) && (decide (kr l = 32768) || decide (mny l 1 = 1) && decide (kr l = 16384))) := by
  unfold isCode
  have : l.all (fun x => decide (0 ≤ x) && decide (x ≤ 15)) = true := by
    rw [List.all_eq_true]
    intro x hx
    simp [h x hx]
  rw [this, Bool.true_and]
theorem setList_all {a vs : List Value} (h : vs.length = a.length) : setList a 0 vs = vs := by
  have := setList_at0 vs [] a [] h
  simpa using this
def CountPost (A : St) (l : List Int) (e : Ending) (A' : St) : Prop := ∃ f : Nat → Nat, e = .returned (.tuple #[.agg (numC .i64 16 f).toArray, .bool (isCode l)]) ∧ A' = A ∧ (isCode l = true → f = mny l)
set_option maxHeartbeats 8000000 in
theorem counts_ok (w0 : World) (A : St) (l : List Int) (v : Value) (hv : InView A l v) (hl : l.length ≤ 1000) : ACalls Try.prog w0 36 #[v] A (CountPost A l) := by
  refine call_E (l := [v]) Try.enters36 Try.func36 rfl (Nat.le_of_ble_eq_true rfl) fun hw hbd => ?_
  have hlv : ∀ X, lenU X (some (.slice 3)) v = some (.int .i64 l.length, X) := View.lenX hv
  simp (maxSteps := 1000000) (disch := first | omega | (simp only [z1, z2, z3, z4, z5, z6, z7] <;> omega) | fail) only [go_sem, Try.ntmps36, Try.results36, hlv]
  refine aw_loop (fun k x A' => ∃ (ρ : Nat → Value) (i : Nat), x = E 45 ρ [] ∧ A' = (A.alloc (.cells (numC .i64 16 fun _ => 0) 78 (some 0))).upd A.next (some (.cells (numC .i64 16 (mny (l.take i))) 78 (some 0))) ∧ k = l.length - i ∧ i ≤ l.length ∧ (∀ x ∈ l.take i, 0 ≤ x ∧ x ≤ 15) ∧ ρ 0 = v ∧ ρ 2 = .pointer (some ⟨A.next, 0, none⟩) ∧ ρ 7 = v ∧ ρ 8 = .int .i64 l.length ∧ ρ 9 = .int .i64 i) l.length
    ⟨_, 0, rfl, (upd_id (get_alloc_same ..)).symm, rfl, Nat.zero_le _, fun x hx => (by simp at hx), rfl, rfl, rfl, rfl, rfl⟩ ?_
  rintro k x A' ⟨ρ, i, rfl, hA', hk, hi, hok, r0, r2, r7, r8, r9⟩
  refine aw_of ?_
  have gA : A'.get A.next = some (.cells (numC .i64 16 (mny (l.take i))) 78 (some 0)) := by rw [hA']; exact get_upd_same ..
  have oA : Over A A' := by rw [hA']; exact ((Over.refl A).alloc _).upd (Nat.le_refl _) _
  have hnx : A.next < A'.next := by rw [hA', nx_upd, nx_alloc]; omega
  have hL := numC_len .i64 16 (mny (l.take i))
  have hpl := numC_plain .i64 16 (mny (l.take i))
  have hst : ∀ m, (numC .i64 16 (mny m)).length = 16 := fun m => numC_len ..
  have hsl : setList (numC .i64 16 (mny (l.take i))) 0 (numC .i64 16 (mny (l.take i))) = numC .i64 16 (mny (l.take i)) := setList_all rfl
  have hT : (numC .i64 16 (mny (l.take i))).take 16 = numC .i64 16 (mny (l.take i)) := List.take_of_length_le (by omega)
  by_cases hend : i = l.length
  rotate_left
  · have e1 : (i : Int) < (l.length : Int) := by omega
    obtain ⟨n, hx⟩ : ∃ x, l[i]? = some x := ⟨_, List.getElem?_eq_getElem (by omega)⟩
    obtain ⟨pb, po, hb1, hb2, hb3, cells, e', md, hb4, hb5⟩ := View.at1 (P := Try.prog) (e := 3) (View.over hv oA) Try.sz3 (i64E_at _ i n hx)
    have htk : l.take (i + 1) = l.take i ++ [n] := by rw [List.take_add_one, hx]; rfl
    have hmem := List.mem_of_getElem? hx
    have hbad : n < 0 ∨ 15 < n → CountPost A l (.returned (.tuple #[.agg (numC .i64 16 (mny (l.take i))).toArray, .bool false])) A := fun h => ⟨_, by rw [code_no hmem h], rfl, fun h' => by rw [code_no hmem h] at h'; cases h'⟩
    by_cases b1 : n < 0
    · simp (maxSteps := 1000000) (disch := first | omega | (simp only [z1, z2, z3, z4, z5, z6, z7] <;> omega) | fail) only [go_sem, r0, r2, r7, r8, r9, e1, hb3, hb4, hb5, b1, gA, hT, hpl, hsl, Try.results36]
      exact gc_over hw (oA.upd (Nat.le_refl _) _) (.returned (by simp only [bnd_tuple, bndL_cons, bndL_nil, bnd_bool, and_true]; exact numC_bnd ..)) (hbad (.inl b1))
    by_cases b2 : n > 15
    · simp (maxSteps := 1000000) (disch := first | omega | (simp only [z1, z2, z3, z4, z5, z6, z7] <;> omega) | fail) only [go_sem, r0, r2, r7, r8, r9, e1, hb3, hb4, hb5, b1, b2, gA, hT, hpl, hsl, Try.results36]
      exact gc_over hw (oA.upd (Nat.le_refl _) _) (.returned (by simp only [bnd_tuple, bndL_cons, bndL_nil, bnd_bool, and_true]; exact numC_bnd ..)) (hbad (.inr b2))
    obtain ⟨m, rfl⟩ := Int.eq_ofNat_of_zero_le (show 0 ≤ n by omega)
    have hml := mny_le (l.take i) m
    have htl : (l.take i).length ≤ i := List.length_take_le ..
    have hat := numC_at .i64 (n := 16) (j := m) (mny (l.take i)) (by omega)
    have hset := numC_set .i64 (n := 16) (j := m) (f := mny (l.take i)) (g := mny (l.take (i + 1))) (fun j hj => by rw [htk, mny_snoc, if_neg (by omega), Nat.add_zero])
    rw [htk, mny_snoc, if_pos rfl, ← htk, Int.natCast_add] at hset
    have e2 : (m : Int) < 16 := by omega
    simp (maxSteps := 1000000) (disch := first | omega | (simp only [z1, z2, z3, z4, z5, z6, z7] <;> omega) | fail) only [go_sem, r0, r2, r7, r8, r9, e1, hb3, hb4, hb5, b1, b2, gA, hat, e2]
    refine ⟨k - 1, by omega, _, i + 1, rfl, ?_, by omega, by omega, fun x hx => ?_, ?_, ?_, ?_, ?_, ?_⟩
    · rw [hA', upd_upd]
      exact congrArg _ (by rw [← hset]; rfl)
    · rw [htk] at hx
      rcases List.mem_append.1 hx with hx | hx
      · exact hok x hx
      · rw [List.mem_singleton.1 hx]; omega
    · simp (maxSteps := 1000000) (disch := first | omega | (simp only [z1, z2, z3, z4, z5, z6, z7] <;> omega) | fail) only [go_sem, r0]
    · simp (maxSteps := 1000000) (disch := first | omega | (simp only [z1, z2, z3, z4, z5, z6, z7] <;> omega) | fail) only [go_sem, r2]
    · simp (maxSteps := 1000000) (disch := first | omega | (simp only [z1, z2, z3, z4, z5, z6, z7] <;> omega) | fail) only [go_sem, r7]
    · simp (maxSteps := 1000000) (disch := first | omega | (simp only [z1, z2, z3, z4, z5, z6, z7] <;> omega) | fail) only [go_sem, r8]
    · simp (maxSteps := 1000000) (disch := first | omega | (simp only [z1, z2, z3, z4, z5, z6, z7] <;> omega) | fail) only [go_sem]
      rfl
  have e1 : ¬ ((i : Int) < (l.length : Int)) := by omega
  rw [hend, List.take_length] at hok gA hL hpl hsl hT
  simp (maxSteps := 1000000) (disch := first | omega | (simp only [z1, z2, z3, z4, z5, z6, z7] <;> omega) | fail) only [go_sem, r0, r2, r7, r8, r9, e1]
  refine call1 (kraft_ok w0 A' l v (View.over hv oA) hl) ?_
  have hlv' : ∀ X, lenU X (some (.slice 3)) v = some (.int .i64 l.length, X) := hlv
  have hat := numC_at .i64 (n := 16) (j := 1) (mny l) (by omega)
  have hce := code_eq hok
  have hfin : ∀ b, b = isCode l → CountPost A l (.returned (.tuple #[.agg (numC .i64 16 (mny l)).toArray, .bool b])) A := fun b hb => ⟨_, by rw [hb], rfl, fun _ => rfl⟩
  have hbn : ∀ b, BndE A.next (.returned (.tuple #[.agg (numC .i64 16 (mny l)).toArray, .bool b])) := fun b => .returned (by simp only [bnd_tuple, bndL_cons, bndL_nil, bnd_bool, and_true]; exact numC_bnd ..)
  by_cases c1 : l.length ≤ 300
  rotate_left
  · have d1 : ¬ ((l.length : Nat) : Int) ≤ 300 := by omega
    simp (maxSteps := 1000000) (disch := first | omega | (simp only [z1, z2, z3, z4, z5, z6, z7] <;> omega) | fail) only [go_sem, r0, r2, hlv', gA, hT, hpl, hsl, d1, Try.results36]
    exact gc_over hw (oA.upd (Nat.le_refl _) _) (hbn _) (hfin _ (by rw [hce, decide_eq_false c1]; rfl))
  have d1 : ((l.length : Nat) : Int) ≤ 300 := by omega
  by_cases c2 : kr l = 32768
  · have d2 : ((kr l : Nat) : Int) = 32768 := by omega
    simp (maxSteps := 1000000) (disch := first | omega | (simp only [z1, z2, z3, z4, z5, z6, z7] <;> omega) | fail) only [go_sem, r0, r2, hlv', gA, hT, hpl, hsl, d1, d2, Try.results36]
    exact gc_over hw (oA.upd (Nat.le_refl _) _) (hbn _) (hfin _ (by rw [hce, decide_eq_true c1, decide_eq_true c2]; rfl))
  have d2 : ¬ ((kr l : Nat) : Int) = 32768 := by omega
  by_cases c3 : mny l 1 = 1
  rotate_left
  · have d3 : ¬ ((mny l 1 : Nat) : Int) = 1 := by omega
    simp (maxSteps := 1000000) (disch := first | omega | (simp only [z1, z2, z3, z4, z5, z6, z7] <;> omega) | fail) only [go_sem, r0, r2, hlv', gA, hT, hpl, hsl, hat, d1, d2, d3, Try.results36]
    exact gc_over hw (oA.upd (Nat.le_refl _) _) (hbn _) (hfin _ (by rw [hce, decide_eq_true c1, decide_eq_false c2, decide_eq_false c3]; rfl))
  have d3 : ((mny l 1 : Nat) : Int) = 1 := by omega
  by_cases c4 : kr l = 16384
  · have d4 : ((kr l : Nat) : Int) = 16384 := by omega
    simp (maxSteps := 1000000) (disch := first | omega | (simp only [z1, z2, z3, z4, z5, z6, z7] <;> omega) | fail) only [go_sem, r0, r2, hlv', gA, hT, hpl, hsl, hat, d1, d2, d3, d4, Try.results36]
    exact gc_over hw (oA.upd (Nat.le_refl _) _) (hbn _) (hfin _ (by rw [hce, decide_eq_true c1, decide_eq_false c2, decide_eq_true c3, decide_eq_true c4]; rfl))
  · have d4 : ¬ ((kr l : Nat) : Int) = 16384 := by omega
    simp (maxSteps := 1000000) (disch := first | omega | (simp only [z1, z2, z3, z4, z5, z6, z7] <;> omega) | fail) only [go_sem, r0, r2, hlv', gA, hT, hpl, hsl, hat, d1, d2, d3, d4, Try.results36]
    exact gc_over hw (oA.upd (Nat.le_refl _) _) (hbn _) (hfin _ (by rw [hce, decide_eq_true c1, decide_eq_false c2, decide_eq_true c3, decide_eq_false c4]; rfl))
end Go.Fw

set_option linter.unusedSimpArgs false
set_option linter.unusedVariables false
set_option maxRecDepth 4000
namespace Go.Fw
open Go.Proofs Go.RowKit
/-! The first words; the words of a code, the program's way. -/
theorem Try.enters17 : Enters Try.prog 17 := enters_of Try.func17 rfl (by kernel_rfl)
theorem shl1_u32 {n : Nat} (h : n < 65536) : ishl .u32 (n : Int) 1 = ((2 * n : Nat) : Int) := by
  have := u32_sl (a := n) (s := 1) (by decide) (by omega)
  rw [Nat.shiftLeft_eq] at this
  rw [show (1 : Int) = ((1 : Nat) : Int) from rfl, this]
  congr 1; omega
set_option maxHeartbeats 4000000 in
theorem first_ok (w0 : World) (A : St) (l : List Int) (hk : kr l ≤ 32768) : ACalls Try.prog w0 37 #[.agg (numC .i64 16 (mny l)).toArray] A (fin (.agg (numC .u32 17 (bs l)).toArray) A) := by
  refine call_E (l := [.agg (numC .i64 16 (mny l)).toArray]) Try.enters37 Try.func37 rfl (Nat.le_of_ble_eq_true rfl) fun hw hbd => ?_
  have hL := numC_len .i64 16 (mny l)
  have hpl := numC_plain .i64 16 (mny l)
  simp (maxSteps := 1000000) (disch := first | omega | (simp only [z1, z2, z3, z4, z5, z6, z7] <;> omega) | fail) only [go_sem, Try.ntmps37, Try.results37, hpl]
  refine aw_loop (fun k x A' => ∃ (ρ : Nat → Value) (i : Nat), x = E 21 ρ [] ∧ A' = ((A.alloc (.cells (numC .i64 16 (mny l)) 78 (some 0))).alloc (.cells (numC .u32 17 fun _ => 0) 81 (some 0))).upd (A.next + 1) (some (.cells (numC .u32 17 fun j => if j ≤ i + 1 then bs l j else 0) 81 (some 0))) ∧ k = 15 - i ∧ i ≤ 15 ∧ ρ 1 = .pointer (some ⟨A.next, 0, none⟩) ∧ ρ 2 = .pointer (some ⟨A.next + 1, 0, none⟩) ∧ ρ 3 = .int .i64 ((i + 1 : Nat) : Int)) 15
    ⟨_, 0, rfl, ?_, rfl, Nat.zero_le _, rfl, rfl, rfl⟩ ?_
  · have : (numC .u32 17 fun j => if j ≤ 0 + 1 then bs l j else 0) = numC .u32 17 fun _ => 0 := by
      unfold numC
      refine List.map_congr_left fun j _ => ?_
      have : (if j ≤ 0 + 1 then bs l j else 0) = 0 := by
        split
        · rcases (show j = 0 ∨ j = 1 by omega) with rfl | rfl <;> rfl
        · rfl
      show Value.int .u32 ((if j ≤ 0 + 1 then bs l j else 0 : Nat) : Int) = Value.int .u32 ((0 : Nat) : Int)
      rw [this]
    rw [this]
    exact (upd_id (get_alloc_same ..)).symm
  rintro k x A' ⟨ρ, i, rfl, hA', hkk, hi, r1, r2, r3⟩
  refine aw_of ?_
  have gA : A'.get (A.next + 1) = some (.cells (numC .u32 17 fun j => if j ≤ i + 1 then bs l j else 0) 81 (some 0)) := by rw [hA']; exact get_upd_same ..
  have gM : A'.get A.next = some (.cells (numC .i64 16 (mny l)) 78 (some 0)) := by rw [hA']; simp (disch := first | omega | (simp only [z1, z2, z3, z4, z5, z6, z7] <;> omega) | fail) only [St.get_upd, St.get_alloc, St.next_alloc, St.next_upd, ↓reduceIte, natF_lt, natF_gt, natF_ne, Nat.add_assoc, Nat.reduceAdd, Nat.reduceEqDiff, Nat.add_left_cancel_iff]
  have oA : Over A A' := by rw [hA']; exact (((Over.refl A).alloc _).alloc _).upd (by omega) _
  by_cases hend : i = 15
  · have e1 : ¬ (((i + 1 : Nat) : Int) ≤ 15) := by omega
    have hbs : (numC .u32 17 fun j => if j ≤ i + 1 then bs l j else 0) = numC .u32 17 (bs l) := by
      unfold numC
      refine List.map_congr_left fun j hj => ?_
      have := List.mem_range.1 hj
      show Value.int .u32 ((if j ≤ i + 1 then bs l j else 0 : Nat) : Int) = _
      rw [if_pos (by omega)]
    rw [hbs] at gA
    have hL2 := numC_len .u32 17 (bs l)
    have hp2 := numC_plain .u32 17 (bs l)
    have hT : (numC .u32 17 (bs l)).take 17 = numC .u32 17 (bs l) := List.take_of_length_le (by omega)
    have hsl : setList (numC .u32 17 (bs l)) 0 (numC .u32 17 (bs l)) = numC .u32 17 (bs l) := setList_all rfl
    simp (maxSteps := 1000000) (disch := first | omega | (simp only [z1, z2, z3, z4, z5, z6, z7] <;> omega) | fail) only [go_sem, r1, r2, r3, e1, gA, hT, hp2, hsl, Try.results37]
    exact gc_fin' hw (oA.upd (by omega) _) rfl (numC_bnd ..)
  have e1 : (((i + 1 : Nat) : Int) ≤ 15) := by omega
  have hble := bs_le hk (k := i + 1) (by omega) (by omega)
  have hp16 : 2 ^ (i + 1) ≤ 2 ^ 15 := Nat.pow_le_pow_right (by decide) (by omega)
  have h15 : (2 : Nat) ^ 15 = 32768 := rfl
  have a1 := numC_at .u32 (n := 17) (j := i + 1) (fun j => if j ≤ i + 1 then bs l j else 0) (by omega)
  rw [if_pos (Nat.le_refl _)] at a1
  have a2 := numC_at .i64 (n := 16) (j := i + 1) (mny l) (by omega)
  have hL3 := numC_len .u32 17 (fun j => if j ≤ i + 1 then bs l j else 0)
  have hwr : IntKind.u32.wrap ((mny l (i + 1) : Nat) : Int) = ((mny l (i + 1) : Nat) : Int) := by
    simp only [IntKind.wrap, IntKind.signed, IntKind.bits]; simp; omega
  have hwr2 : IntKind.u32.wrap (((bs l (i + 1) : Nat) : Int) + ((mny l (i + 1) : Nat) : Int)) = ((bs l (i + 1) + mny l (i + 1) : Nat) : Int) := by
    simp only [IntKind.wrap, IntKind.signed, IntKind.bits]; simp; omega
  have hsh := shl1_u32 (n := bs l (i + 1) + mny l (i + 1)) (by omega)
  have hset := numC_set .u32 (n := 17) (j := i + 1 + 1) (f := fun j => if j ≤ i + 1 then bs l j else 0) (g := fun j => if j ≤ i + 1 + 1 then bs l j else 0) (fun j hj => by
    show (if j ≤ i + 1 + 1 then bs l j else 0) = if j ≤ i + 1 then bs l j else 0
    by_cases h : j ≤ i + 1
    · rw [if_pos h, if_pos (by omega)]
    · rw [if_neg h, if_neg (by omega)])
  rw [if_pos (Nat.le_refl _)] at hset
  have hset' : (numC .u32 17 fun j => if j ≤ i + 1 then bs l j else 0).set (i + 1 + 1) (.int .u32 ((2 * (bs l (i + 1) + mny l (i + 1)) : Nat) : Int)) = numC .u32 17 fun j => if j ≤ i + 1 + 1 then bs l j else 0 := hset
  have c1 : ((i + 1 : Nat) : Int) + 1 = ((i + 1 + 1 : Nat) : Int) := by omega
  have e3 : ((i + 1 : Nat) : Int) < 16 := by omega
  have e4 : ((i + 1 : Nat) : Int) < 17 := by omega
  have e5 : ((i + 1 + 1 : Nat) : Int) < 17 := by omega
  simp (maxSteps := 1000000) (disch := first | omega | (simp only [z1, z2, z3, z4, z5, z6, z7] <;> omega) | fail) only [go_sem, r1, r2, r3, e1]
  refine aw_draw2 [⟨false, [], [0]⟩, ⟨false, [0], [0]⟩, ⟨false, [], [0]⟩, ⟨false, [2], [0]⟩, ⟨false, [2, 3], [0]⟩, ⟨false, [], [0]⟩, ⟨false, [5], [0]⟩, ⟨false, [5, 6], [0]⟩, ⟨false, [5, 6, 7], [0]⟩, ⟨false, [2, 3, 4, 5, 6, 7, 8], [0]⟩, ⟨false, [2, 3, 4, 5, 6, 7, 8, 9], [0]⟩, ⟨false, [0, 1, 2, 3, 4, 5, 6, 7, 8, 9, 10], [0]⟩, ⟨true, [0, 1, 2, 3, 4, 5, 6, 7, 8, 9, 10, 11], [0]⟩] [A', A'.upd (A.next + 1) (some (.cells (numC .u32 17 fun j => if j ≤ i + 1 + 1 then bs l j else 0) 81 (some 0)))] 1 (by kernel_rfl) (by kernel_rfl) rfl ?_
  simp (maxSteps := 1000000) (disch := first | omega | (simp only [z1, z2, z3, z4, z5, z6, z7] <;> omega) | fail) only [go_sem, r1, r2, r3, c1, e3, e4, e5, gA, gM, a1, a2, hwr, hwr2, hsh, hset']
  refine ⟨k - 1, by omega, _, i + 1, rfl, ?_, by omega, by omega, ?_, ?_, ?_⟩
  · rw [hA', upd_upd]
  · simp (maxSteps := 1000000) (disch := first | omega | (simp only [z1, z2, z3, z4, z5, z6, z7] <;> omega) | fail) only [go_sem, r1]
  · simp (maxSteps := 1000000) (disch := first | omega | (simp only [z1, z2, z3, z4, z5, z6, z7] <;> omega) | fail) only [go_sem, r2]
  · simp (maxSteps := 1000000) (disch := first | omega | (simp only [z1, z2, z3, z4, z5, z6, z7] <;> omega) | fail) only [go_sem]
end Go.Fw
