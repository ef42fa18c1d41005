import Derived.Test.YtphfkbagjpcmpaaFw28
/-! Numbers as bytes: what the varint layer computes, in plain terms. -/
set_option linter.unusedSimpArgs false
set_option linter.unusedVariables false
namespace Go.Fw
open Go.RowKit
def getV (x : Int × List Int × Int) : Value := .tuple #[.int .u64 x.1, .string (strOfNums x.2.1), .int .i64 x.2.2]
/-- Bytes as one number, the first the highest. -/
def beN (l : List Int) : Int := l.foldl (fun n c => n * 256 + c) 0
theorem beN_snoc (l : List Int) (c : Int) : beN (l ++ [c]) = beN l * 256 + c := by simp [beN]
theorem beN_lt : ∀ (i : Nat) (l : List Int), l.length = i → (∀ x ∈ l, Byte x) → 0 ≤ beN l ∧ beN l < 256 ^ i := by
  intro i
  induction i with
  | zero => intro l h _; rw [List.eq_nil_of_length_eq_zero h]; exact ⟨by decide, by decide⟩
  | succ i ih =>
    intro l h hb
    obtain ⟨l', c, rfl⟩ : ∃ l' c, l = l' ++ [c] := by
      have hne : l ≠ [] := by intro h0; rw [h0] at h; simp at h
      exact ⟨l.dropLast, l.getLast hne, (List.dropLast_concat_getLast hne).symm⟩
    obtain ⟨h1, h2⟩ := ih l' (by simpa using h) (fun x hx => hb x (List.mem_append_left _ hx))
    have h3 := hb c (by simp)
    have h4 := h3.1
    have h5 := h3.2
    rw [beN_snoc, Int.pow_succ]
    exact ⟨by omega, by omega⟩
/-- A number of so many bytes, read. -/
def fixL (l : List Int) (w : Int) : Int × List Int × Int :=
  if w < 1 ∨ w > 8 then (0, [], 1) else if (l.length : Int) < w then (0, [], 40) else (beN (l.take w.toNat), l.drop w.toNat, 0)
theorem fixed_or (i : Nat) (n c : Int) (hi : i ≤ 7) (hn0 : 0 ≤ n) (hn : n < 256 ^ i) (hc : Byte c) : ibits .or .u64 (ishl .u64 n 8) c = n * 256 + c := by
  obtain ⟨h0, h1⟩ := hc
  have hp : (256 : Int) ^ i ≤ 256 ^ 7 := by
    have := Int.ofNat_le.2 (Nat.pow_le_pow_right (n := 256) (by omega) hi)
    rw [Int.natCast_pow, Int.natCast_pow] at this
    exact this
  have h7 : (256 : Int) ^ 7 = 72057594037927936 := rfl
  have h8 : (2 : Int) ^ 8 = 256 := rfl
  rw [show (8 : Int) = ((8 : Nat) : Int) from rfl, ishl_eq .u64 rfl n 8 (by decide) hn0 (by simp only [IntKind.bits]; omega), h8]
  have hor : ibits .or .u64 (n * 256) c = ibits .or .u64 c (n * 256) := by
    obtain ⟨a, rfl⟩ := Int.eq_ofNat_of_zero_le hn0
    obtain ⟨b, rfl⟩ := Int.eq_ofNat_of_zero_le h0
    have e : ((a : Int) * 256) = ((a * 256 : Nat) : Int) := (Int.natCast_mul a 256).symm
    rw [e, bits_or .u64 rfl _ _ (by simp only [IntKind.bits]; omega) (by simp only [IntKind.bits]; omega), bits_or .u64 rfl _ _ (by simp only [IntKind.bits]; omega) (by simp only [IntKind.bits]; omega), Nat.or_comm]
  have := or_add .u64 rfl c n 8 h0 (by omega) hn0 (by simp only [IntKind.bits]; omega)
  rw [h8] at this
  rw [hor, this]
  omega
theorem bnd_getV (n : Nat) (x : Int × List Int × Int) : Bnd n (getV x) := by simp only [getV, bnd_tuple, bndL_cons, bndL_nil, bnd_int, bnd_string, and_self]

theorem makeSlice_bytes {P : Program} {A : St} {t e : TypeId} {k k' : IntKind} {n : Int} (hel : telem P t = some e) (hsz : tsz P e = some 1) (hb : tbytes P e = some 1) (hz : tzero P e = some (.int .u8 0)) (h0 : 0 ≤ n) (hn : n ≤ 281474976710656) :
    amakeSlice P A t (.int k n) (.int k' n) = some (.slice (some ⟨A.next, 0, none⟩) n.toNat n.toNat, A.alloc (.cells (List.replicate n.toNat (.int .u8 0)) e (some 0))) := by
  unfold amakeSlice
  simp only [hel, hsz, hb, hz]
  rw [if_pos ⟨h0, Int.le_refl _, by omega, by omega, Nat.one_pos⟩, Nat.mul_one, zeros_one _ rfl]
/-- A number's lowest bytes, the highest first. -/
def bigL (n : Nat) : Nat → List Int
  | 0 => []
  | i + 1 => ((n / 256 ^ i % 256 : Nat) : Int) :: bigL n i
theorem bigL_length (n : Nat) : ∀ i, (bigL n i).length = i
  | 0 => rfl
  | i + 1 => by simp [bigL, bigL_length n i]
theorem bigL_byte (n : Nat) : ∀ i, ∀ x ∈ bigL n i, Byte x
  | 0 => by intro x hx; simp [bigL] at hx
  | i + 1 => by
    intro x hx
    simp only [bigL, List.mem_cons] at hx
    rcases hx with rfl | hx
    · exact ⟨by omega, by omega⟩
    · exact bigL_byte n i x hx
theorem replicate_set (k : Nat) (x : Int) (l : List Int) : (List.replicate (k + 1) 0 ++ l).set k x = List.replicate k 0 ++ (x :: l) := by
  induction k with
  | zero => rfl
  | succ k ih =>
    rw [List.replicate_succ, List.cons_append, List.set_cons_succ, ih]
    rfl
def bigS (n : Nat) (w : Int) : List Int := if w < 1 ∨ w > 8 then [] else bigL n w.toNat
theorem bits_range (op : BinOp) (a b : Int) : 0 ≤ ibits op .u64 a b ∧ ibits op .u64 a b < 18446744073709551616 := by
  have key : ∀ x : Int, 0 ≤ IntKind.wrap .u64 x ∧ IntKind.wrap .u64 x < 18446744073709551616 := by
    intro x
    simp only [IntKind.wrap, IntKind.signed, IntKind.bits, Bool.false_and, Bool.false_eq_true, if_false]
    omega
  cases op <;> exact key _
theorem str_take {l : List Int} (h : ∀ x ∈ l, Byte x) (n : Nat) : (strOfNums l).extract 0 n = strOfNums (l.take n) := by
  apply nums_inj
  rw [nums_extract, nums_str h, nums_str (fun x hx => h x (List.mem_of_mem_take hx)), List.drop_zero, Nat.sub_zero]
theorem str_drop {l : List Int} (h : ∀ x ∈ l, Byte x) (n : Nat) : (strOfNums l).extract n l.length = strOfNums (l.drop n) := by
  apply nums_inj
  rw [nums_extract, nums_str h, nums_str (fun x hx => h x (List.mem_of_mem_drop hx)), List.take_of_length_le (by simp)]
end Go.Fw
