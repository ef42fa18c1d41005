import Derived.Test.YtpjacnialnlilaaFwBit2
set_option linter.unusedSimpArgs false
set_option linter.unusedVariables false
set_option maxRecDepth 4000
namespace Go.Fw
open Go.Proofs Go.RowKit
/-- Bits, the lowest first, and the number that they are. -/
def bitsN (n k : Nat) : List Nat := (List.range k).map fun j => n / 2 ^ j % 2
theorem bitsN_succ (n k : Nat) : bitsN n (k + 1) = bitsN n k ++ [n / 2 ^ k % 2] := by simp [bitsN, List.range_succ]
theorem bitsN_length (n k : Nat) : (bitsN n k).length = k := by simp [bitsN]
def bitsL (l : List (Int × Int)) : List Nat := l.flatMap fun p => bitsN p.1.toNat p.2.toNat
def valN : List Nat → Nat
  | [] => 0
  | b :: r => b + 2 * valN r
theorem valN_append : ∀ (a b : List Nat), valN (a ++ b) = valN a + 2 ^ a.length * valN b
  | [], b => by simp [valN]
  | x :: a, b => by
    simp only [List.cons_append, valN, valN_append a b, List.length_cons, Nat.pow_succ]
    rw [Nat.mul_add, ← Nat.mul_assoc, Nat.mul_comm 2 (2 ^ a.length), Nat.add_assoc]
theorem valN_bits (n : Nat) : ∀ k, valN (bitsN n k) = n % 2 ^ k
  | 0 => by simp [bitsN, valN, Nat.mod_one]
  | k + 1 => by
    rw [bitsN_succ, valN_append, valN_bits n k, bitsN_length]
    simp only [valN, Nat.mul_zero, Nat.add_zero]
    rw [Nat.pow_succ, Nat.mod_mul]
def Bits (l : List Nat) : Prop := ∀ b ∈ l, b < 2
theorem valN_lt : ∀ (l : List Nat), Bits l → valN l < 2 ^ l.length
  | [], _ => by simp [valN]
  | b :: r, h => by
    have h1 := h b (List.mem_cons_self ..)
    have h2 := valN_lt r fun x hx => h x (List.mem_cons_of_mem _ hx)
    simp only [valN, List.length_cons, Nat.pow_succ]
    omega
theorem bits_N (n k : Nat) : Bits (bitsN n k) := fun b hb => by
  obtain ⟨j, _, rfl⟩ := List.mem_map.1 hb
  exact Nat.mod_lt _ (by decide)
theorem bits_L (l : List (Int × Int)) : Bits (bitsL l) := fun b hb => by
  obtain ⟨p, _, hp⟩ := List.mem_flatMap.1 hb
  exact bits_N _ _ b hp
theorem bitsL_snoc (l : List (Int × Int)) (i : Nat) (p : Int × Int) (h : l[i]? = some p) : bitsL (l.take (i + 1)) = bitsL (l.take i) ++ bitsN p.1.toNat p.2.toNat := by
  unfold bitsL
  rw [List.take_add_one, h, List.flatMap_append]; simp
theorem mayN {p : Int × Int} (h0 : 0 ≤ p.1) (h : mayB p = true) : ∃ n w : Nat, p = ((n : Int), (w : Int)) ∧ w ≤ 24 ∧ n < 2 ^ w := by
  obtain ⟨h1, h2, h3⟩ := mayB_iff h
  obtain ⟨a, b⟩ := p
  simp only at h0 h1 h2 h3
  obtain ⟨n, rfl⟩ := Int.eq_ofNat_of_zero_le h0
  obtain ⟨w, rfl⟩ := Int.eq_ofNat_of_zero_le h1
  refine ⟨n, w, rfl, by omega, ?_⟩
  simp only [Int.toNat_natCast] at h3
  rw [show ((2 : Int) ^ w) = ((2 ^ w : Nat) : Int) by rw [Int.natCast_pow]; rfl] at h3
  exact Int.ofNat_lt.1 h3
theorem packW_bits (l : List (Int × Int)) (hl : ∀ p ∈ l, PcOk p) (hm : packOk l = true) : ∀ i, i ≤ l.length → (packW (l.take i)).1 = valN (bitsL (l.take i)) ∧ (packW (l.take i)).2 = (bitsL (l.take i)).length
  | 0, _ => by simp [packW, bitsL, valN]
  | i + 1, hi => by
    obtain ⟨p, hp⟩ : ∃ p, l[i]? = some p := ⟨l[i]'(by omega), List.getElem?_eq_getElem _⟩
    have hmem := List.mem_of_getElem? hp
    have hmay : mayB p = true := List.all_eq_true.1 hm p hmem
    obtain ⟨n, w, rfl, hw, hn⟩ := mayN (hl p hmem).1 hmay
    obtain ⟨h1, h2⟩ := packW_bits l hl hm i (by omega)
    rw [packW_snoc l i _ hp, bitsL_snoc l i _ hp, stP, if_pos hmay]
    simp only [Int.toNat_natCast, List.length_append, bitsN_length, valN_append, valN_bits, h1, h2, and_true]
    rw [Nat.mod_eq_of_lt hn, Nat.mul_comm]
theorem valN_split (l : List Nat) (m : Nat) : valN l = valN (l.take m) + 2 ^ (l.take m).length * valN (l.drop m) := by
  rw [← valN_append, List.take_append_drop]
theorem bits_take {l : List Nat} (h : Bits l) (m : Nat) : Bits (l.take m) := fun b hb => h b (List.mem_of_mem_take hb)
theorem bits_drop {l : List Nat} (h : Bits l) (m : Nat) : Bits (l.drop m) := fun b hb => h b (List.mem_of_mem_drop hb)
theorem valN_div {l : List Nat} (h : Bits l) (m : Nat) : valN l / 2 ^ m = valN (l.drop m) := by
  by_cases hm : m ≤ l.length
  · have hlt := valN_lt _ (bits_take h m)
    rw [valN_split l m]
    rw [List.length_take, Nat.min_eq_left hm] at hlt ⊢
    rw [Nat.add_mul_div_left _ _ (Nat.two_pow_pos m), Nat.div_eq_of_lt hlt, Nat.zero_add]
  · rw [List.drop_eq_nil_of_le (by omega)]
    exact Nat.div_eq_of_lt (Nat.lt_of_lt_of_le (valN_lt l h) (Nat.pow_le_pow_right (by decide) (by omega)))
theorem valN_mod {l : List Nat} (h : Bits l) (m : Nat) : valN l % 2 ^ m = valN (l.take m) := by
  by_cases hm : m ≤ l.length
  · have hlt := valN_lt _ (bits_take h m)
    rw [valN_split l m]
    rw [List.length_take, Nat.min_eq_left hm] at hlt ⊢
    rw [Nat.add_mul_mod_self_left, Nat.mod_eq_of_lt hlt]
  · rw [List.take_of_length_le (by omega)]
    exact Nat.mod_eq_of_lt (Nat.lt_of_lt_of_le (valN_lt l h) (Nat.pow_le_pow_right (by decide) (by omega)))
/-- A piece's cells; how an argument's pieces are read. -/
def pcE (p : Int × Int) : List Value := [.int .u32 p.1, .int .i64 p.2]
theorem pcE_len (p : Int × Int) : (pcE p).length = 2 := rfl
theorem flatP_eq : ∀ l : List (Int × Int), l.flatMap pcE = flatP l
  | [] => rfl
  | p :: l => by rw [List.flatMap_cons, flatP_eq l]; rfl
def packS (l : List (Int × Int)) : ByteArray × Int := if packOk l then (strOfNums (le (((packW l).2 + 7) / 8) (packW l).1), 0) else (.empty, 1)
theorem packR_eq (l : List (Int × Int)) : packR l = .tuple #[.string (packS l).1, .int .i64 (packS l).2] := by unfold packR packS; split <;> rfl
theorem packW_b (l : List (Int × Int)) (hl : ∀ p ∈ l, PcOk p) (hm : packOk l = true) : packW l = (valN (bitsL l), (bitsL l).length) := by
  have := packW_bits l hl hm l.length (Nat.le_refl _)
  rw [List.take_length] at this
  exact Prod.ext this.1 this.2
theorem packS_ok {l : List (Int × Int)} (hl : ∀ p ∈ l, PcOk p) (hm : packOk l = true) : packS l = (strOfNums (le (((bitsL l).length + 7) / 8) (valN (bitsL l))), 0) := by
  unfold packS; rw [if_pos hm, packW_b l hl hm]
theorem bitsL_append (a b : List (Int × Int)) : bitsL (a ++ b) = bitsL a ++ bitsL b := List.flatMap_append
theorem takeS_short {s : ByteArray} {k w : Nat} (hw : w ≤ 24) (h : 8 * s.size - k < w) : takeS s k (w : Int) = (0, 40, k) := by
  unfold takeS; rw [if_neg (by omega), if_pos (by omega)]
theorem takeS_fine {s : ByteArray} {k w : Nat} (hw : w ≤ 24) (h : w ≤ 8 * s.size - k) : takeS s k (w : Int) = (((strV s / 2 ^ k % 2 ^ w : Nat) : Int), 0, k + w) := by
  unfold takeS; rw [if_neg (by omega), if_neg (by omega)]; rfl
theorem le_byte (k V : Nat) : ∀ x ∈ le k V, Byte x := by
  intro x hx
  obtain ⟨i, _, rfl⟩ := List.mem_map.1 hx
  have := Nat.mod_lt (V / 256 ^ i) (show 0 < 256 by decide)
  unfold Byte
  omega
theorem leV_append : ∀ (a b : List Int), leV (a ++ b) = leV a + 256 ^ a.length * leV b
  | [], b => by simp [leV]
  | x :: a, b => by
    simp only [List.cons_append, leV, leV_append a b, List.length_cons, Nat.pow_succ]
    rw [Nat.mul_add, ← Nat.mul_assoc, Nat.mul_comm 256 (256 ^ a.length), Nat.add_assoc]
theorem leV_le (V : Nat) : ∀ k, leV (le k V) = V % 256 ^ k
  | 0 => by simp [le, leV, Nat.mod_one]
  | k + 1 => by
    rw [le_succ, leV_append, leV_le V k, le_length]
    simp only [leV, Nat.mul_zero, Nat.add_zero, Int.toNat_natCast]
    rw [Nat.pow_succ, Nat.mod_mul]
theorem packS_V {l : List (Int × Int)} (hl : ∀ p ∈ l, PcOk p) (hm : packOk l = true) : strV (packS l).1 = valN (bitsL l) := by
  rw [packS_ok hl hm]
  unfold strV
  rw [nums_str (le_byte _ _), leV_le, Nat.mod_eq_of_lt]
  rw [pow256]
  exact Nat.lt_of_lt_of_le (valN_lt _ (bits_L l)) (Nat.pow_le_pow_right (by decide) (by omega))
theorem packS_size {l : List (Int × Int)} (hl : ∀ p ∈ l, PcOk p) (hm : packOk l = true) : (packS l).1.size = ((bitsL l).length + 7) / 8 := by rw [packS_ok hl hm, str_size, le_length]
theorem piece_at {l : List (Int × Int)} {i n w : Nat} (h : l[i]? = some ((n : Int), (w : Int))) (hn : n < 2 ^ w) : valN (bitsL l) / 2 ^ (bitsL (l.take i)).length % 2 ^ w = n := by
  have hsp : bitsL l = bitsL (l.take i) ++ (bitsN n w ++ bitsL (l.drop (i + 1))) := by
    conv => lhs; rw [← List.take_append_drop (i + 1) l, bitsL_append, bitsL_snoc l i _ h]
    simp
  rw [valN_div (bits_L l), valN_mod (bits_drop (bits_L l) _)]
  rw [show (bitsL l).drop (bitsL (l.take i)).length = bitsN n w ++ bitsL (l.drop (i + 1)) by conv => lhs; rw [hsp]; rw [List.drop_left]]
  rw [List.take_left' (bitsN_length n w), valN_bits, Nat.mod_eq_of_lt hn]
theorem bitsL_take_le (l : List (Int × Int)) (i : Nat) : (bitsL (l.take i)).length ≤ (bitsL l).length := by
  conv => rhs; rw [← List.take_append_drop i l, bitsL_append, List.length_append]
  omega
end Go.Fw
