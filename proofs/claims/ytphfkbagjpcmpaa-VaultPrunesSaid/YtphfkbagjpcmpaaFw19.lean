import Derived.Test.YtphfkbagjpcmpaaFw18
import Derived.Laws.BytesArg
import Derived.Laws.StructEq
/-! Bytes as lists of numbers; a few laws on the bits of numbers. -/
set_option linter.unusedSimpArgs false
set_option linter.unusedVariables false
namespace Go.Fw
open Go.RowKit

/-- A text's bytes as numbers. -/
def nums (s : ByteArray) : List Int := s.data.toList.map fun b => (b.toNat : Int)
def Byte (x : Int) : Prop := 0 ≤ x ∧ x < 256
theorem nums_length (s : ByteArray) : (nums s).length = s.size := by
  simp only [nums, List.length_map, Array.length_toList]; rfl
theorem nums_byte (s : ByteArray) : ∀ x ∈ nums s, Byte x := by
  intro x hx
  simp only [nums, List.mem_map] at hx
  obtain ⟨b, _, rfl⟩ := hx
  have := b.toNat_lt
  exact ⟨by omega, by omega⟩
theorem bcells_nums (s : ByteArray) : bcells s = (nums s).map (.int .u8 ·) := by simp [bcells, nums]
theorem nums_str {l : List Int} (h : ∀ x ∈ l, Byte x) : nums (strOfNums l) = l := by
  simp only [nums, strOfNums_data, List.map_map]
  conv => rhs; rw [← List.map_id l]
  apply List.map_congr_left
  intro x hx
  have := h x hx
  simp only [Function.comp, id, UInt8.toNat_ofNat']
  have h1 := this.1
  have h2 := this.2
  omega
theorem str_nums (s : ByteArray) : strOfNums (nums s) = s := by
  apply ByteArray.ext
  apply Array.ext'
  rw [strOfNums_data]
  simp only [nums, List.map_map]
  conv => rhs; rw [← List.map_id s.data.toList]
  apply List.map_congr_left
  intro x hx
  simp
theorem nums_inj {s t : ByteArray} (h : nums s = nums t) : s = t := by rw [← str_nums s, h, str_nums]
theorem nums_append (s t : ByteArray) : nums (s ++ t) = nums s ++ nums t := by
  simp [nums, ByteArray.data_append]
theorem str_append (l m : List Int) : strOfNums l ++ strOfNums m = strOfNums (l ++ m) := by
  apply ByteArray.ext
  apply Array.ext'
  simp [ByteArray.data_append, strOfNums]
theorem nums_extract (s : ByteArray) (i j : Nat) : nums (s.extract i j) = ((nums s).drop i).take (j - i) := by
  simp [nums, ByteArray.data_extract, List.map_drop, List.map_take, Array.toList_extract]
theorem str_size (l : List Int) : (strOfNums l).size = l.length := strOfNums_size l
theorem str_nil : strOfNums [] = ByteArray.empty := rfl
theorem nums_empty : nums ByteArray.empty = [] := rfl
theorem sbt_nums (s : ByteArray) (i : Nat) (h : i < s.size) : (nums s)[i]? = some (sbt s i) := by
  simp only [nums, List.getElem?_map, sbt, dif_pos h]
  have h' : i < s.data.size := h
  rw [Array.getElem?_toList, Array.getElem?_eq_getElem h']; rfl
theorem sbt_byte (s : ByteArray) (i : Nat) : Byte (sbt s i) := by
  unfold sbt Byte
  split
  · have := (s[i]).toNat_lt; omega
  · omega
theorem sbt_drop (s : ByteArray) (i : Nat) (h : i < s.size) : (nums s).drop i = sbt s i :: (nums s).drop (i + 1) := by
  have h1 : i < (nums s).length := by rw [nums_length]; exact h
  rw [List.drop_eq_getElem_cons h1]
  have := sbt_nums s i h
  rw [List.getElem?_eq_getElem h1, Option.some.injEq] at this
  rw [this]
theorem str_eq_iff {l m : List Int} (hl : ∀ x ∈ l, Byte x) (hm : ∀ x ∈ m, Byte x) : strOfNums l = strOfNums m ↔ l = m :=
  ⟨fun h => by rw [← nums_str hl, h, nums_str hm], fun h => by rw [h]⟩
theorem beqBytes (s t : ByteArray) : (s == t) = decide (s = t) := by
  rw [beq_toListBytes]
  by_cases h : s = t
  · subst h; simp
  · have : s.toList ≠ t.toList := fun e => h (by
      simp only [ByteArray.toList_eq] at e
      exact ByteArray.ext (Array.ext' e))
    simp [h, this]
theorem beq_str {l m : List Int} (hl : ∀ x ∈ l, Byte x) (hm : ∀ x ∈ m, Byte x) : (strOfNums l == strOfNums m) = decide (l = m) := by
  rw [beqBytes, decide_eq_decide]; exact str_eq_iff hl hm
theorem beq_nums (s t : ByteArray) : (s == t) = decide (nums s = nums t) := by
  rw [beqBytes, decide_eq_decide]; exact ⟨fun h => by rw [h], nums_inj⟩
theorem textC_some {A : St} {cs : List Value} {e : TypeId} {m : Option Nat} {off n : Nat} {l : List Int} (h : off + n ≤ cs.length) (hl : (cs.drop off).take n = l.map (.int .u8 ·)) : textC A (some (.cells cs e m)) off n = some (.string (strOfNums l), A) := by
  simp [textC, h, hl, intsOf_map]

/-! Bits. -/
theorem bv_toNat (w : Nat) (a : Int) (h0 : 0 ≤ a) (h1 : a < 2 ^ w) : (BitVec.ofInt w a).toNat = a.toNat := by
  obtain ⟨n, rfl⟩ := Int.eq_ofNat_of_zero_le h0
  have : (n : Int) < ((2 ^ w : Nat) : Int) := by simpa using h1
  simp [BitVec.toNat_ofInt]
  norm_cast
  rw [Nat.mod_eq_of_lt (by omega)]
def Within (k : IntKind) (x : Int) : Prop := 0 ≤ x ∧ x < 2 ^ k.bits
theorem wrap_nat (k : IntKind) (hk : k.signed = false) (x : Nat) (h : x < 2 ^ k.bits) : k.wrap (x : Int) = x := by
  have : (x : Int) < ((2 ^ k.bits : Nat) : Int) := by exact_mod_cast h
  simp only [IntKind.wrap, hk, Bool.false_and, Bool.false_eq_true, if_false]
  rw [Int.emod_eq_of_lt (by omega) (by simpa using this)]
theorem bits_and (k : IntKind) (hk : k.signed = false) (a b : Nat) (ha : a < 2 ^ k.bits) (hb : b < 2 ^ k.bits) : ibits .and k a b = ((a &&& b : Nat) : Int) := by
  simp only [ibits]
  have h1 := bv_toNat k.bits a (by omega) (by exact_mod_cast ha)
  have h2 := bv_toNat k.bits b (by omega) (by exact_mod_cast hb)
  simp only [BitVec.toNat_and, h1, h2, Int.toNat_natCast]
  exact wrap_nat k hk _ (Nat.and_lt_two_pow _ hb)
theorem bits_or (k : IntKind) (hk : k.signed = false) (a b : Nat) (ha : a < 2 ^ k.bits) (hb : b < 2 ^ k.bits) : ibits .or k a b = ((a ||| b : Nat) : Int) := by
  simp only [ibits]
  have h1 := bv_toNat k.bits a (by omega) (by exact_mod_cast ha)
  have h2 := bv_toNat k.bits b (by omega) (by exact_mod_cast hb)
  simp only [BitVec.toNat_or, h1, h2, Int.toNat_natCast]
  exact wrap_nat k hk _ (Nat.or_lt_two_pow ha hb)
theorem bits_xor (k : IntKind) (hk : k.signed = false) (a b : Nat) (ha : a < 2 ^ k.bits) (hb : b < 2 ^ k.bits) : ibits .xor k a b = ((a ^^^ b : Nat) : Int) := by
  simp only [ibits]
  have h1 := bv_toNat k.bits a (by omega) (by exact_mod_cast ha)
  have h2 := bv_toNat k.bits b (by omega) (by exact_mod_cast hb)
  simp only [BitVec.toNat_xor, h1, h2, Int.toNat_natCast]
  exact wrap_nat k hk _ (Nat.xor_lt_two_pow ha hb)
/-- The lowest j bits. -/
theorem and_mask (k : IntKind) (hk : k.signed = false) (a : Int) (j : Nat) (ha : Within k a) (hj : j ≤ k.bits) : ibits .and k a (2 ^ j - 1) = a % 2 ^ j := by
  obtain ⟨ha0, ha1⟩ := ha
  obtain ⟨n, rfl⟩ := Int.eq_ofNat_of_zero_le ha0
  have hp : 0 < 2 ^ j := Nat.two_pow_pos j
  have hm : ((2 : Int) ^ j - 1) = ((2 ^ j - 1 : Nat) : Int) := by rw [Int.ofNat_sub (by omega)]; simp
  have h2 : 2 ^ j ≤ 2 ^ k.bits := Nat.pow_le_pow_right (by omega) hj
  rw [hm, bits_and k hk n _ (by exact_mod_cast ha1) (by omega), Nat.and_two_pow_sub_one_eq_mod]
  simp
/-- Bits that do not meet. -/
theorem or_add (k : IntKind) (hk : k.signed = false) (a b : Int) (j : Nat) (ha0 : 0 ≤ a) (ha : a < 2 ^ j) (hb0 : 0 ≤ b) (hb : b * 2 ^ j + a < 2 ^ k.bits) : ibits .or k a (b * 2 ^ j) = a + b * 2 ^ j := by
  obtain ⟨n, rfl⟩ := Int.eq_ofNat_of_zero_le ha0
  obtain ⟨m, rfl⟩ := Int.eq_ofNat_of_zero_le hb0
  have h1 : n < 2 ^ j := by exact_mod_cast ha
  have h2 : m * 2 ^ j + n < 2 ^ k.bits := by exact_mod_cast hb
  have hm : ((m : Int) * 2 ^ j) = ((m * 2 ^ j : Nat) : Int) := by simp
  rw [hm, bits_or k hk n _ (by omega) (by omega), Nat.or_comm]
  have := Nat.shiftLeft_add_eq_or_of_lt h1 m
  rw [Nat.shiftLeft_eq] at this
  rw [← this]
  push_cast
  omega
theorem ishl_eq (k : IntKind) (hk : k.signed = false) (a : Int) (j : Nat) (hj : j ≤ k.bits) (h0 : 0 ≤ a) (h : a * 2 ^ j < 2 ^ k.bits) : ishl k a j = a * 2 ^ j := by
  unfold ishl
  rw [Int.toNat_natCast, Nat.min_eq_left hj]
  obtain ⟨n, rfl⟩ := Int.eq_ofNat_of_zero_le h0
  have hm : ((n : Int) * 2 ^ j) = ((n * 2 ^ j : Nat) : Int) := by simp
  rw [hm]
  exact wrap_nat k hk _ (by exact_mod_cast h)
theorem ishr_eq (k : IntKind) (a : Int) (j : Nat) (hj : j ≤ k.bits) : ishr k a j = a / 2 ^ j := by
  unfold ishr
  rw [Int.toNat_natCast, Nat.min_eq_left hj, Int.fdiv_eq_ediv_of_nonneg _ (Int.pow_nonneg (by omega))]
end Go.Fw
