import Derived.Test.YtpjacnialnlilaaFwPre24
set_option linter.unusedSimpArgs false
set_option linter.unusedVariables false
set_option maxRecDepth 4000
namespace Go.Fw
open Go.Proofs Go.RowKit
/-! No word begins another one: plain. -/
theorem mny_take_lt {l : List Int} {i j k : Nat} (hij : i < j) (hi : l[i]? = some (k : Int)) : mny (l.take i) k < mny (l.take j) k := by
  have h1 : l.take (i + 1) = l.take i ++ [(k : Int)] := by rw [List.take_add_one, hi]; rfl
  have h2 : mny (l.take (i + 1)) k = mny (l.take i) k + 1 := by
    unfold mny
    rw [h1, List.count_append, List.count_singleton]
    simp
  have h3 : mny (l.take (i + 1)) k ≤ mny (l.take j) k := by
    unfold mny
    exact (List.take_sublist_take_left (by omega)).count_le _
  omega
theorem mny_at_lt {l : List Int} {i k : Nat} (hi : l[i]? = some (k : Int)) : mny (l.take i) k < mny l k := by
  have := mny_take_lt (l := l) (j := l.length) (List.getElem?_eq_some_iff.1 hi).1 hi
  rwa [List.take_length] at this
theorem wrd_lt {l : List Int} (h : kr l ≤ 32768) {i k : Nat} (h1 : 1 ≤ k) (h2 : k ≤ 15) (hi : l[i]? = some (k : Int)) : wrd l i k < 2 ^ k := by
  have := bs_le h h1 h2
  have := mny_at_lt hi
  unfold wrd; omega
/-- Where longer words begin. -/
theorem bs_far {l : List Int} {k k' : Nat} (h1 : 1 ≤ k) (hk : k < k') (h2 : k' ≤ 15) : (bs l k + mny l k) * 2 ^ (k' - k) ≤ bs l k' := by
  obtain ⟨j, rfl⟩ : ∃ j, k = j + 1 := ⟨k - 1, by omega⟩
  obtain ⟨j', rfl⟩ : ∃ j, k' = j + 1 := ⟨k' - 1, by omega⟩
  have e1 := bs_ks l j (by omega)
  have e2 : (bs l (j + 1) + mny l (j + 1)) * 2 ^ (15 - (j + 1)) = ks l (j + 1) := by rw [Nat.add_mul, e1]; rfl
  have e3 := bs_ks l j' (by omega)
  have e4 := ks_mono l (j := j + 1) (k := j') (by omega)
  rw [← e2, ← e3, show 15 - (j + 1) = (j' + 1 - (j + 1)) + (15 - (j' + 1)) by omega, Nat.pow_add, ← Nat.mul_assoc] at e4
  exact Nat.le_of_mul_le_mul_right e4 (Nat.pow_pos (by decide))
theorem wrd_ne {l : List Int} {i j k k' : Nat} (hij : i ≠ j) (h1 : 1 ≤ k) (hk : k ≤ k') (h2 : k' ≤ 15) (hi : l[i]? = some (k : Int)) (hj : l[j]? = some (k' : Int)) : wrd l j k' / 2 ^ (k' - k) ≠ wrd l i k := by
  intro he
  unfold wrd at he
  rcases Nat.lt_or_ge k k' with h | h
  · have h3 := bs_far (l := l) h1 h h2
    have h4 : (bs l k + mny l k) * 2 ^ (k' - k) ≤ bs l k' + mny (l.take j) k' := by omega
    have h5 := (Nat.le_div_iff_mul_le (Nat.pow_pos (by decide : 0 < 2))).2 h4
    have := mny_at_lt hi
    omega
  · obtain rfl : k = k' := by omega
    rw [Nat.sub_self, Nat.pow_zero, Nat.div_one] at he
    rcases Nat.lt_or_gt_of_ne hij with h | h
    · have := mny_take_lt h hi; omega
    · have := mny_take_lt h hj; omega
theorem rv_low {k k' : Nat} (h : k ≤ k') (n : Nat) : rv k' n % 2 ^ k = rv k (n / 2 ^ (k' - k)) := by
  apply Nat.eq_of_testBit_eq
  intro j
  rw [Nat.testBit_mod_two_pow, rv_bit, rv_bit, Nat.testBit_div_two_pow]
  by_cases hj : j < k
  · rw [decide_eq_true hj, decide_eq_true (show j < k' by omega), show k - 1 - j + (k' - k) = k' - 1 - j by omega]; simp
  · rw [decide_eq_false hj]; simp
theorem rv_inj {k a b : Nat} (ha : a < 2 ^ k) (hb : b < 2 ^ k) (h : rv k a = rv k b) : a = b := by
  apply Nat.eq_of_testBit_eq
  intro j
  by_cases hj : j < k
  · have := congrArg (fun n => n.testBit (k - 1 - j)) h
    simp only [rv_bit] at this
    rw [decide_eq_true (show k - 1 - j < k by omega), show k - 1 - (k - 1 - j) = j by omega] at this
    simpa using this
  · rw [Nat.testBit_lt_two_pow (Nat.lt_of_lt_of_le ha (Nat.pow_le_pow_right (by decide) (by omega))), Nat.testBit_lt_two_pow (Nat.lt_of_lt_of_le hb (Nat.pow_le_pow_right (by decide) (by omega)))]
theorem free_law {l : List Int} (h : kr l ≤ 32768) {i j k k' : Nat} (hij : i ≠ j) (h1 : 1 ≤ k) (hk : k ≤ k') (h2 : k' ≤ 15) (hi : l[i]? = some (k : Int)) (hj : l[j]? = some (k' : Int)) : rv k' (wrd l j k') % 2 ^ k ≠ rv k (wrd l i k) := by
  intro he
  rw [rv_low hk] at he
  have hj' := wrd_lt h (by omega) h2 hj
  refine wrd_ne hij h1 hk h2 hi hj (rv_inj ?_ (wrd_lt h h1 (by omega) hi) he)
  rw [Nat.div_lt_iff_lt_mul (Nat.pow_pos (by decide)), ← Nat.pow_add, show k + (k' - k) = k' by omega]
  exact hj'
end Go.Fw
