import Derived.Test.YtfmbflmknjlefaaFwVarint
set_option linter.unusedSimpArgs false
set_option linter.unusedVariables false
set_option maxRecDepth 4000
namespace Go.Fw
open Go.Proofs Go.RowKit
theorem Try.enters100 : Enters Try.prog 100 := enters_of Try.func100 rfl (by kernel_rfl)
theorem Try.enters82 : Enters Try.prog 82 := enters_of Try.func82 rfl (by kernel_rfl)

set_option maxHeartbeats 400000 in
theorem get1_yes (w0 : World) (A : St) (B : Nat) (s : ByteArray) (m : Option Nat) (i : Int) (hB : A.get B = some (.cells [.string s] 9 m)) (h0 : 0 ≤ i) (h1 : i < s.size) :
    ACalls Try.prog w0 100 #[.int .i64 i, .pointer (some ⟨B, 0, none⟩)] A (fin (.tuple #[.int .u8 (sbt s i.toNat), .bool true]) A) := by
  refine call_E Try.enters100 Try.func100 rfl (Nat.le_of_ble_eq_true rfl) fun hw hbd => ?_
  simp (maxSteps := 1000000) (disch := (first | omega | (simp only [nx_alloc, nx_upd, len_cons, len_nil, List.length_set, List.length_map, List.length_append] <;> omega) | fail)) only [go_sem, Try.ntmps100, Try.results100, hB]
  exact gc_fin hw (Over.refl _) (by simp only [bnd_tuple, bndL_cons, bndL_nil, bnd_int, bnd_bool, and_self])
set_option maxHeartbeats 400000 in
theorem get1_no (w0 : World) (A : St) (B : Nat) (s : ByteArray) (m : Option Nat) (i : Int) (hB : A.get B = some (.cells [.string s] 9 m)) (h1 : s.size ≤ i) :
    ACalls Try.prog w0 100 #[.int .i64 i, .pointer (some ⟨B, 0, none⟩)] A (fin (.tuple #[.int .u8 0, .bool false]) A) := by
  refine call_E Try.enters100 Try.func100 rfl (Nat.le_of_ble_eq_true rfl) fun hw hbd => ?_
  simp (maxSteps := 1000000) (disch := (first | omega | (simp only [nx_alloc, nx_upd, len_cons, len_nil, List.length_set, List.length_map, List.length_append] <;> omega) | fail)) only [go_sem, Try.ntmps100, Try.results100, hB]
  exact gc_fin hw (Over.refl _) (by simp only [bnd_tuple, bndL_cons, bndL_nil, bnd_int, bnd_bool, and_self])

/-- A number's first bytes, read. -/
def getL : Nat → Nat → Int → List Int → Int × List Int × Int
  | 0, _, _, _ => (0, [], 41)
  | k + 1, i, n, [] => (0, [], 40)
  | k + 1, i, n, c :: r => if (i = 9 ∧ c > 1) ∨ (i > 0 ∧ c = 0) then (0, [], 41) else if c < 128 then (n + (c % 128) * 2 ^ (7 * i), r, 0) else getL k (i + 1) (n + (c % 128) * 2 ^ (7 * i)) r
theorem getL_of {i : Nat} {c : Int} {r : List Int} {k : Nat} {n : Int} : getL (k + 1) i n (c :: r) = if (i = 9 ∧ c > 1) ∨ (i > 0 ∧ c = 0) then (0, [], 41) else if c < 128 then (n + (c % 128) * 2 ^ (7 * i), r, 0) else getL k (i + 1) (n + (c % 128) * 2 ^ (7 * i)) r := rfl
/-- The seven bits of a byte, laid above those that were read. -/
theorem get_or (i : Nat) (n c : Int) (hi : i ≤ 9) (hn0 : 0 ≤ n) (hn : n < 2 ^ (7 * i)) (hc : Byte c) (h9 : i = 9 → c ≤ 1) :
    ibits .and .u8 c 127 = c % 128 ∧ ibits .or .u64 n (ishl .u64 (c % 128) (7 * (i : Int))) = n + (c % 128) * 2 ^ (7 * i) ∧ 0 ≤ n + (c % 128) * 2 ^ (7 * i) ∧ n + (c % 128) * 2 ^ (7 * i) < 18446744073709551616 ∧ (c < 128 ∨ i < 9) ∧ n + (c % 128) * 2 ^ (7 * i) < 2 ^ (7 * (i + 1)) := by
  obtain ⟨h0, h1⟩ := hc
  have e1 : ibits .and .u8 c 127 = c % 128 := and_mask .u8 rfl c 7 ⟨h0, h1⟩ (by decide)
  have hm : 0 ≤ c % 128 ∧ c % 128 < 128 := ⟨by omega, by omega⟩
  refine ⟨e1, ?_⟩
  have hp : (0 : Int) < 2 ^ (7 * i) := Int.pow_pos (by omega)
  have hs : (2 : Int) ^ (7 * (i + 1)) = 128 * 2 ^ (7 * i) := by rw [show 7 * (i + 1) = 7 + 7 * i by omega, Int.pow_add]; rfl
  have hb : (c % 128) * 2 ^ (7 * i) + n < 2 ^ (7 * (i + 1)) := by
    rw [hs]
    have : (c % 128) * 2 ^ (7 * i) ≤ 127 * 2 ^ (7 * i) := Int.mul_le_mul_of_nonneg_right (by omega) (by omega)
    omega
  have hb2 : (c % 128) * 2 ^ (7 * i) + n < 2 ^ 64 := by
    by_cases h : i = 9
    · subst h
      have := h9 rfl
      have h2 : c % 128 ≤ 1 := by omega
      have : (c % 128) * 2 ^ (7 * 9) ≤ 1 * 2 ^ (7 * 9) := Int.mul_le_mul_of_nonneg_right h2 (by omega)
      have hn' : n < 2 ^ 63 := hn
      have e63 : (2 : Int) ^ (7 * 9) = 2 ^ 63 := rfl
      rw [e63] at this ⊢
      omega
    · have h3 : (2 : Int) ^ (7 * (i + 1)) ≤ 2 ^ 63 := by
        have : (2 : Nat) ^ (7 * (i + 1)) ≤ 2 ^ 63 := Nat.pow_le_pow_right (by omega) (by omega)
        exact_mod_cast this
      have h4 : (2 : Int) ^ 63 ≤ 2 ^ 64 := by decide
      omega
  have hd0 : 0 ≤ (c % 128) * 2 ^ (7 * i) := Int.mul_nonneg (by omega) (by omega)
  have e7 : (7 * (i : Int)) = ((7 * i : Nat) : Int) := by push_cast; rfl
  have h64 : (2 : Int) ^ 64 = 18446744073709551616 := rfl
  rw [e7, ishl_eq .u64 rfl _ (7 * i) (by simp [IntKind.bits]; omega) hm.1 (by simp only [IntKind.bits]; omega), or_add .u64 rfl n _ (7 * i) hn0 hn hm.1 (by simp only [IntKind.bits]; exact hb2)]
  exact ⟨rfl, by omega, by omega, by omega, by omega⟩
set_option maxHeartbeats 1000000 in
theorem get_ok (w0 : World) (A : St) (s : ByteArray) (hs : s.size ≤ 140737488355327) : ACalls Try.prog w0 82 #[.string s] A (fin (getV (getL 10 0 0 (nums s))) A) := by
  refine call_E Try.enters82 Try.func82 rfl (Nat.le_of_ble_eq_true rfl) fun hw hbd => ?_
  simp (maxSteps := 1000000) (disch := (first | omega | (simp only [nx_alloc, nx_upd, len_cons, len_nil, List.length_set, List.length_map, List.length_append] <;> omega) | fail)) only [go_sem, Try.ntmps82, Try.results82]
  obtain ⟨A1, hA1⟩ : ∃ A1, A1 = A.alloc (.cells [.string s] 9 (some 0)) := ⟨_, rfl⟩
  have hov : Over A A1 := hA1 ▸ (Over.refl A).alloc _
  have hB : A1.get A.next = some (.cells [.string s] 9 (some 0)) := by rw [hA1]; exact get_alloc_same ..
  rw [← hA1]
  refine aw_loop (fun m a A' => ∃ (ρ : Nat → Value) (i : Nat) (n : Int), a = E 52 ρ [] ∧ A' = A1 ∧ m = 10 - i ∧ i ≤ 10 ∧ i ≤ s.size ∧ ρ 1 = .pointer (some ⟨A.next, 0, none⟩) ∧ ρ 5 = .int .u64 n ∧ ρ 6 = .func (.func 100) #[] #[.pointer (some ⟨A.next, 0, none⟩)] ∧ ρ 11 = .int .i64 i ∧
    0 ≤ n ∧ n < 2 ^ (7 * i) ∧ getL 10 0 0 (nums s) = getL (10 - i) i n ((nums s).drop i)) 10 ⟨_, 0, 0, rfl, rfl, rfl, by omega, by omega, rfl, rfl, rfl, rfl, by omega, by decide, by simp⟩ ?_
  rintro m a A' ⟨ρ, i, n, rfl, rfl, rfl, hi, his, h1, h5, h6, h11, hn0, hn, hL⟩
  refine aw_of ?_
  simp (maxSteps := 1000000) (disch := (first | omega | (simp only [nx_alloc, nx_upd, len_cons, len_nil, List.length_set, List.length_map, List.length_append] <;> omega) | fail)) only [go_sem, h11]
  refine ifB_dec (fun h10 => ?_) (fun h10 => ?_)
  rotate_left
  · have : i = 10 := by omega
    subst this
    simp (maxSteps := 1000000) (disch := (first | omega | (simp only [nx_alloc, nx_upd, len_cons, len_nil, List.length_set, List.length_map, List.length_append] <;> omega) | fail)) only [go_sem, Try.results82]
    exact gc_fin' hw hov (by rw [hL]; rfl) (by simp only [getV, bnd_tuple, bndL_cons, bndL_nil, bnd_int, bnd_string, and_self])
  have bndV : ∀ x, Bnd A.next (getV x) := fun x => by simp only [getV, bnd_tuple, bndL_cons, bndL_nil, bnd_int, bnd_string, and_self]
  obtain ⟨k, hk⟩ : ∃ k, 10 - i = k + 1 := ⟨9 - i, by omega⟩
  rw [hk] at hL
  simp (maxSteps := 1000000) (disch := (first | omega | (simp only [nx_alloc, nx_upd, len_cons, len_nil, List.length_set, List.length_map, List.length_append] <;> omega) | fail)) only [go_sem, h6, h11]
  by_cases his2 : i < s.size
  rotate_left
  · refine call1 (get1_no w0 A' A.next s _ i hB (by omega)) ?_
    simp (maxSteps := 1000000) (disch := (first | omega | (simp only [nx_alloc, nx_upd, len_cons, len_nil, List.length_set, List.length_map, List.length_append] <;> omega) | fail)) only [go_sem, Try.results82]
    exact gc_fin' hw hov (by rw [hL, List.drop_of_length_le (by rw [nums_length]; omega)]; rfl) (bndV _)
  refine call1 (get1_yes w0 A' A.next s _ i hB (by omega) (by omega)) ?_
  rw [sbt_drop s i his2, getL_of] at hL
  have hcb := sbt_byte s i
  simp (maxSteps := 1000000) (disch := (first | omega | (simp only [nx_alloc, nx_upd, len_cons, len_nil, List.length_set, List.length_map, List.length_append] <;> omega) | fail)) only [go_sem]
  obtain ⟨c, hc⟩ : ∃ c, c = sbt s i := ⟨_, rfl⟩
  rw [← hc] at hL hcb ⊢
  have hcases : ((i = 9 ∧ c > 1) ∨ (i = 9 ∧ ¬ c > 1 ∧ c = 0) ∨ (i ≠ 9 ∧ i > 0 ∧ c = 0)) ∨ ((i = 9 ∧ ¬ c > 1 ∧ c ≠ 0) ∨ (i ≠ 9 ∧ i > 0 ∧ c ≠ 0) ∨ i = 0) := by omega
  rcases hcases with hbad | hgood
  · have hbad' : (i = 9 ∧ c > 1) ∨ (i > 0 ∧ c = 0) := by omega
    rw [if_pos hbad'] at hL
    rcases hbad with hb | hb | hb
    · simp (maxSteps := 1000000) (disch := (first | omega | (simp only [nx_alloc, nx_upd, len_cons, len_nil, List.length_set, List.length_map, List.length_append] <;> omega) | fail)) only [go_sem, Try.results82]
      exact gc_fin' hw hov (by rw [hL]; rfl) (bndV _)
    · simp (maxSteps := 1000000) (disch := (first | omega | (simp only [nx_alloc, nx_upd, len_cons, len_nil, List.length_set, List.length_map, List.length_append] <;> omega) | fail)) only [go_sem, Try.results82]
      exact gc_fin' hw hov (by rw [hL]; rfl) (bndV _)
    · simp (maxSteps := 1000000) (disch := (first | omega | (simp only [nx_alloc, nx_upd, len_cons, len_nil, List.length_set, List.length_map, List.length_append] <;> omega) | fail)) only [go_sem, Try.results82]
      exact gc_fin' hw hov (by rw [hL]; rfl) (bndV _)
  · have hgood' : ¬ ((i = 9 ∧ c > 1) ∨ (i > 0 ∧ c = 0)) := by omega
    rw [if_neg hgood'] at hL
    have hor := get_or i n c (by omega) hn0 hn hcb (by omega)
    obtain ⟨e1, e2, e3, e4, e5, e6⟩ := hor
    have hcc := hcb.1
    have hcd := hcb.2
    rcases hgood with hb | hb | hb
    · simp (maxSteps := 1000000) (disch := (first | omega | (simp only [nx_alloc, nx_upd, len_cons, len_nil, List.length_set, List.length_map, List.length_append] <;> omega) | fail)) only [go_sem, Try.results82, h5, e1, e2]
      refine aw_draw (by kernel_rfl) ?_
      simp (maxSteps := 1000000) (disch := (first | omega | (simp only [nx_alloc, nx_upd, len_cons, len_nil, List.length_set, List.length_map, List.length_append] <;> omega) | fail)) only [go_sem, h1, hB, Try.results82]
      rw [if_pos (by omega)] at hL
      refine gc_fin' hw hov ?_ (bndV _)
      rw [hL]
      refine congrArg Value.tuple ?_
      rw [← str_nums (s.extract _ _), nums_extract]
      rw [List.take_of_length_le (by simp [nums_length])]
      rfl
    · simp (maxSteps := 1000000) (disch := (first | omega | (simp only [nx_alloc, nx_upd, len_cons, len_nil, List.length_set, List.length_map, List.length_append] <;> omega) | fail)) only [go_sem, Try.results82, h5, e1, e2]
      refine ifB_dec (fun h128 => ?_) (fun h128 => ?_)
      · simp (maxSteps := 1000000) (disch := (first | omega | (simp only [nx_alloc, nx_upd, len_cons, len_nil, List.length_set, List.length_map, List.length_append] <;> omega) | fail)) only [go_sem]
        refine aw_draw (by kernel_rfl) ?_
        simp (maxSteps := 1000000) (disch := (first | omega | (simp only [nx_alloc, nx_upd, len_cons, len_nil, List.length_set, List.length_map, List.length_append] <;> omega) | fail)) only [go_sem, h1, hB, Try.results82]
        rw [if_pos (by omega)] at hL
        refine gc_fin' hw hov ?_ (bndV _)
        rw [hL]
        refine congrArg Value.tuple ?_
        rw [← str_nums (s.extract _ _), nums_extract]
        rw [List.take_of_length_le (by simp [nums_length])]
        rfl
      · simp (maxSteps := 1000000) (disch := (first | omega | (simp only [nx_alloc, nx_upd, len_cons, len_nil, List.length_set, List.length_map, List.length_append] <;> omega) | fail)) only [go_sem, Try.results82, h11]
        rw [if_neg (by omega)] at hL
        refine ⟨10 - (i + 1), by omega, _, i + 1, n + c % 128 * 2 ^ (7 * i), rfl, rfl, by omega, by omega, ?_, ?_, ?_, ?_, e3, e6, ?_⟩
        · simp (maxSteps := 1000000) (disch := (first | omega | (simp only [nx_alloc, nx_upd, len_cons, len_nil, List.length_set, List.length_map, List.length_append] <;> omega) | fail)) only [go_sem, h1]
        · simp (maxSteps := 1000000) (disch := (first | omega | (simp only [nx_alloc, nx_upd, len_cons, len_nil, List.length_set, List.length_map, List.length_append] <;> omega) | fail)) only [go_sem]
        · simp (maxSteps := 1000000) (disch := (first | omega | (simp only [nx_alloc, nx_upd, len_cons, len_nil, List.length_set, List.length_map, List.length_append] <;> omega) | fail)) only [go_sem, h6]
        · simp (maxSteps := 1000000) (disch := (first | omega | (simp only [nx_alloc, nx_upd, len_cons, len_nil, List.length_set, List.length_map, List.length_append] <;> omega) | fail)) only [go_sem]
          rfl
        · rw [hL]; congr 1; omega
    · simp (maxSteps := 1000000) (disch := (first | omega | (simp only [nx_alloc, nx_upd, len_cons, len_nil, List.length_set, List.length_map, List.length_append] <;> omega) | fail)) only [go_sem, Try.results82, h5, e1, e2]
      refine ifB_dec (fun h128 => ?_) (fun h128 => ?_)
      · simp (maxSteps := 1000000) (disch := (first | omega | (simp only [nx_alloc, nx_upd, len_cons, len_nil, List.length_set, List.length_map, List.length_append] <;> omega) | fail)) only [go_sem]
        refine aw_draw (by kernel_rfl) ?_
        simp (maxSteps := 1000000) (disch := (first | omega | (simp only [nx_alloc, nx_upd, len_cons, len_nil, List.length_set, List.length_map, List.length_append] <;> omega) | fail)) only [go_sem, h1, hB, Try.results82]
        rw [if_pos (by omega)] at hL
        refine gc_fin' hw hov ?_ (bndV _)
        rw [hL]
        refine congrArg Value.tuple ?_
        rw [← str_nums (s.extract _ _), nums_extract]
        rw [List.take_of_length_le (by simp [nums_length])]
        rfl
      · simp (maxSteps := 1000000) (disch := (first | omega | (simp only [nx_alloc, nx_upd, len_cons, len_nil, List.length_set, List.length_map, List.length_append] <;> omega) | fail)) only [go_sem, Try.results82, h11]
        rw [if_neg (by omega)] at hL
        refine ⟨10 - (i + 1), by omega, _, i + 1, n + c % 128 * 2 ^ (7 * i), rfl, rfl, by omega, by omega, ?_, ?_, ?_, ?_, e3, e6, ?_⟩
        · simp (maxSteps := 1000000) (disch := (first | omega | (simp only [nx_alloc, nx_upd, len_cons, len_nil, List.length_set, List.length_map, List.length_append] <;> omega) | fail)) only [go_sem, h1]
        · simp (maxSteps := 1000000) (disch := (first | omega | (simp only [nx_alloc, nx_upd, len_cons, len_nil, List.length_set, List.length_map, List.length_append] <;> omega) | fail)) only [go_sem]
        · simp (maxSteps := 1000000) (disch := (first | omega | (simp only [nx_alloc, nx_upd, len_cons, len_nil, List.length_set, List.length_map, List.length_append] <;> omega) | fail)) only [go_sem, h6]
        · simp (maxSteps := 1000000) (disch := (first | omega | (simp only [nx_alloc, nx_upd, len_cons, len_nil, List.length_set, List.length_map, List.length_append] <;> omega) | fail)) only [go_sem]
          rfl
        · rw [hL]; congr 1; omega
theorem Try.enters91 : Enters Try.prog 91 := enters_of Try.func91 rfl (by kernel_rfl)
theorem Try.enters101 : Enters Try.prog 101 := enters_of Try.func101 rfl (by kernel_rfl)
theorem Try.enters73 : Enters Try.prog 73 := enters_of Try.func73 rfl (by kernel_rfl)

set_option maxHeartbeats 400000 in
theorem sevens_ok (w0 : World) (A : St) (n : Int) :
    ACalls Try.prog w0 91 #[.int .u64 n] A (fin (.func (.func 101) #[] #[.pointer (some ⟨A.next, 0, none⟩)]) (A.alloc (.cells [.int .u64 n] 68 (some 0)))) := by
  refine call_E Try.enters91 Try.func91 rfl (Nat.le_of_ble_eq_true rfl) fun hw hbd => ?_
  simp (maxSteps := 1000000) (disch := (first | omega | (simp only [nx_alloc, nx_upd, len_cons, len_nil, List.length_set, List.length_map, List.length_append] <;> omega) | fail)) only [go_sem, Try.ntmps91, Try.results91]
  exact gc_here ⟨rfl, rfl⟩

theorem and127 (m : Nat) (h : m < 18446744073709551616) : ibits .and .u64 (m : Int) 127 = ((m % 128 : Nat) : Int) := by
  have := and_mask .u64 rfl (m : Int) 7 ⟨by omega, by simp only [IntKind.bits]; omega⟩ (by decide)
  simpa using this
theorem shr7 (m : Nat) : ishr .u64 (m : Int) 7 = ((m / 128 : Nat) : Int) := by
  have := ishr_eq .u64 (m : Int) 7 (by decide)
  simpa using this

set_option maxHeartbeats 400000 in
/-- The loop over a number's sevens, for any 'yield' that goes on. -/
theorem sevens1_ok (w0 : World) (J : Nat → St → Prop) (F : St → Prop) (l c : Nat)
    (hJ : ∀ m A, J m A → A.get c = some (.cells [.int .u64 m] 68 (some 0)) ∧ m < 18446744073709551616)
    (hY : ∀ m A, J m A → AYield Try.prog w0 l #[.int .u8 ((m % 128 : Nat) : Int), .bool (decide (127 < (m : Int)))] A fun e A' => e = .returned (.bool true) ∧ A'.get c = some (.cells [.int .u64 m] 68 (some 0)) ∧
      (127 < m → J (m / 128) (A'.upd c (some (.cells [.int .u64 ((m / 128 : Nat) : Int)] 68 (some 0))))) ∧ (¬ 127 < m → F A'))
    (A : St) (m : Nat) (h : J m A) : ACalls Try.prog w0 101 #[.func (.yield l) #[] #[], .pointer (some ⟨c, 0, none⟩)] A fun e A' => e = .returned (.tuple #[]) ∧ F A' := by
  refine call_E Try.enters101 Try.func101 rfl (Nat.le_of_ble_eq_true rfl) fun hw hbd => ?_
  simp (maxSteps := 1000000) (disch := (first | omega | (simp only [nx_alloc, nx_upd, len_cons, len_nil, List.length_set, List.length_map, List.length_append] <;> omega) | fail)) only [go_sem, Try.ntmps101, Try.results101]
  refine aw_loop (fun k a A' => ∃ (ρ : Nat → Value) (m : Nat), a = E 16 ρ [] ∧ k = m ∧ J m A' ∧ ρ 0 = .func (.yield l) #[] #[] ∧ ρ 1 = .pointer (some ⟨c, 0, none⟩)) m ⟨_, m, rfl, rfl, h, rfl, rfl⟩ ?_
  rintro k a A' ⟨ρ, m, rfl, rfl, hj, h0, h1⟩
  obtain ⟨hc, hm⟩ := hJ k A' hj
  refine aw_of ?_
  simp (maxSteps := 1000000) (disch := (first | omega | (simp only [nx_alloc, nx_upd, len_cons, len_nil, List.length_set, List.length_map, List.length_append] <;> omega) | fail)) only [go_sem, h0, h1, hc, and127 k hm]
  refine (hY k A' hj).mono ?_
  rintro e A2 ⟨rfl, hc2, hgo, hend⟩
  simp (maxSteps := 1000000) (disch := (first | omega | (simp only [nx_alloc, nx_upd, len_cons, len_nil, List.length_set, List.length_map, List.length_append] <;> omega) | fail)) only [go_sem, h1, hc2]
  refine ifB_dec (fun h127 => ?_) (fun h127 => ?_)
  · simp (maxSteps := 1000000) (disch := (first | omega | (simp only [nx_alloc, nx_upd, len_cons, len_nil, List.length_set, List.length_map, List.length_append] <;> omega) | fail)) only [go_sem, h1, hc2, shr7]
    refine ⟨k / 128, by omega, _, k / 128, rfl, rfl, hgo (by omega), ?_, ?_⟩
    · simp (maxSteps := 1000000) (disch := (first | omega | (simp only [nx_alloc, nx_upd, len_cons, len_nil, List.length_set, List.length_map, List.length_append] <;> omega) | fail)) only [go_sem, h0]
    · simp (maxSteps := 1000000) (disch := (first | omega | (simp only [nx_alloc, nx_upd, len_cons, len_nil, List.length_set, List.length_map, List.length_append] <;> omega) | fail)) only [go_sem, h1]
  · simp (maxSteps := 1000000) (disch := (first | omega | (simp only [nx_alloc, nx_upd, len_cons, len_nil, List.length_set, List.length_map, List.length_append] <;> omega) | fail)) only [go_sem, Try.results101]
    exact gc_here ⟨rfl, hend (by omega)⟩

/-- A number as bytes. -/
def enc (n : Nat) : List Int := if n < 128 then [(n : Int)] else ((n % 128 + 128 : Nat) : Int) :: enc (n / 128)
termination_by n
theorem enc_lt {n : Nat} (h : n < 128) : enc n = [(n : Int)] := by rw [enc, if_pos h]
theorem enc_ge {n : Nat} (h : ¬ n < 128) : enc n = ((n % 128 + 128 : Nat) : Int) :: enc (n / 128) := by rw [enc, if_neg h]
theorem enc_len : ∀ (k n : Nat), n < 128 ^ (k + 1) → (enc n).length ≤ k + 1
  | 0, n, h => by rw [enc_lt (by simpa using h)]; simp
  | k + 1, n, h => by
    by_cases hn : n < 128
    · rw [enc_lt hn]; simp
    · rw [enc_ge hn]
      have : n / 128 < 128 ^ (k + 1) := by
        rw [Nat.pow_succ] at h
        omega
      have := enc_len k (n / 128) this
      simp; omega
theorem or128 (m : Nat) (h : m < 128) : ibits .or .u8 (m : Int) 128 = ((m + 128 : Nat) : Int) := by
  have := or_add .u8 rfl (m : Int) 1 7 (by omega) (by simp; omega) (by omega) (by simp [IntKind.bits]; omega)
  have e : (1 : Int) * 2 ^ 7 = 128 := rfl
  rw [e] at this
  rw [this]; rfl

/-- What is laid while a number is put: its row so far. -/
def rowAt (A : St) (b1 lo : Nat) (acc : List Int) : Prop :=
  (acc = [] ∧ A.get b1 = some (.cells [.slice none 0 0] 66 (some 0))) ∨
  ∃ k, lo ≤ k ∧ k < A.next ∧ A.get b1 = some (.cells [.slice (some ⟨k, 0, some 1⟩) acc.length acc.length] 66 (some 0)) ∧ A.get k = some (.cells (acc.map (.int .u8 ·)) 5 (some 0))

set_option maxHeartbeats 1000000 in
theorem put_ok (w0 : World) (A : St) (n : Nat) (hn : n < 18446744073709551616) : ACalls Try.prog w0 73 #[.int .u64 n] A (fin (.string (strOfNums (enc n))) A) := by
  refine call_E Try.enters73 Try.func73 rfl (Nat.le_of_ble_eq_true rfl) fun hw hbd => ?_
  simp (maxSteps := 1000000) (disch := (first | omega | (simp only [nx_alloc, nx_upd, len_cons, len_nil, List.length_set, List.length_map, List.length_append] <;> omega) | fail)) only [go_sem, Try.ntmps73, Try.results73]
  refine call1 (sevens_ok w0 _ _) ?_
  simp (maxSteps := 1000000) (disch := (first | omega | (simp only [nx_alloc, nx_upd, len_cons, len_nil, List.length_set, List.length_map, List.length_append] <;> omega) | fail)) only [go_sem]
  refine aw_rangeFunc_E (by simp (maxSteps := 1000000) (disch := (first | omega | (simp only [nx_alloc, nx_upd, len_cons, len_nil, List.length_set, List.length_map, List.length_append] <;> omega) | fail)) only [go_sem]; rfl) rfl ?_
  simp (maxSteps := 1000000) (disch := (first | omega | (simp only [nx_alloc, nx_upd, len_cons, len_nil, List.length_set, List.length_map, List.length_append] <;> omega) | fail)) only [go_sem]
  refine gen_loop fun ρ0 asg body hρ hasg hbody => ?_
  have h3 : ρ0 3 = .pointer (some ⟨A.next, 0, none⟩) := by rw [hρ]; simp (maxSteps := 1000000) (disch := (first | omega | (simp only [nx_alloc, nx_upd, len_cons, len_nil, List.length_set, List.length_map, List.length_append] <;> omega) | fail)) only [go_sem]
  obtain ⟨A0, hA0⟩ : ∃ A0, A0 = (((A.alloc (.cells [.slice none 0 0] 66 (some 0))).alloc (.cells [.int .u64 (n : Int)] 68 (some 0))).alloc (.dfr false)).alloc (.loop .ready none (tm 19 ρ0) #[8, 9] asg body) := ⟨_, rfl⟩
  rw [← hA0]
  have hlen : (enc n).length ≤ 10 := enc_len 9 n (by omega)
  refine (sevens1_ok w0 (fun m A' => Over A A' ∧ A.next + 4 ≤ A'.next ∧ m < 18446744073709551616 ∧ A'.get (A.next + 1) = some (.cells [.int .u64 m] 68 (some 0)) ∧ A'.get (A.next + 2) = some (.dfr false) ∧ A'.get (A.next + 3) = some (.loop .ready none (tm 19 ρ0) #[8, 9] asg body) ∧
      ∃ acc, enc n = acc ++ enc m ∧ rowAt A' A.next (A.next + 4) acc)
    (fun A' => Over A A' ∧ A.next + 4 ≤ A'.next ∧ A'.get (A.next + 2) = some (.dfr false) ∧ A'.get (A.next + 3) = some (.loop .ready none (tm 19 ρ0) #[8, 9] asg body) ∧ enc n ≠ [] ∧ rowAt A' A.next (A.next + 4) (enc n)) (A.next + 3) (A.next + 1) ?_ ?_ A0 n ?_).mono ?_
  · rintro m A' ⟨_, _, hm, hc, _⟩
    exact ⟨hc, hm⟩
  · rintro m A' ⟨hov, hnx, hm, hc, hd, hl, acc, hacc, hrow⟩
    refine ayield_E (upd (upd ρ0 8 (.int .u8 ((m % 128 : Nat) : Int))) 9 (.bool (decide (127 < (m : Int))))) hl rfl (setArgs_2 ..) ?_
    conv => arg 5; rw [hasg]
    simp (maxSteps := 1000000) (disch := (first | omega | (simp only [nx_alloc, nx_upd, len_cons, len_nil, List.length_set, List.length_map, List.length_append] <;> omega) | fail)) only [go_sem]
    refine asgQ_of hl ?_
    obtain ⟨A2, hA2⟩ : ∃ A2, A2 = A'.upd (A.next + 3) (some (.loop .busy none (tm 19 ρ0) #[8, 9] asg body)) := ⟨_, rfl⟩
    rw [← hA2]
    refine aw_of ?_
    conv => arg 5; rw [hbody]
    have hn2 : A2.next = A'.next := by rw [hA2]; rfl
    have hg2 : ∀ b, b ≠ A.next + 3 → A2.get b = A'.get b := fun b hb => by rw [hA2, St.get_upd, if_neg hb]
    have hl2 : A2.get (A.next + 3) = some (.loop .busy none (tm 19 ρ0) #[8, 9] asg body) := by rw [hA2]; exact get_upd_same ..
    have hov2 : Over A A2 := by rw [hA2]; exact hov.upd (by omega) _
    have hc2 : A2.get (A.next + 1) = some (.cells [.int .u64 (m : Int)] 68 (some 0)) := by rw [hg2 _ (by omega)]; exact hc
    have hd2 : A2.get (A.next + 2) = some (.dfr false) := by rw [hg2 _ (by omega)]; exact hd
    have hal : acc.length ≤ 10 := by have := congrArg List.length hacc; rw [List.length_append] at this; omega
    simp (maxSteps := 1000000) (disch := (first | omega | (simp only [nx_alloc, nx_upd, len_cons, len_nil, List.length_set, List.length_map, List.length_append] <;> omega) | fail)) only [go_sem, h3]
    rcases hrow with ⟨hacc0, hb1⟩ | ⟨k, hk0, hkn, hb1, hkc⟩
    · have hb2 : A2.get A.next = some (.cells [.slice none 0 0] 66 (some 0)) := by rw [hg2 _ (by omega)]; exact hb1
      refine ifB_dec (fun h127 => ?_) (fun h127 => ?_)
      · simp (maxSteps := 1000000) (disch := (first | omega | (simp only [nx_alloc, nx_upd, len_cons, len_nil, List.length_set, List.length_map, List.length_append] <;> omega) | fail)) only [go_sem, h3, or128 (m % 128) (by omega)]
        simp (maxSteps := 1000000) (disch := (first | omega | (simp only [nx_alloc, nx_upd, len_cons, len_nil, List.length_set, List.length_map, List.length_append] <;> omega) | fail)) only [go_sem, h3, hb2]
        rw [append_nil Try.el66 Try.underlying66 (by intro k; exact TypeDesc.noConfusion) Try.sz5 Try.byt5 Try.zero5 rfl (by decide) (srcCells_slice (by decide) (get_alloc_same ..) (Nat.le_refl _)) (by decide) (by decide) (by decide)]
        simp (maxSteps := 1000000) (disch := (first | omega | (simp only [nx_alloc, nx_upd, len_cons, len_nil, List.length_set, List.length_map, List.length_append] <;> omega) | fail)) only [go_sem, h3, hb2]
        refine roundQ_normal (pe := none) (by simp (disch := (first | omega | (simp only [nx_alloc, nx_upd, len_cons, len_nil, List.length_set, List.length_map, List.length_append] <;> omega) | fail)) only [St.get_upd, St.get_alloc, St.next_alloc, St.next_upd, ↓reduceIte, natF_lt, natF_gt, natF_ne, Nat.add_assoc, Nat.reduceAdd, Nat.reduceEqDiff, Nat.add_left_cancel_iff]; exact hl2) ⟨rfl, ?_, fun h127 => ?_, fun h127 => ?_⟩
        · simp (disch := (first | omega | (simp only [nx_alloc, nx_upd, len_cons, len_nil, List.length_set, List.length_map, List.length_append] <;> omega) | fail)) only [St.get_upd, St.get_alloc, St.next_alloc, St.next_upd, ↓reduceIte, natF_lt, natF_gt, natF_ne, Nat.add_assoc, Nat.reduceAdd, Nat.reduceEqDiff, Nat.add_left_cancel_iff, hc2]
        · refine ⟨((((hov2.alloc _).alloc _).upd (Nat.le_refl _) _).upd (by omega) _).upd (by omega) _, by simp (disch := (first | omega | (simp only [nx_alloc, nx_upd, len_cons, len_nil, List.length_set, List.length_map, List.length_append] <;> omega) | fail)) only [St.get_upd, St.get_alloc, St.next_alloc, St.next_upd, ↓reduceIte, natF_lt, natF_gt, natF_ne, Nat.add_assoc, Nat.reduceAdd, Nat.reduceEqDiff, Nat.add_left_cancel_iff]; omega, by omega, ?_, ?_, acc ++ [((m % 128 + 128 : Nat) : Int)], ?_, ?_⟩
          · simp (disch := (first | omega | (simp only [nx_alloc, nx_upd, len_cons, len_nil, List.length_set, List.length_map, List.length_append] <;> omega) | fail)) only [St.get_upd, St.get_alloc, St.next_alloc, St.next_upd, ↓reduceIte, natF_lt, natF_gt, natF_ne, Nat.add_assoc, Nat.reduceAdd, Nat.reduceEqDiff, Nat.add_left_cancel_iff, hd2]
          · simp (disch := (first | omega | (simp only [nx_alloc, nx_upd, len_cons, len_nil, List.length_set, List.length_map, List.length_append] <;> omega) | fail)) only [St.get_upd, St.get_alloc, St.next_alloc, St.next_upd, ↓reduceIte, natF_lt, natF_gt, natF_ne, Nat.add_assoc, Nat.reduceAdd, Nat.reduceEqDiff, Nat.add_left_cancel_iff]
          · rw [hacc, enc_ge (by omega)]; simp
          · skip
            refine .inr ⟨A2.next + 1, by omega, by simp (disch := (first | omega | (simp only [nx_alloc, nx_upd, len_cons, len_nil, List.length_set, List.length_map, List.length_append] <;> omega) | fail)) only [St.get_upd, St.get_alloc, St.next_alloc, St.next_upd, ↓reduceIte, natF_lt, natF_gt, natF_ne, Nat.add_assoc, Nat.reduceAdd, Nat.reduceEqDiff, Nat.add_left_cancel_iff]; omega, ?_, ?_⟩
            · simp (disch := (first | omega | (simp only [nx_alloc, nx_upd, len_cons, len_nil, List.length_set, List.length_map, List.length_append] <;> omega) | fail)) only [St.get_upd, St.get_alloc, St.next_alloc, St.next_upd, ↓reduceIte, natF_lt, natF_gt, natF_ne, Nat.add_assoc, Nat.reduceAdd, Nat.reduceEqDiff, Nat.add_left_cancel_iff]
              rw [List.length_append]; rw [hacc0]; rfl
            · simp (disch := (first | omega | (simp only [nx_alloc, nx_upd, len_cons, len_nil, List.length_set, List.length_map, List.length_append] <;> omega) | fail)) only [St.get_upd, St.get_alloc, St.next_alloc, St.next_upd, ↓reduceIte, natF_lt, natF_gt, natF_ne, Nat.add_assoc, Nat.reduceAdd, Nat.reduceEqDiff, Nat.add_left_cancel_iff]
              rw [hacc0]; rfl
        · omega
      · simp (maxSteps := 1000000) (disch := (first | omega | (simp only [nx_alloc, nx_upd, len_cons, len_nil, List.length_set, List.length_map, List.length_append] <;> omega) | fail)) only [go_sem, h3]
        have hencn : enc n = acc ++ [((m % 128 : Nat) : Int)] := by rw [hacc, enc_lt (by omega), Nat.mod_eq_of_lt (by omega)]
        simp (maxSteps := 1000000) (disch := (first | omega | (simp only [nx_alloc, nx_upd, len_cons, len_nil, List.length_set, List.length_map, List.length_append] <;> omega) | fail)) only [go_sem, h3, hb2]
        rw [append_nil Try.el66 Try.underlying66 (by intro k; exact TypeDesc.noConfusion) Try.sz5 Try.byt5 Try.zero5 rfl (by decide) (srcCells_slice (by decide) (get_alloc_same ..) (Nat.le_refl _)) (by decide) (by decide) (by decide)]
        simp (maxSteps := 1000000) (disch := (first | omega | (simp only [nx_alloc, nx_upd, len_cons, len_nil, List.length_set, List.length_map, List.length_append] <;> omega) | fail)) only [go_sem, h3, hb2]
        refine roundQ_normal (pe := none) (by simp (disch := (first | omega | (simp only [nx_alloc, nx_upd, len_cons, len_nil, List.length_set, List.length_map, List.length_append] <;> omega) | fail)) only [St.get_upd, St.get_alloc, St.next_alloc, St.next_upd, ↓reduceIte, natF_lt, natF_gt, natF_ne, Nat.add_assoc, Nat.reduceAdd, Nat.reduceEqDiff, Nat.add_left_cancel_iff]; exact hl2) ⟨rfl, ?_, fun h127 => ?_, fun h127 => ?_⟩
        · simp (disch := (first | omega | (simp only [nx_alloc, nx_upd, len_cons, len_nil, List.length_set, List.length_map, List.length_append] <;> omega) | fail)) only [St.get_upd, St.get_alloc, St.next_alloc, St.next_upd, ↓reduceIte, natF_lt, natF_gt, natF_ne, Nat.add_assoc, Nat.reduceAdd, Nat.reduceEqDiff, Nat.add_left_cancel_iff, hc2]
        · omega
        · refine ⟨((((hov2.alloc _).alloc _).upd (Nat.le_refl _) _).upd (by omega) _), by simp (disch := (first | omega | (simp only [nx_alloc, nx_upd, len_cons, len_nil, List.length_set, List.length_map, List.length_append] <;> omega) | fail)) only [St.get_upd, St.get_alloc, St.next_alloc, St.next_upd, ↓reduceIte, natF_lt, natF_gt, natF_ne, Nat.add_assoc, Nat.reduceAdd, Nat.reduceEqDiff, Nat.add_left_cancel_iff]; omega, ?_, ?_, ?_, ?_⟩
          · simp (disch := (first | omega | (simp only [nx_alloc, nx_upd, len_cons, len_nil, List.length_set, List.length_map, List.length_append] <;> omega) | fail)) only [St.get_upd, St.get_alloc, St.next_alloc, St.next_upd, ↓reduceIte, natF_lt, natF_gt, natF_ne, Nat.add_assoc, Nat.reduceAdd, Nat.reduceEqDiff, Nat.add_left_cancel_iff, hd2]
          · simp (disch := (first | omega | (simp only [nx_alloc, nx_upd, len_cons, len_nil, List.length_set, List.length_map, List.length_append] <;> omega) | fail)) only [St.get_upd, St.get_alloc, St.next_alloc, St.next_upd, ↓reduceIte, natF_lt, natF_gt, natF_ne, Nat.add_assoc, Nat.reduceAdd, Nat.reduceEqDiff, Nat.add_left_cancel_iff]
          · rw [hencn]; simp
          · rw [hencn]
            refine .inr ⟨A2.next + 1, by omega, by simp (disch := (first | omega | (simp only [nx_alloc, nx_upd, len_cons, len_nil, List.length_set, List.length_map, List.length_append] <;> omega) | fail)) only [St.get_upd, St.get_alloc, St.next_alloc, St.next_upd, ↓reduceIte, natF_lt, natF_gt, natF_ne, Nat.add_assoc, Nat.reduceAdd, Nat.reduceEqDiff, Nat.add_left_cancel_iff]; omega, ?_, ?_⟩
            · simp (disch := (first | omega | (simp only [nx_alloc, nx_upd, len_cons, len_nil, List.length_set, List.length_map, List.length_append] <;> omega) | fail)) only [St.get_upd, St.get_alloc, St.next_alloc, St.next_upd, ↓reduceIte, natF_lt, natF_gt, natF_ne, Nat.add_assoc, Nat.reduceAdd, Nat.reduceEqDiff, Nat.add_left_cancel_iff]
              rw [List.length_append]; rw [hacc0]; rfl
            · simp (disch := (first | omega | (simp only [nx_alloc, nx_upd, len_cons, len_nil, List.length_set, List.length_map, List.length_append] <;> omega) | fail)) only [St.get_upd, St.get_alloc, St.next_alloc, St.next_upd, ↓reduceIte, natF_lt, natF_gt, natF_ne, Nat.add_assoc, Nat.reduceAdd, Nat.reduceEqDiff, Nat.add_left_cancel_iff]
              rw [hacc0]; rfl
    · have hb2 : A2.get A.next = some (.cells [.slice (some ⟨k, 0, some 1⟩) acc.length acc.length] 66 (some 0)) := by rw [hg2 _ (by omega)]; exact hb1
      have hkc2 : A2.get k = some (.cells (acc.map (.int .u8 ·)) 5 (some 0)) := by rw [hg2 _ (by omega)]; exact hkc
      refine ifB_dec (fun h127 => ?_) (fun h127 => ?_)
      · simp (maxSteps := 1000000) (disch := (first | omega | (simp only [nx_alloc, nx_upd, len_cons, len_nil, List.length_set, List.length_map, List.length_append] <;> omega) | fail)) only [go_sem, h3, or128 (m % 128) (by omega)]
        simp (maxSteps := 1000000) (disch := (first | omega | (simp only [nx_alloc, nx_upd, len_cons, len_nil, List.length_set, List.length_map, List.length_append] <;> omega) | fail)) only [go_sem, h3, hb2]
        have hk3 : (A2.alloc (.cells [.int .u8 ((m % 128 + 128 : Nat) : Int)] 5 (some 0))).get k = some (.cells (acc.map (.int .u8 ·)) 5 (some 0)) := by
          simp (disch := (first | omega | (simp only [nx_alloc, nx_upd, len_cons, len_nil, List.length_set, List.length_map, List.length_append] <;> omega) | fail)) only [St.get_upd, St.get_alloc, St.next_alloc, St.next_upd, ↓reduceIte, natF_lt, natF_gt, natF_ne, Nat.add_assoc, Nat.reduceAdd, Nat.reduceEqDiff, Nat.add_left_cancel_iff]
          exact hkc2
        rw [append_own Try.el66 Try.underlying66 (by intro k; exact TypeDesc.noConfusion) Try.sz5 Try.byt5 Try.zero5 rfl (srcCells_slice (by decide) (get_alloc_same ..) (Nat.le_refl _)) (by decide) (by omega) (by omega) hk3 (by simp) rfl]
        simp (maxSteps := 1000000) (disch := (first | omega | (simp only [nx_alloc, nx_upd, len_cons, len_nil, List.length_set, List.length_map, List.length_append] <;> omega) | fail)) only [go_sem, h3, hb2]
        refine roundQ_normal (pe := none) (by simp (disch := (first | omega | (simp only [nx_alloc, nx_upd, len_cons, len_nil, List.length_set, List.length_map, List.length_append] <;> omega) | fail)) only [St.get_upd, St.get_alloc, St.next_alloc, St.next_upd, ↓reduceIte, natF_lt, natF_gt, natF_ne, Nat.add_assoc, Nat.reduceAdd, Nat.reduceEqDiff, Nat.add_left_cancel_iff]; exact hl2) ⟨rfl, ?_, fun h127 => ?_, fun h127 => ?_⟩
        · simp (disch := (first | omega | (simp only [nx_alloc, nx_upd, len_cons, len_nil, List.length_set, List.length_map, List.length_append] <;> omega) | fail)) only [St.get_upd, St.get_alloc, St.next_alloc, St.next_upd, ↓reduceIte, natF_lt, natF_gt, natF_ne, Nat.add_assoc, Nat.reduceAdd, Nat.reduceEqDiff, Nat.add_left_cancel_iff, hc2]
        · refine ⟨(((((hov2.alloc _).upd (b := k) (by omega) none).alloc _).upd (Nat.le_refl _) _).upd (by omega) _).upd (by omega) _, by simp (disch := (first | omega | (simp only [nx_alloc, nx_upd, len_cons, len_nil, List.length_set, List.length_map, List.length_append] <;> omega) | fail)) only [St.get_upd, St.get_alloc, St.next_alloc, St.next_upd, ↓reduceIte, natF_lt, natF_gt, natF_ne, Nat.add_assoc, Nat.reduceAdd, Nat.reduceEqDiff, Nat.add_left_cancel_iff]; omega, by omega, ?_, ?_, acc ++ [((m % 128 + 128 : Nat) : Int)], ?_, ?_⟩
          · simp (disch := (first | omega | (simp only [nx_alloc, nx_upd, len_cons, len_nil, List.length_set, List.length_map, List.length_append] <;> omega) | fail)) only [St.get_upd, St.get_alloc, St.next_alloc, St.next_upd, ↓reduceIte, natF_lt, natF_gt, natF_ne, Nat.add_assoc, Nat.reduceAdd, Nat.reduceEqDiff, Nat.add_left_cancel_iff, hd2]
          · simp (disch := (first | omega | (simp only [nx_alloc, nx_upd, len_cons, len_nil, List.length_set, List.length_map, List.length_append] <;> omega) | fail)) only [St.get_upd, St.get_alloc, St.next_alloc, St.next_upd, ↓reduceIte, natF_lt, natF_gt, natF_ne, Nat.add_assoc, Nat.reduceAdd, Nat.reduceEqDiff, Nat.add_left_cancel_iff]
          · rw [hacc, enc_ge (by omega)]; simp
          · skip
            refine .inr ⟨A2.next + 1, by omega, by simp (disch := (first | omega | (simp only [nx_alloc, nx_upd, len_cons, len_nil, List.length_set, List.length_map, List.length_append] <;> omega) | fail)) only [St.get_upd, St.get_alloc, St.next_alloc, St.next_upd, ↓reduceIte, natF_lt, natF_gt, natF_ne, Nat.add_assoc, Nat.reduceAdd, Nat.reduceEqDiff, Nat.add_left_cancel_iff]; omega, ?_, ?_⟩
            · simp (disch := (first | omega | (simp only [nx_alloc, nx_upd, len_cons, len_nil, List.length_set, List.length_map, List.length_append] <;> omega) | fail)) only [St.get_upd, St.get_alloc, St.next_alloc, St.next_upd, ↓reduceIte, natF_lt, natF_gt, natF_ne, Nat.add_assoc, Nat.reduceAdd, Nat.reduceEqDiff, Nat.add_left_cancel_iff]
              rw [List.length_append]; rfl
            · simp (disch := (first | omega | (simp only [nx_alloc, nx_upd, len_cons, len_nil, List.length_set, List.length_map, List.length_append] <;> omega) | fail)) only [St.get_upd, St.get_alloc, St.next_alloc, St.next_upd, ↓reduceIte, natF_lt, natF_gt, natF_ne, Nat.add_assoc, Nat.reduceAdd, Nat.reduceEqDiff, Nat.add_left_cancel_iff]
              rw [List.take_of_length_le (by simp)]; simp
        · omega
      · simp (maxSteps := 1000000) (disch := (first | omega | (simp only [nx_alloc, nx_upd, len_cons, len_nil, List.length_set, List.length_map, List.length_append] <;> omega) | fail)) only [go_sem, h3]
        have hencn : enc n = acc ++ [((m % 128 : Nat) : Int)] := by rw [hacc, enc_lt (by omega), Nat.mod_eq_of_lt (by omega)]
        simp (maxSteps := 1000000) (disch := (first | omega | (simp only [nx_alloc, nx_upd, len_cons, len_nil, List.length_set, List.length_map, List.length_append] <;> omega) | fail)) only [go_sem, h3, hb2]
        have hk3 : (A2.alloc (.cells [.int .u8 ((m % 128 : Nat) : Int)] 5 (some 0))).get k = some (.cells (acc.map (.int .u8 ·)) 5 (some 0)) := by
          simp (disch := (first | omega | (simp only [nx_alloc, nx_upd, len_cons, len_nil, List.length_set, List.length_map, List.length_append] <;> omega) | fail)) only [St.get_upd, St.get_alloc, St.next_alloc, St.next_upd, ↓reduceIte, natF_lt, natF_gt, natF_ne, Nat.add_assoc, Nat.reduceAdd, Nat.reduceEqDiff, Nat.add_left_cancel_iff]
          exact hkc2
        rw [append_own Try.el66 Try.underlying66 (by intro k; exact TypeDesc.noConfusion) Try.sz5 Try.byt5 Try.zero5 rfl (srcCells_slice (by decide) (get_alloc_same ..) (Nat.le_refl _)) (by decide) (by omega) (by omega) hk3 (by simp) rfl]
        simp (maxSteps := 1000000) (disch := (first | omega | (simp only [nx_alloc, nx_upd, len_cons, len_nil, List.length_set, List.length_map, List.length_append] <;> omega) | fail)) only [go_sem, h3, hb2]
        refine roundQ_normal (pe := none) (by simp (disch := (first | omega | (simp only [nx_alloc, nx_upd, len_cons, len_nil, List.length_set, List.length_map, List.length_append] <;> omega) | fail)) only [St.get_upd, St.get_alloc, St.next_alloc, St.next_upd, ↓reduceIte, natF_lt, natF_gt, natF_ne, Nat.add_assoc, Nat.reduceAdd, Nat.reduceEqDiff, Nat.add_left_cancel_iff]; exact hl2) ⟨rfl, ?_, fun h127 => ?_, fun h127 => ?_⟩
        · simp (disch := (first | omega | (simp only [nx_alloc, nx_upd, len_cons, len_nil, List.length_set, List.length_map, List.length_append] <;> omega) | fail)) only [St.get_upd, St.get_alloc, St.next_alloc, St.next_upd, ↓reduceIte, natF_lt, natF_gt, natF_ne, Nat.add_assoc, Nat.reduceAdd, Nat.reduceEqDiff, Nat.add_left_cancel_iff, hc2]
        · omega
        · refine ⟨(((((hov2.alloc _).upd (b := k) (by omega) none).alloc _).upd (Nat.le_refl _) _).upd (by omega) _), by simp (disch := (first | omega | (simp only [nx_alloc, nx_upd, len_cons, len_nil, List.length_set, List.length_map, List.length_append] <;> omega) | fail)) only [St.get_upd, St.get_alloc, St.next_alloc, St.next_upd, ↓reduceIte, natF_lt, natF_gt, natF_ne, Nat.add_assoc, Nat.reduceAdd, Nat.reduceEqDiff, Nat.add_left_cancel_iff]; omega, ?_, ?_, ?_, ?_⟩
          · simp (disch := (first | omega | (simp only [nx_alloc, nx_upd, len_cons, len_nil, List.length_set, List.length_map, List.length_append] <;> omega) | fail)) only [St.get_upd, St.get_alloc, St.next_alloc, St.next_upd, ↓reduceIte, natF_lt, natF_gt, natF_ne, Nat.add_assoc, Nat.reduceAdd, Nat.reduceEqDiff, Nat.add_left_cancel_iff, hd2]
          · simp (disch := (first | omega | (simp only [nx_alloc, nx_upd, len_cons, len_nil, List.length_set, List.length_map, List.length_append] <;> omega) | fail)) only [St.get_upd, St.get_alloc, St.next_alloc, St.next_upd, ↓reduceIte, natF_lt, natF_gt, natF_ne, Nat.add_assoc, Nat.reduceAdd, Nat.reduceEqDiff, Nat.add_left_cancel_iff]
          · rw [hencn]; simp
          · rw [hencn]
            refine .inr ⟨A2.next + 1, by omega, by simp (disch := (first | omega | (simp only [nx_alloc, nx_upd, len_cons, len_nil, List.length_set, List.length_map, List.length_append] <;> omega) | fail)) only [St.get_upd, St.get_alloc, St.next_alloc, St.next_upd, ↓reduceIte, natF_lt, natF_gt, natF_ne, Nat.add_assoc, Nat.reduceAdd, Nat.reduceEqDiff, Nat.add_left_cancel_iff]; omega, ?_, ?_⟩
            · simp (disch := (first | omega | (simp only [nx_alloc, nx_upd, len_cons, len_nil, List.length_set, List.length_map, List.length_append] <;> omega) | fail)) only [St.get_upd, St.get_alloc, St.next_alloc, St.next_upd, ↓reduceIte, natF_lt, natF_gt, natF_ne, Nat.add_assoc, Nat.reduceAdd, Nat.reduceEqDiff, Nat.add_left_cancel_iff]
              rw [List.length_append]; rfl
            · simp (disch := (first | omega | (simp only [nx_alloc, nx_upd, len_cons, len_nil, List.length_set, List.length_map, List.length_append] <;> omega) | fail)) only [St.get_upd, St.get_alloc, St.next_alloc, St.next_upd, ↓reduceIte, natF_lt, natF_gt, natF_ne, Nat.add_assoc, Nat.reduceAdd, Nat.reduceEqDiff, Nat.add_left_cancel_iff]
              rw [List.take_of_length_le (by simp)]; simp
  · rw [hA0]
    refine ⟨((((Over.refl A).alloc _).alloc _).alloc _).alloc _, by simp (disch := (first | omega | (simp only [nx_alloc, nx_upd, len_cons, len_nil, List.length_set, List.length_map, List.length_append] <;> omega) | fail)) only [St.get_upd, St.get_alloc, St.next_alloc, St.next_upd, ↓reduceIte, natF_lt, natF_gt, natF_ne, Nat.add_assoc, Nat.reduceAdd, Nat.reduceEqDiff, Nat.add_left_cancel_iff]; omega, hn, ?_, ?_, ?_, [], rfl, .inl ⟨rfl, ?_⟩⟩
    · simp (disch := (first | omega | (simp only [nx_alloc, nx_upd, len_cons, len_nil, List.length_set, List.length_map, List.length_append] <;> omega) | fail)) only [St.get_upd, St.get_alloc, St.next_alloc, St.next_upd, ↓reduceIte, natF_lt, natF_gt, natF_ne, Nat.add_assoc, Nat.reduceAdd, Nat.reduceEqDiff, Nat.add_left_cancel_iff]
    · simp (disch := (first | omega | (simp only [nx_alloc, nx_upd, len_cons, len_nil, List.length_set, List.length_map, List.length_append] <;> omega) | fail)) only [St.get_upd, St.get_alloc, St.next_alloc, St.next_upd, ↓reduceIte, natF_lt, natF_gt, natF_ne, Nat.add_assoc, Nat.reduceAdd, Nat.reduceEqDiff, Nat.add_left_cancel_iff]
    · simp (disch := (first | omega | (simp only [nx_alloc, nx_upd, len_cons, len_nil, List.length_set, List.length_map, List.length_append] <;> omega) | fail)) only [St.get_upd, St.get_alloc, St.next_alloc, St.next_upd, ↓reduceIte, natF_lt, natF_gt, natF_ne, Nat.add_assoc, Nat.reduceAdd, Nat.reduceEqDiff, Nat.add_left_cancel_iff]
    · simp (disch := (first | omega | (simp only [nx_alloc, nx_upd, len_cons, len_nil, List.length_set, List.length_map, List.length_append] <;> omega) | fail)) only [St.get_upd, St.get_alloc, St.next_alloc, St.next_upd, ↓reduceIte, natF_lt, natF_gt, natF_ne, Nat.add_assoc, Nat.reduceAdd, Nat.reduceEqDiff, Nat.add_left_cancel_iff]
  · rintro e A2 ⟨rfl, hov, hnx, hd, hl, hne, hrow⟩
    refine rfQ_normal hl (by decide) ?_
    have hpos : (enc n).length ≠ 0 := fun h => hne (List.eq_nil_of_length_eq_zero h)
    rcases hrow with ⟨h0, _⟩ | ⟨k, hk0, hkn, hb1, hkc⟩
    · exact absurd h0 hne
    simp (maxSteps := 1000000) (disch := (first | omega | (simp only [nx_alloc, nx_upd, len_cons, len_nil, List.length_set, List.length_map, List.length_append] <;> omega) | fail)) only [go_sem, hb1, hkc, Try.results73]
    rw [textC_some (l := enc n) (by simp) (by rw [List.drop_zero]; exact List.take_of_length_le (by simp))]
    simp (maxSteps := 1000000) (disch := (first | omega | (simp only [nx_alloc, nx_upd, len_cons, len_nil, List.length_set, List.length_map, List.length_append] <;> omega) | fail)) only [go_sem, hd, Try.results73]
    exact gc_fin hw ((hov.upd (by omega) _).upd (by omega) _) (by simp only [bnd_string])

theorem enc_ne (m : Nat) : enc m ≠ [] := by
  by_cases h : m < 128
  · rw [enc_lt h]; simp
  · rw [enc_ge h]; simp
theorem enc_byte : ∀ (m : Nat), ∀ x ∈ enc m, Byte x := by
  intro m
  induction m using Nat.strongRecOn with
  | _ m ih =>
    intro x hx
    by_cases h : m < 128
    · rw [enc_lt h] at hx
      simp only [List.mem_cons, List.not_mem_nil, or_false] at hx
      subst hx; exact ⟨by omega, by omega⟩
    · rw [enc_ge h, List.mem_cons] at hx
      rcases hx with rfl | hx
      · exact ⟨by omega, by omega⟩
      · exact ih (m / 128) (by omega) x hx
theorem pow_lt64 {i : Nat} (hi : i ≤ 8) : 2 ^ (64 - 7 * i) = 128 * 2 ^ (64 - 7 * (i + 1)) := by
  rw [show 64 - 7 * i = 7 + (64 - 7 * (i + 1)) by omega, Nat.pow_add]
theorem pow_up (i : Nat) : (2 : Int) ^ (7 * (i + 1)) = 128 * 2 ^ (7 * i) := by rw [show 7 * (i + 1) = 7 + 7 * i by omega, Int.pow_add]; rfl
theorem getL_enc : ∀ (m k i : Nat) (n : Int) (r : List Int), k + i = 10 → i ≤ 9 → (0 < i → 0 < m) → m < 2 ^ (64 - 7 * i) → getL k i n (enc m ++ r) = (n + m * 2 ^ (7 * i), r, 0) := by
  intro m
  induction m using Nat.strongRecOn with
  | _ m ih =>
    intro k i n r hk hi hm hb
    obtain ⟨k, rfl⟩ : ∃ k', k = k' + 1 := ⟨9 - i, by omega⟩
    by_cases h : m < 128
    · rw [enc_lt h, List.singleton_append, getL_of, if_neg, if_pos (by omega)]
      · rw [show ((m : Int) % 128) = m by omega]
      · rintro (⟨rfl, h2⟩ | ⟨h1, h2⟩)
        · have : m < 2 := hb
          omega
        · have := hm h1; omega
    · have hi8 : i ≤ 8 := by
        rcases Nat.lt_or_ge i 9 with h9 | h9
        · omega
        · have : i = 9 := by omega
          subst this
          have : m < 2 := hb
          omega
      rw [enc_ge h, List.cons_append, getL_of, if_neg, if_neg (by omega)]
      · rw [pow_lt64 hi8] at hb
        rw [ih (m / 128) (by omega) k (i + 1) _ r (by omega) (by omega) (by omega) (by omega)]
        rw [pow_up, show ((m % 128 + 128 : Nat) : Int) % 128 = ((m % 128 : Nat) : Int) by omega]
        have e : (m : Int) = ((m % 128 : Nat) : Int) + 128 * ((m / 128 : Nat) : Int) := by omega
        have : n + ((m % 128 : Nat) : Int) * 2 ^ (7 * i) + ((m / 128 : Nat) : Int) * (128 * 2 ^ (7 * i)) = n + (m : Int) * 2 ^ (7 * i) := by
          conv => rhs; rw [e]
          rw [Int.add_mul, Int.add_assoc, ← Int.mul_assoc ((m / 128 : Nat) : Int), Int.mul_comm ((m / 128 : Nat) : Int) 128]
        rw [this]
      · rintro (⟨rfl, h2⟩ | ⟨h1, h2⟩) <;> omega
theorem getL_short : ∀ (m k i : Nat) (n : Int), k + i = 10 → i ≤ 9 → (0 < i → 0 < m) → m < 2 ^ (64 - 7 * i) → getL k i n (enc m).dropLast = (0, [], 40) := by
  intro m
  induction m using Nat.strongRecOn with
  | _ m ih =>
    intro k i n hk hi hm hb
    obtain ⟨k, rfl⟩ : ∃ k', k = k' + 1 := ⟨9 - i, by omega⟩
    by_cases h : m < 128
    · rw [enc_lt h]; rfl
    · have hi8 : i ≤ 8 := by
        rcases Nat.lt_or_ge i 9 with h9 | h9
        · omega
        · have : i = 9 := by omega
          subst this
          have : m < 2 := hb
          omega
      rw [enc_ge h, List.dropLast_cons_of_ne_nil (enc_ne _), getL_of, if_neg, if_neg (by omega)]
      · rw [pow_lt64 hi8] at hb
        exact ih (m / 128) (by omega) k (i + 1) _ (by omega) (by omega) (by omega) (by omega)
      · rintro (⟨rfl, h2⟩ | ⟨h1, h2⟩) <;> omega
theorem getL_inv : ∀ (k i : Nat) (n : Int) (l : List Int) (N : Int) (r : List Int), k + i = 10 → (∀ x ∈ l, Byte x) → getL k i n l = (N, r, 0) → ∃ m : Nat, l = enc m ++ r ∧ N = n + m * 2 ^ (7 * i) ∧ (0 < i → 0 < m) ∧ m < 2 ^ (64 - 7 * i)
  | 0, i, n, l, N, r, hk, hl, h => by simp [getL] at h
  | k + 1, i, n, [], N, r, hk, hl, h => by simp [getL] at h
  | k + 1, i, n, c :: l, N, r, hk, hl, h => by
    have hc := hl c (List.mem_cons_self ..)
    have hc0 := hc.1
    have hc1 := hc.2
    rw [getL_of] at h
    split at h
    · simp at h
    · rename_i hbad
      have hb1 : ¬ (i = 9 ∧ c > 1) := fun x => hbad (.inl x)
      have hb2 : ¬ (i > 0 ∧ c = 0) := fun x => hbad (.inr x)
      split at h
      · rename_i h128
        obtain ⟨m, rfl⟩ := Int.eq_ofNat_of_zero_le hc0
        simp only [Prod.mk.injEq] at h
        refine ⟨m, ?_, ?_, by omega, ?_⟩
        · rw [enc_lt (by omega), h.2.1]; rfl
        · rw [← h.1, show ((m : Int) % 128) = m by omega]
        · rcases Nat.lt_or_ge i 9 with h9 | h9
          · have : 2 ^ 8 ≤ 2 ^ (64 - 7 * i) := Nat.pow_le_pow_right (by omega) (by omega)
            omega
          · have : i = 9 := by omega
            subst this
            show m < 2
            omega
      · rename_i h128
        obtain ⟨m', rfl, h2, h3, h4⟩ := getL_inv k (i + 1) _ l N r (by omega) (fun x hx => hl x (List.mem_cons_of_mem _ hx)) h
        have h3 := h3 (by omega)
        have hi8 : i ≤ 8 := by
          rcases Nat.lt_or_ge i 9 with h9 | h9
          · omega
          · omega
        obtain ⟨d, rfl⟩ := Int.eq_ofNat_of_zero_le hc0
        refine ⟨d - 128 + 128 * m', ?_, ?_, by omega, ?_⟩
        · rw [enc_ge (n := d - 128 + 128 * m') (by omega), show (d - 128 + 128 * m') % 128 + 128 = d by omega, show (d - 128 + 128 * m') / 128 = m' by omega]; rfl
        · rw [h2, pow_up, show ((d : Int) % 128) = ((d - 128 : Nat) : Int) by omega]
          rw [show ((d - 128 + 128 * m' : Nat) : Int) = ((d - 128 : Nat) : Int) + 128 * (m' : Int) by omega, Int.add_mul, Int.add_assoc, ← Int.mul_assoc (m' : Int), Int.mul_comm (m' : Int) 128]
        · rw [pow_lt64 hi8]; omega
theorem getL_err : ∀ (k i : Nat) (n : Int) (l : List Int), (getL k i n l).2.2 ≠ 0 → (getL k i n l).1 = 0 ∧ (getL k i n l).2.1 = [] ∧ ((getL k i n l).2.2 = 40 ∧ l.length < k ∨ (getL k i n l).2.2 = 41)
  | 0, i, n, l, h => ⟨rfl, rfl, .inr rfl⟩
  | k + 1, i, n, [], h => ⟨rfl, rfl, .inl ⟨rfl, by simp⟩⟩
  | k + 1, i, n, c :: l, h => by
    rw [getL_of] at h ⊢
    split
    · exact ⟨rfl, rfl, .inr rfl⟩
    · rename_i hb
      rw [if_neg hb] at h
      split
      · rename_i h1
        rw [if_pos h1] at h
        exact absurd rfl h
      · rename_i h1
        rw [if_neg h1] at h
        obtain ⟨h2, h3, h4⟩ := getL_err k (i + 1) _ l h
        refine ⟨h2, h3, ?_⟩
        rcases h4 with ⟨h5, h6⟩ | h5
        · exact .inl ⟨h5, by simp; omega⟩
        · exact .inr h5
theorem Try.enters49 : Enters Try.prog 49 := enters_of Try.func49 rfl (by kernel_rfl)
theorem Try.enters32 : Enters Try.prog 32 := enters_of Try.func32 rfl (by kernel_rfl)
/-- What a number that is read can be. -/
theorem getL_facts (s : List Int) (hb : ∀ x ∈ s, Byte x) (n : Int) (r : List Int) (e : Int) (h : getL 10 0 0 s = (n, r, e)) : 0 ≤ n ∧ n ≤ 18446744073709551615 ∧ (∀ x ∈ r, Byte x) ∧ r.length ≤ s.length ∧ 0 ≤ e ∧ e ≤ 41 := by
  by_cases he : e = 0
  · subst he
    obtain ⟨m, hl, hn, _, hm⟩ := getL_inv 10 0 0 s n r rfl hb h
    have hm64 : m < 18446744073709551616 := by simpa using hm
    have hnm : n = (m : Int) := by rw [hn]; simp
    subst hnm
    refine ⟨by omega, by omega, fun x hx => hb x (by rw [hl]; exact List.mem_append_right _ hx), ?_, by omega, by omega⟩
    rw [hl, List.length_append]; omega
  · have := getL_err 10 0 0 s (by rw [h]; exact he)
    rw [h] at this
    simp only at this
    obtain ⟨h1, h2, h3⟩ := this
    subst h1 h2
    exact ⟨by omega, by omega, fun x hx => by simp at hx, by simp, by omega, by omega⟩
/-- A text with its length ahead, read. -/
def readL (s : List Int) : List Int × List Int × Int :=
  if (getL 10 0 0 s).2.2 ≠ 0 then ([], [], (getL 10 0 0 s).2.2) else if (getL 10 0 0 s).1 > (getL 10 0 0 s).2.1.length then ([], [], 40) else
    ((getL 10 0 0 s).2.1.take (getL 10 0 0 s).1.toNat, (getL 10 0 0 s).2.1.drop (getL 10 0 0 s).1.toNat, 0)
def readV (x : List Int × List Int × Int) : Value := .tuple #[.string (strOfNums x.1), .string (strOfNums x.2.1), .int .i64 x.2.2]
theorem bnd_readV (n : Nat) (x : List Int × List Int × Int) : Bnd n (readV x) := by simp only [readV, bnd_tuple, bndL_cons, bndL_nil, bnd_int, bnd_string, and_self]
set_option maxHeartbeats 1000000 in
theorem read_ok (w0 : World) (A : St) (s : ByteArray) (hs : s.size ≤ 140737488355327) : ACalls Try.prog w0 49 #[.string s] A (fin (readV (readL (nums s))) A) := by
  refine call_E Try.enters49 Try.func49 rfl (Nat.le_of_ble_eq_true rfl) fun hw hbd => ?_
  simp (maxSteps := 1000000) (disch := (first | omega | (simp only [nx_alloc, nx_upd, len_cons, len_nil, List.length_set, List.length_map, List.length_append] <;> omega) | fail)) only [go_sem, Try.ntmps49, Try.results49]
  refine call1 (get_ok w0 _ s hs) ?_
  rcases hg : getL 10 0 0 (nums s) with ⟨n, r, e⟩
  obtain ⟨hn0, hn1, hr, hrl, he0, he1⟩ := getL_facts _ (nums_byte s) n r e hg
  rw [nums_length] at hrl
  have hp := str_size r
  simp (maxSteps := 1000000) (disch := (first | omega | (simp only [nx_alloc, nx_upd, len_cons, len_nil, List.length_set, List.length_map, List.length_append] <;> omega) | fail)) only [go_sem, getV, str_size]
  refine ifB_dec (fun he => ?_) (fun he => ?_)
  · simp (maxSteps := 1000000) (disch := (first | omega | (simp only [nx_alloc, nx_upd, len_cons, len_nil, List.length_set, List.length_map, List.length_append] <;> omega) | fail)) only [go_sem, Try.results49]
    exact gc_fin' hw (Over.refl _) (by unfold readL; rw [hg, if_pos he]; rfl) (bnd_readV _ _)
  · have he' : e = 0 := by simpa using he
    subst he'
    simp (maxSteps := 1000000) (disch := (first | omega | (simp only [nx_alloc, nx_upd, len_cons, len_nil, List.length_set, List.length_map, List.length_append] <;> omega) | fail)) only [go_sem, str_size]
    refine ifB_dec (fun hl => ?_) (fun hl => ?_)
    · simp (maxSteps := 1000000) (disch := (first | omega | (simp only [nx_alloc, nx_upd, len_cons, len_nil, List.length_set, List.length_map, List.length_append] <;> omega) | fail)) only [go_sem, Try.results49]
      exact gc_fin' hw (Over.refl _) (by unfold readL; rw [hg, if_neg (fun h => h rfl), if_pos (by omega)]; rfl) (bnd_readV _ _)
    · simp (maxSteps := 1000000) (disch := (first | omega | (simp only [nx_alloc, nx_upd, len_cons, len_nil, List.length_set, List.length_map, List.length_append] <;> omega) | fail)) only [go_sem]
      refine aw_draw (by kernel_rfl) ?_
      simp (maxSteps := 1000000) (disch := (first | omega | (simp only [nx_alloc, nx_upd, len_cons, len_nil, List.length_set, List.length_map, List.length_append] <;> omega) | fail)) only [go_sem, str_size, str_take hr, str_drop hr, Try.results49]
      exact gc_fin' hw (Over.refl _) (by unfold readL; rw [hg, if_neg (fun h => h rfl), if_neg (by omega)]; rfl) (bnd_readV _ _)
theorem text_ok (w0 : World) (A : St) (s : ByteArray) (hs : s.size ≤ 140737488355327) : ACalls Try.prog w0 32 #[.string s] A (fin (.string (strOfNums (enc s.size ++ nums s))) A) := by
  refine call_E Try.enters32 Try.func32 rfl (Nat.le_of_ble_eq_true rfl) fun hw hbd => ?_
  simp (maxSteps := 1000000) (disch := (first | omega | (simp only [nx_alloc, nx_upd, len_cons, len_nil, List.length_set, List.length_map, List.length_append] <;> omega) | fail)) only [go_sem, Try.ntmps32, Try.results32]
  refine call1 (put_ok w0 _ s.size (by omega)) ?_
  have hp := str_size (enc s.size)
  have hlen : (enc s.size).length ≤ 10 := enc_len 9 _ (by omega)
  simp (maxSteps := 1000000) (disch := (first | omega | (simp only [nx_alloc, nx_upd, len_cons, len_nil, List.length_set, List.length_map, List.length_append] <;> omega) | fail)) only [go_sem, Try.results32]
  exact gc_fin' hw (Over.refl _) (by rw [← str_append, str_nums]) (by simp only [bnd_string])
end Go.Fw
