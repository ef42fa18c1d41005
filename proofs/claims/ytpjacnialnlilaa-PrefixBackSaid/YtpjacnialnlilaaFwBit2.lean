import Derived.Test.YtpjacnialnlilaaFwBit1
set_option linter.unusedSimpArgs false
set_option linter.unusedVariables false
set_option maxRecDepth 4000
namespace Go.Fw
open Go.Proofs Go.RowKit
theorem Try.enters18 : Enters Try.prog 18 := enters_of Try.func18 rfl (by kernel_rfl)
theorem Try.enters34 : Enters Try.prog 34 := enters_of Try.func34 rfl (by kernel_rfl)
theorem Try.enters21 : Enters Try.prog 21 := enters_of Try.func21 rfl (by kernel_rfl)
theorem Try.enters46 : Enters Try.prog 46 := enters_of Try.func46 rfl (by kernel_rfl)
/-- A reader, in cells. -/
def rdB (t : Nat) (s : ByteArray) (at' : Nat) : Blk := .cells [.string s, .int .i64 at'] t (some 0)
set_option maxHeartbeats 1000000 in
theorem new_ok (w0 : World) (A : St) (s : ByteArray) : ACalls Try.prog w0 18 #[.string s] A (fin (.pointer (some ⟨A.next, 0, none⟩)) (A.alloc (rdB 70 s 0))) := by
  refine call_E Try.enters18 Try.func18 rfl (Nat.le_of_ble_eq_true rfl) fun hw hbd => ?_
  simp (maxSteps := 1000000) (disch := (first | omega | (simp only [nx_alloc, nx_upd, len_cons, len_nil, List.length_set, List.length_map, List.length_append] <;> omega) | fail)) only [go_sem, Try.ntmps18, Try.results18]
  exact gc_here ⟨rfl, rfl⟩
set_option maxHeartbeats 1000000 in
theorem left_ok (w0 : World) (A : St) (r : Nat) (s : ByteArray) (k : Nat) (hr : A.get r = some (rdB 70 s k)) (hs : s.size ≤ 140737488355328) (hk : k ≤ 8 * s.size) : ACalls Try.prog w0 21 #[.pointer (some ⟨r, 0, none⟩)] A (fin (.int .i64 ((8 * s.size - k : Nat) : Int)) A) := by
  refine call_E Try.enters21 Try.func21 rfl (Nat.le_of_ble_eq_true rfl) fun hw hbd => ?_
  unfold rdB at hr
  simp (maxSteps := 1000000) (disch := (first | omega | (simp only [nx_alloc, nx_upd, len_cons, len_nil, List.length_set, List.length_map, List.length_append] <;> omega) | fail)) only [go_sem, Try.ntmps21, Try.results21]
  have e : (8 : Int) * (s.size : Int) - (k : Int) = ((8 * s.size - k : Nat) : Int) := by omega
  refine aw_draw (by kernel_rfl) ?_
  simp (maxSteps := 1000000) (disch := (first | omega | (simp only [nx_alloc, nx_upd, len_cons, len_nil, List.length_set, List.length_map, List.length_append] <;> omega) | fail)) only [go_sem, hr, e, Try.results21]
  exact gc_fin hw (Over.refl _) (by simp only [bnd_int])
set_option maxHeartbeats 1000000 in
/-- The deferred step on: the reader's place moves by the width. -/
theorem take1_def (w0 : World) (A : St) (c d r : Nat) (s : ByteArray) (k w : Nat) (m1 m2 : Option Nat) (hc : A.get c = some (.cells [.pointer (some ⟨r, 0, none⟩)] 45 m1)) (hd : A.get d = some (.cells [.int .i64 (w : Int)] 3 m2)) (hr : A.get r = some (rdB 70 s k)) (hkw : k + w ≤ 1125899906842624)
    (K : St → Prop) (h : K (A.upd r (some (rdB 70 s (k + w))))) : leaveF Try.prog w0 46 #[.pointer (some ⟨c, 0, none⟩), .pointer (some ⟨d, 0, none⟩)] A K := by
  refine ⟨Try.enters46, adef_E Try.func46 rfl (Nat.le_of_ble_eq_true rfl) fun hw hbd => ?_⟩
  unfold rdB at hr
  simp (maxSteps := 1000000) (disch := (first | omega | (simp only [nx_alloc, nx_upd, len_cons, len_nil, List.length_set, List.length_map, List.length_append] <;> omega) | fail)) only [go_sem, Try.ntmps46, Try.results46]
  have e : (k : Int) + (w : Int) = ((k + w : Nat) : Int) := by omega
  refine aw_draw2 [⟨false, [], [0]⟩, ⟨false, [0], [0]⟩, ⟨false, [0, 1], [0]⟩, ⟨false, [0, 1, 2], [0]⟩, ⟨false, [], [0]⟩, ⟨false, [0, 1, 2, 3, 4], [0]⟩, ⟨false, [0, 1, 2, 3, 4, 5], [0]⟩, ⟨false, [0, 1, 2, 3, 4, 5, 6], [0]⟩, ⟨true, [0, 1, 2, 3, 4, 5, 6, 7], [0]⟩] [A, A.upd r (some (rdB 70 s (k + w)))] 1 (by kernel_rfl) (by kernel_rfl) rfl ?_
  unfold rdB
  simp (maxSteps := 1000000) (disch := (first | omega | (simp only [nx_alloc, nx_upd, len_cons, len_nil, List.length_set, List.length_map, List.length_append] <;> omega) | fail)) only [go_sem, hc, hd, hr, e, Try.results46]
  exact h
/-- Bytes as a number, the lowest first. -/
def leV : List Int → Nat
  | [] => 0
  | b :: r => b.toNat + 256 * leV r
theorem leV_lt : ∀ l : List Int, (∀ x ∈ l, Byte x) → leV l < 256 ^ l.length
  | [], _ => by simp [leV]
  | b :: r, h => by
    have h1 := h b (List.mem_cons_self ..)
    have h2 := leV_lt r fun x hx => h x (List.mem_cons_of_mem _ hx)
    unfold Byte at h1
    simp only [leV, List.length_cons, Nat.pow_succ]
    omega
theorem leV_at : ∀ (l : List Int) (i : Nat) (b : Int), (∀ x ∈ l, Byte x) → l[i]? = some b → leV l / 256 ^ i % 256 = b.toNat
  | [], i, b, _, h => by simp at h
  | c :: r, 0, b, hb, h => by
    simp at h; subst h
    have h1 := hb c (List.mem_cons_self ..)
    unfold Byte at h1
    simp only [leV, Nat.pow_zero, Nat.div_one]
    omega
  | c :: r, i + 1, b, hb, h => by
    have h1 := hb c (List.mem_cons_self ..)
    unfold Byte at h1
    rw [Nat.pow_succ, Nat.mul_comm, ← Nat.div_div_eq_div_mul]
    have : leV (c :: r) / 256 = leV r := by simp only [leV]; omega
    rw [this]
    exact leV_at r i b (fun x hx => hb x (List.mem_cons_of_mem _ hx)) (by simpa using h)
/-- A text as a number. -/
def strV (s : ByteArray) : Nat := leV (nums s)
theorem strV_lt (s : ByteArray) : strV s < 2 ^ (8 * s.size) := by
  have := leV_lt (nums s) (nums_byte s)
  rwa [nums_length, pow256] at this
theorem strV_at (s : ByteArray) (i : Nat) (h : i < s.size) : strV s / 256 ^ i % 256 = (sbt s i).toNat := leV_at _ i _ (nums_byte s) (sbt_nums s i h)
theorem u64_shl8 (b j : Nat) (hj : j < 4) (hb : b < 256) : ishl .u64 (b : Int) ((8 * j : Nat) : Int) = ((b * 256 ^ j : Nat) : Int) := by
  have hp : 256 ^ j ≤ 256 ^ 3 := Nat.pow_le_pow_right (by decide) (by omega)
  have h : b * 256 ^ j ≤ 256 * 256 ^ 3 := Nat.mul_le_mul (by omega) hp
  have e : ((b * 256 ^ j : Nat) : Int) = (b : Int) * 2 ^ (8 * j) := by rw [pow256, Int.natCast_mul, Int.natCast_pow]; rfl
  rw [ishl_eq .u64 rfl (b : Int) (8 * j) (by simp only [IntKind.bits]; omega) (by omega) (by rw [← e]; simp only [IntKind.bits]; omega), e]
theorem u64_or8 (h b j : Nat) (hj : j < 4) (hb : b < 256) (hh : h < 256 ^ j) : ibits .or .u64 (h : Int) ((b * 256 ^ j : Nat) : Int) = ((h + b * 256 ^ j : Nat) : Int) := by
  have hp : 256 ^ j ≤ 256 ^ 3 := Nat.pow_le_pow_right (by decide) (by omega)
  have h1 : b * 256 ^ j ≤ 256 * 256 ^ 3 := Nat.mul_le_mul (by omega) hp
  have e : ((b * 256 ^ j : Nat) : Int) = (b : Int) * 2 ^ (8 * j) := by rw [pow256, Int.natCast_mul, Int.natCast_pow]; rfl
  have hh' : (h : Int) < 2 ^ (8 * j) := by rw [show ((2 : Int) ^ (8 * j)) = ((256 ^ j : Nat) : Int) by rw [pow256, Int.natCast_pow]; rfl]; exact Int.ofNat_lt.2 hh
  rw [e, or_add .u64 rfl (h : Int) (b : Int) (8 * j) (by omega) hh' (by omega) (by rw [← e]; simp only [IntKind.bits]; omega), Int.natCast_add, e]
theorem u64_one (k : Nat) (hk : k ≤ 24) : ishl .u64 1 (k : Int) = ((2 ^ k : Nat) : Int) := by
  have hp : 2 ^ k ≤ 2 ^ 24 := Nat.pow_le_pow_right (by decide) hk
  rw [ishl_eq .u64 rfl 1 k (by simp only [IntKind.bits]; omega) (by omega) (by rw [Int.one_mul, show ((2 : Int) ^ k) = ((2 ^ k : Nat) : Int) by rw [Int.natCast_pow]; rfl]; simp only [IntKind.bits]; omega), Int.one_mul, Int.natCast_pow]; rfl
theorem u64_shr (n j : Nat) (hj : j ≤ 64) : ishr .u64 (n : Int) (j : Int) = ((n / 2 ^ j : Nat) : Int) := by
  rw [ishr_eq .u64 _ j (by simp only [IntKind.bits]; omega), Int.natCast_ediv, Int.natCast_pow]; rfl
theorem u64_mask (n j : Nat) (hn : n < 18446744073709551616) (hj : j ≤ 64) : ibits .and .u64 (n : Int) (((2 ^ j : Nat) : Int) - 1) = ((n % 2 ^ j : Nat) : Int) := by
  have := and_mask .u64 rfl (n : Int) j ⟨by omega, by simp only [IntKind.bits]; omega⟩ (by simp only [IntKind.bits]; omega)
  rw [Int.natCast_pow, Int.natCast_emod, Int.natCast_pow]
  exact this
def takeS (s : ByteArray) (k : Nat) (w : Int) : Int × Int × Nat :=
  if w < 0 ∨ 24 < w then (0, 1, k) else if ((8 * s.size - k : Nat) : Int) < w then (0, 40, k) else (((strV s / 2 ^ k % 2 ^ w.toNat : Nat) : Int), 0, k + w.toNat)
/-- What Take holds: so many bytes, from a place on. -/
def holdN (s : ByteArray) (f m : Nat) : Nat := strV s / 256 ^ f % 256 ^ m
theorem holdN_succ (s : ByteArray) (f m : Nat) (h : f + m < s.size) : holdN s f (m + 1) = holdN s f m + (sbt s (f + m)).toNat * 256 ^ m := by
  unfold holdN
  rw [Nat.pow_succ, Nat.mod_mul, Nat.div_div_eq_div_mul, ← Nat.pow_add, strV_at s _ h, Nat.mul_comm (256 ^ m)]
theorem holdN_lt (s : ByteArray) (f m : Nat) : holdN s f m < 256 ^ m := Nat.mod_lt _ (Nat.pow_pos (by decide))
theorem holdN_end (s : ByteArray) (f m : Nat) (hm : m ≤ 4) (h : m = 4 ∨ s.size ≤ f + m) : holdN s f m = strV s / 256 ^ f % 2 ^ 32 := by
  unfold holdN
  rcases h with rfl | h
  · rfl
  · have hlt : strV s / 256 ^ f < 256 ^ m := by
      apply Nat.div_lt_of_lt_mul
      rw [← Nat.pow_add, pow256]
      exact Nat.lt_of_lt_of_le (strV_lt s) (Nat.pow_le_pow_right (by decide) (by omega))
    rw [Nat.mod_eq_of_lt hlt, Nat.mod_eq_of_lt (Nat.lt_of_lt_of_le hlt (by rw [pow256]; exact Nat.pow_le_pow_right (by decide) (by omega)))]
theorem take_val (V k w : Nat) (hw : w ≤ 24) : V / 256 ^ (k / 8) % 2 ^ 32 / 2 ^ (k % 8) % 2 ^ w = V / 2 ^ k % 2 ^ w := by
  rw [show (2 : Nat) ^ 32 = 2 ^ (k % 8) * 2 ^ (32 - k % 8) by rw [← Nat.pow_add]; congr 1; omega, Nat.mod_mul_right_div_self, Nat.mod_mod_of_dvd _ (Nat.pow_dvd_pow 2 (by omega)), Nat.div_div_eq_div_mul, pow256, ← Nat.pow_add]
  congr 3; omega
theorem bnd_takeS (n : Nat) (s : ByteArray) (k : Nat) (w : Int) : Bnd n (.tuple #[.int .u32 (takeS s k w).1, .int .i64 (takeS s k w).2.1]) := by simp only [bnd_tuple, bndL_cons, bndL_nil, bnd_int, and_self]
set_option maxHeartbeats 4000000 in
theorem take_ok (w0 : World) (A : St) (r : Nat) (s : ByteArray) (k : Nat) (w : Int) (hr : A.get r = some (rdB 70 s k)) (hs : s.size ≤ 140737488355328) (hk : k ≤ 8 * s.size) :
    ACalls Try.prog w0 34 #[.pointer (some ⟨r, 0, none⟩), .int .i64 w] A (fin (.tuple #[.int .u32 (takeS s k w).1, .int .i64 (takeS s k w).2.1]) (A.upd r (some (rdB 70 s (takeS s k w).2.2)))) := by
  refine call_E Try.enters34 Try.func34 rfl (Nat.le_of_ble_eq_true rfl) fun hw hbd => ?_
  have hrn : r < A.next := (hw r _ hr).1
  have hbnd : ∀ v ∈ ([.string s, .int .i64 (takeS s k w).2.2] : List Value), Bnd A.next v := by
    intro v hv
    simp only [List.mem_cons, List.not_mem_nil, or_false] at hv
    rcases hv with rfl | rfl
    · exact .string _
    · exact .int _ _
  simp (maxSteps := 1000000) (disch := (first | omega | (simp only [nx_alloc, nx_upd, len_cons, len_nil, List.length_set, List.length_map, List.length_append] <;> omega) | fail)) only [go_sem, Try.ntmps34, Try.results34]
  by_cases h1 : w < 0
  · simp (maxSteps := 1000000) (disch := (first | omega | (simp only [nx_alloc, nx_upd, len_cons, len_nil, List.length_set, List.length_map, List.length_append] <;> omega) | fail)) only [go_sem, Try.results34]
    exact gc_upd hw hrn hbnd (over_upd (by simp; omega) (by rw [show (takeS s k w).2.2 = k by unfold takeS; rw [if_pos (.inl h1)]]; simp (disch := (first | omega | (simp only [nx_alloc, nx_upd, len_cons, len_nil, List.length_set, List.length_map, List.length_append] <;> omega) | fail)) only [St.get_upd, St.get_alloc, St.next_alloc, St.next_upd, ↓reduceIte, natF_lt, natF_gt, natF_ne, Nat.add_assoc, Nat.reduceAdd, Nat.reduceEqDiff, Nat.add_left_cancel_iff]; exact hr) (fun b q1 q2 => by simp (disch := (first | omega | (simp only [nx_alloc, nx_upd, len_cons, len_nil, List.length_set, List.length_map, List.length_append] <;> omega) | fail)) only [St.get_upd, St.get_alloc, St.next_alloc, St.next_upd, ↓reduceIte, natF_lt, natF_gt, natF_ne, Nat.add_assoc, Nat.reduceAdd, Nat.reduceEqDiff, Nat.add_left_cancel_iff])) (by unfold takeS; rw [if_pos (.inl h1)]) (bnd_takeS _ _ _ _)
  by_cases h2 : 24 < w
  · simp (maxSteps := 1000000) (disch := (first | omega | (simp only [nx_alloc, nx_upd, len_cons, len_nil, List.length_set, List.length_map, List.length_append] <;> omega) | fail)) only [go_sem, Try.results34]
    exact gc_upd hw hrn hbnd (over_upd (by simp; omega) (by rw [show (takeS s k w).2.2 = k by unfold takeS; rw [if_pos (.inr h2)]]; simp (disch := (first | omega | (simp only [nx_alloc, nx_upd, len_cons, len_nil, List.length_set, List.length_map, List.length_append] <;> omega) | fail)) only [St.get_upd, St.get_alloc, St.next_alloc, St.next_upd, ↓reduceIte, natF_lt, natF_gt, natF_ne, Nat.add_assoc, Nat.reduceAdd, Nat.reduceEqDiff, Nat.add_left_cancel_iff]; exact hr) (fun b q1 q2 => by simp (disch := (first | omega | (simp only [nx_alloc, nx_upd, len_cons, len_nil, List.length_set, List.length_map, List.length_append] <;> omega) | fail)) only [St.get_upd, St.get_alloc, St.next_alloc, St.next_upd, ↓reduceIte, natF_lt, natF_gt, natF_ne, Nat.add_assoc, Nat.reduceAdd, Nat.reduceEqDiff, Nat.add_left_cancel_iff])) (by unfold takeS; rw [if_pos (.inr h2)]) (bnd_takeS _ _ _ _)
  obtain ⟨wd, rfl⟩ := Int.eq_ofNat_of_zero_le (a := w) (by omega)
  simp (maxSteps := 1000000) (disch := (first | omega | (simp only [nx_alloc, nx_upd, len_cons, len_nil, List.length_set, List.length_map, List.length_append] <;> omega) | fail)) only [go_sem]
  obtain ⟨A2, hA2⟩ : ∃ A2, A2 = (A.alloc (.cells [.pointer (some ⟨r, 0, none⟩)] 45 (some 0))).alloc (.cells [.int .i64 (wd : Int)] 3 (some 0)) := ⟨_, rfl⟩
  rw [← hA2]
  have g2 : A2.get A.next = some (.cells [.pointer (some ⟨r, 0, none⟩)] 45 (some 0)) := by
    rw [hA2]
    simp (disch := (first | omega | (simp only [nx_alloc, nx_upd, len_cons, len_nil, List.length_set, List.length_map, List.length_append] <;> omega) | fail)) only [St.get_upd, St.get_alloc, St.next_alloc, St.next_upd, ↓reduceIte, natF_lt, natF_gt, natF_ne, Nat.add_assoc, Nat.reduceAdd, Nat.reduceEqDiff, Nat.add_left_cancel_iff]
  have g3 : A2.get (A.next + 1) = some (.cells [.int .i64 (wd : Int)] 3 (some 0)) := by
    rw [hA2]
    simp (disch := (first | omega | (simp only [nx_alloc, nx_upd, len_cons, len_nil, List.length_set, List.length_map, List.length_append] <;> omega) | fail)) only [St.get_upd, St.get_alloc, St.next_alloc, St.next_upd, ↓reduceIte, natF_lt, natF_gt, natF_ne, Nat.add_assoc, Nat.reduceAdd, Nat.reduceEqDiff, Nat.add_left_cancel_iff]
  have gr : A2.get r = some (rdB 70 s k) := by
    rw [hA2]
    simp (disch := (first | omega | (simp only [nx_alloc, nx_upd, len_cons, len_nil, List.length_set, List.length_map, List.length_append] <;> omega) | fail)) only [St.get_upd, St.get_alloc, St.next_alloc, St.next_upd, ↓reduceIte, natF_lt, natF_gt, natF_ne, Nat.add_assoc, Nat.reduceAdd, Nat.reduceEqDiff, Nat.add_left_cancel_iff]
    exact hr
  have n2 : A2.next = A.next + 2 := by rw [hA2]; rfl
  have o2 : Over A A2 := by rw [hA2]; exact ((Over.refl A).alloc _).alloc _
  refine aw_draw (by kernel_rfl) ?_
  simp (maxSteps := 1000000) (disch := (first | omega | (simp only [nx_alloc, nx_upd, len_cons, len_nil, List.length_set, List.length_map, List.length_append] <;> omega) | fail)) only [go_sem, g2]
  refine ⟨_, left_ok w0 A2 r s k gr hs hk, ?_⟩
  simp (maxSteps := 1000000) (disch := (first | omega | (simp only [nx_alloc, nx_upd, len_cons, len_nil, List.length_set, List.length_map, List.length_append] <;> omega) | fail)) only [go_sem, g3]
  refine ifB_dec (fun h3 => ?_) (fun h3 => ?_)
  · simp (maxSteps := 1000000) (disch := (first | omega | (simp only [nx_alloc, nx_upd, len_cons, len_nil, List.length_set, List.length_map, List.length_append] <;> omega) | fail)) only [go_sem, Try.results34]
    have ht : takeS s k (wd : Int) = (0, 40, k) := by unfold takeS; rw [if_neg (by omega), if_pos (by omega)]
    exact gc_upd hw hrn hbnd (over_upd (by omega) (by rw [ht]; exact gr) (fun b q1 q2 => o2.get b q1)) (by rw [ht]) (bnd_takeS _ _ _ _)
  have ht : takeS s k (wd : Int) = (((strV s / 2 ^ k % 2 ^ wd : Nat) : Int), 0, k + wd) := by unfold takeS; rw [if_neg (by omega), if_neg (by omega)]; rfl
  have gr' := gr
  unfold rdB at gr'
  have q1 : Int.tdiv (k : Int) 8 = ((k / 8 : Nat) : Int) := by rw [Int.tdiv_eq_ediv_of_nonneg (by omega)]; omega
  simp (maxSteps := 1000000) (disch := (first | omega | (simp only [nx_alloc, nx_upd, len_cons, len_nil, List.length_set, List.length_map, List.length_append] <;> omega) | fail)) only [go_sem, g2, gr', q1]
  obtain ⟨f, hf⟩ : ∃ f, f = k / 8 := ⟨_, rfl⟩
  rw [← hf]
  have hfs : f ≤ s.size := by omega
  refine aw_hide fun Q hQ => ?_
  refine aw_loop (fun m a A' => ∃ (ρ : Nat → Value) (j : Nat), a = E 69 ρ [⟨.fn (.func 46) #[.pointer (some ⟨A.next, 0, none⟩), .pointer (some ⟨A.next + 1, 0, none⟩)], #[]⟩] ∧ m = 4 - j ∧ j ≤ 4 ∧ f + j ≤ s.size ∧ A' = A2 ∧ ρ 2 = .pointer (some ⟨A.next, 0, none⟩) ∧ ρ 3 = .pointer (some ⟨A.next + 1, 0, none⟩) ∧ ρ 6 = .int .i64 f ∧ ρ 7 = .int .u64 (holdN s f j : Nat) ∧ ρ 8 = .int .i64 ((f + j : Nat) : Int)) 4
    ⟨_, 0, rfl, rfl, by omega, by omega, rfl, rfl, rfl, rfl, ?_, rfl⟩ ?_
  · simp (maxSteps := 1000000) (disch := (first | omega | (simp only [nx_alloc, nx_upd, len_cons, len_nil, List.length_set, List.length_map, List.length_append] <;> omega) | fail)) only [go_sem]
    simp [holdN, Nat.mod_one]
  rintro m a A' ⟨ρ, j, rfl, rfl, hj, hjs, rfl, p2, p3, p6, p7, p8⟩
  have tail : (j = 4 ∨ f + j = s.size) → ∀ ρ' : Nat → Value, ρ' 2 = .pointer (some ⟨A.next, 0, none⟩) → ρ' 3 = .pointer (some ⟨A.next + 1, 0, none⟩) → ρ' 7 = .int .u64 (holdN s f j : Nat) → Q (.exit 1) (E 69 ρ' [⟨.fn (.func 46) #[.pointer (some ⟨A.next, 0, none⟩), .pointer (some ⟨A.next + 1, 0, none⟩)], #[]⟩]) A' := by
    intro hend ρ' x2 x3 x7
    rw [hQ]
    have hh := holdN_end s f j hj (by omega)
    have hlt : holdN s f j < 4294967296 := by rw [hh]; exact Nat.mod_lt _ (by decide)
    obtain ⟨H, hH⟩ : ∃ H, H = holdN s f j := ⟨_, rfl⟩
    rw [← hH] at x7 hh hlt
    have q2 : Int.tmod (k : Int) 8 = ((k % 8 : Nat) : Int) := by rw [Int.tmod_eq_emod_of_nonneg (by omega)]; omega
    have hp1 : 0 < 2 ^ wd := Nat.two_pow_pos _
    have hp2 : 2 ^ wd ≤ 2 ^ 24 := Nat.pow_le_pow_right (by decide) (by omega)
    have hval : H / 2 ^ (k % 8) % 2 ^ wd = strV s / 2 ^ k % 2 ^ wd := by rw [hh, hf]; exact take_val _ _ _ (by omega)
    have hvl : strV s / 2 ^ k % 2 ^ wd < 2 ^ wd := Nat.mod_lt _ hp1
    have hq : H / 2 ^ (k % 8) < 18446744073709551616 := Nat.lt_of_le_of_lt (Nat.div_le_self _ _) (by omega)
    simp (maxSteps := 1000000) (disch := (first | omega | (simp only [nx_alloc, nx_upd, len_cons, len_nil, List.length_set, List.length_map, List.length_append] <;> omega) | fail)) only [go_sem]
    refine aw_draw (by kernel_rfl) ?_
    simp (maxSteps := 1000000) (disch := (first | omega | (simp only [nx_alloc, nx_upd, len_cons, len_nil, List.length_set, List.length_map, List.length_append] <;> omega) | fail)) only [go_sem, x2, x3, x7, g2, g3, gr', q2, u64_one wd (by omega), u64_shr H (k % 8) (by omega), u64_mask _ wd hq (by omega), hval, Try.results34]
    refine take1_def w0 A' A.next (A.next + 1) r s k wd _ _ g2 g3 gr (by omega) _ ?_
    simp (maxSteps := 1000000) (disch := (first | omega | (simp only [nx_alloc, nx_upd, len_cons, len_nil, List.length_set, List.length_map, List.length_append] <;> omega) | fail)) only [go_sem, Try.results34]
    rw [ht]
    refine gc_upd hw hrn (by rw [ht] at hbnd; exact hbnd) (over_upd (by simp; omega) (by simp (disch := (first | omega | (simp only [nx_alloc, nx_upd, len_cons, len_nil, List.length_set, List.length_map, List.length_append] <;> omega) | fail)) only [St.get_upd, St.get_alloc, St.next_alloc, St.next_upd, ↓reduceIte, natF_lt, natF_gt, natF_ne, Nat.add_assoc, Nat.reduceAdd, Nat.reduceEqDiff, Nat.add_left_cancel_iff]; rfl) (fun b q1 q2 => by simp (disch := (first | omega | (simp only [nx_alloc, nx_upd, len_cons, len_nil, List.length_set, List.length_map, List.length_append] <;> omega) | fail)) only [St.get_upd, St.get_alloc, St.next_alloc, St.next_upd, ↓reduceIte, natF_lt, natF_gt, natF_ne, Nat.add_assoc, Nat.reduceAdd, Nat.reduceEqDiff, Nat.add_left_cancel_iff]; exact o2.get b q1)) rfl ?_
    have := bnd_takeS A.next s k wd
    rwa [ht] at this
  refine aw_of ?_
  by_cases hgo : f + j < s.size ∧ j < 4
  · obtain ⟨hg1, hg2⟩ := hgo
    have hb := sbt_byte s (f + j)
    obtain ⟨bb, hbb⟩ := Int.eq_ofNat_of_zero_le hb.1
    have hb256 : bb < 256 := by have := hb.2; omega
    have e1 : ((f + j : Nat) : Int) - (f : Int) = (j : Int) := by omega
    have e2 : (8 : Int) * (j : Int) = ((8 * j : Nat) : Int) := by omega
    simp (maxSteps := 1000000) (disch := (first | omega | (simp only [nx_alloc, nx_upd, len_cons, len_nil, List.length_set, List.length_map, List.length_append] <;> omega) | fail)) only [go_sem, p2, p3, p6, p7, p8, g2, gr', hbb, e1, e2, u64_shl8 bb j hg2 hb256, u64_or8 _ bb j hg2 hb256 (holdN_lt s f j)]
    refine ⟨4 - (j + 1), by omega, _, j + 1, rfl, rfl, by omega, by omega, ?_, ?_, ?_, ?_, ?_⟩
    · simp (maxSteps := 1000000) (disch := (first | omega | (simp only [nx_alloc, nx_upd, len_cons, len_nil, List.length_set, List.length_map, List.length_append] <;> omega) | fail)) only [go_sem, p2]
    · simp (maxSteps := 1000000) (disch := (first | omega | (simp only [nx_alloc, nx_upd, len_cons, len_nil, List.length_set, List.length_map, List.length_append] <;> omega) | fail)) only [go_sem, p3]
    · simp (maxSteps := 1000000) (disch := (first | omega | (simp only [nx_alloc, nx_upd, len_cons, len_nil, List.length_set, List.length_map, List.length_append] <;> omega) | fail)) only [go_sem, p6]
    · simp (maxSteps := 1000000) (disch := (first | omega | (simp only [nx_alloc, nx_upd, len_cons, len_nil, List.length_set, List.length_map, List.length_append] <;> omega) | fail)) only [go_sem]
      rw [holdN_succ s f j hg1, hbb]; rfl
    · simp (maxSteps := 1000000) (disch := (first | omega | (simp only [nx_alloc, nx_upd, len_cons, len_nil, List.length_set, List.length_map, List.length_append] <;> omega) | fail)) only [go_sem]
      rfl
  · by_cases hsz : f + j = s.size
    · simp (maxSteps := 1000000) (disch := (first | omega | (simp only [nx_alloc, nx_upd, len_cons, len_nil, List.length_set, List.length_map, List.length_append] <;> omega) | fail)) only [go_sem, p2, p8, g2, gr']
      refine tail (.inr hsz) _ ?_ ?_ ?_
      · simp (maxSteps := 1000000) (disch := (first | omega | (simp only [nx_alloc, nx_upd, len_cons, len_nil, List.length_set, List.length_map, List.length_append] <;> omega) | fail)) only [go_sem, p2]
      · simp (maxSteps := 1000000) (disch := (first | omega | (simp only [nx_alloc, nx_upd, len_cons, len_nil, List.length_set, List.length_map, List.length_append] <;> omega) | fail)) only [go_sem, p3]
      · simp (maxSteps := 1000000) (disch := (first | omega | (simp only [nx_alloc, nx_upd, len_cons, len_nil, List.length_set, List.length_map, List.length_append] <;> omega) | fail)) only [go_sem, p7]
    · have hj4 : j = 4 := by omega
      simp (maxSteps := 1000000) (disch := (first | omega | (simp only [nx_alloc, nx_upd, len_cons, len_nil, List.length_set, List.length_map, List.length_append] <;> omega) | fail)) only [go_sem, p2, p6, p8, g2, gr']
      refine tail (.inl hj4) _ ?_ ?_ ?_
      · simp (maxSteps := 1000000) (disch := (first | omega | (simp only [nx_alloc, nx_upd, len_cons, len_nil, List.length_set, List.length_map, List.length_append] <;> omega) | fail)) only [go_sem, p2]
      · simp (maxSteps := 1000000) (disch := (first | omega | (simp only [nx_alloc, nx_upd, len_cons, len_nil, List.length_set, List.length_map, List.length_append] <;> omega) | fail)) only [go_sem, p3]
      · simp (maxSteps := 1000000) (disch := (first | omega | (simp only [nx_alloc, nx_upd, len_cons, len_nil, List.length_set, List.length_map, List.length_append] <;> omega) | fail)) only [go_sem, p7]
theorem Try.enters36 : Enters Try.prog 36 := enters_of Try.func36 rfl (by kernel_rfl)
theorem Try.enters22 : Enters Try.prog 22 := enters_of Try.func22 rfl (by kernel_rfl)
theorem Try.enters24 : Enters Try.prog 24 := enters_of Try.func24 rfl (by kernel_rfl)
theorem Try.enters47 : Enters Try.prog 47 := enters_of Try.func47 rfl (by kernel_rfl)
def endS (s : ByteArray) (k : Nat) : Int := if 8 ≤ 8 * s.size - k ∨ strV s / 2 ^ k ≠ 0 then 42 else 0
set_option maxHeartbeats 1000000 in
theorem rleft_ok (w0 : World) (A : St) (r : Nat) (s : ByteArray) (k : Nat) (hr : A.get r = some (rdB 48 s k)) (hs : s.size ≤ 140737488355328) (hk : k ≤ 8 * s.size) : ACalls Try.prog w0 22 #[.pointer (some ⟨r, 0, none⟩)] A (fin (.int .i64 ((8 * s.size - k : Nat) : Int)) A) := by
  refine call_E Try.enters22 Try.func22 rfl (Nat.le_of_ble_eq_true rfl) fun hw hbd => ?_
  unfold rdB at hr
  simp (maxSteps := 1000000) (disch := (first | omega | (simp only [nx_alloc, nx_upd, len_cons, len_nil, List.length_set, List.length_map, List.length_append] <;> omega) | fail)) only [go_sem, Try.ntmps22, Try.results22]
  have e : (8 : Int) * (s.size : Int) - (k : Int) = ((8 * s.size - k : Nat) : Int) := by omega
  refine aw_draw (by kernel_rfl) ?_
  simp (maxSteps := 1000000) (disch := (first | omega | (simp only [nx_alloc, nx_upd, len_cons, len_nil, List.length_set, List.length_map, List.length_append] <;> omega) | fail)) only [go_sem, hr, e, Try.results22]
  exact gc_fin hw (Over.refl _) (by simp only [bnd_int])
theorem u8_shr (n j : Nat) (hj : j ≤ 8) : ishr .u8 (n : Int) (j : Int) = ((n / 2 ^ j : Nat) : Int) := by
  rw [ishr_eq .u8 _ j (by simp only [IntKind.bits]; omega), Int.natCast_ediv, Int.natCast_pow]; rfl
theorem u8_and1 (n : Nat) (hn : n < 256) : ibits .and .u8 (n : Int) 1 = ((n % 2 : Nat) : Int) := by
  have := and_mask .u8 rfl (n : Int) 1 ⟨by omega, by simp only [IntKind.bits]; omega⟩ (by decide)
  rw [show ((2 : Int) ^ 1 - 1) = 1 from rfl] at this
  rw [this]; rfl
theorem bit_val (V i : Nat) : V / 256 ^ (i / 8) % 256 / 2 ^ (i % 8) % 2 = V / 2 ^ i % 2 := by
  rw [show (256 : Nat) = 2 ^ (i % 8) * 2 ^ (8 - i % 8) by rw [← Nat.pow_add, show i % 8 + (8 - i % 8) = 8 by omega]]
  rw [Nat.mod_mul_right_div_self, show (2 : Nat) ^ (8 - i % 8) = 2 * 2 ^ (7 - i % 8) by rw [← Nat.pow_succ']; congr 1; omega, Nat.mod_mul_right_mod, Nat.div_div_eq_div_mul, ← show (256 : Nat) = 2 ^ (i % 8) * (2 * 2 ^ (7 - i % 8)) by rw [← Nat.pow_succ', ← Nat.pow_add]; rw [show i % 8 + (7 - i % 8 + 1) = 8 by omega], pow256, ← Nat.pow_add, show 8 * (i / 8) + i % 8 = i by omega]
set_option maxHeartbeats 1000000 in
theorem rbit_ok (w0 : World) (A : St) (r : Nat) (s : ByteArray) (k i : Nat) (hr : A.get r = some (rdB 48 s k)) (hs : s.size ≤ 140737488355328) (hi : i < 8 * s.size) : ACalls Try.prog w0 47 #[.pointer (some ⟨r, 0, none⟩), .int .i64 i] A (fin (.int .u32 ((strV s / 2 ^ i % 2 : Nat) : Int)) A) := by
  refine call_E Try.enters47 Try.func47 rfl (Nat.le_of_ble_eq_true rfl) fun hw hbd => ?_
  unfold rdB at hr
  have q1 : Int.tdiv (i : Int) 8 = ((i / 8 : Nat) : Int) := by rw [Int.tdiv_eq_ediv_of_nonneg (by omega)]; omega
  have q2 : Int.tmod (i : Int) 8 = ((i % 8 : Nat) : Int) := by rw [Int.tmod_eq_emod_of_nonneg (by omega)]; omega
  have hb := sbt_byte s (i / 8)
  obtain ⟨b, hbb⟩ := Int.eq_ofNat_of_zero_le hb.1
  have hb256 : b < 256 := by have := hb.2; omega
  have hv := strV_at s (i / 8) (by omega)
  rw [hbb] at hv
  have hval : b / 2 ^ (i % 8) % 2 = strV s / 2 ^ i % 2 := by
    rw [← bit_val (strV s) i, hv]; rfl
  have hlt : b / 2 ^ (i % 8) < 256 := Nat.lt_of_le_of_lt (Nat.div_le_self _ _) hb256
  have h2 : strV s / 2 ^ i % 2 < 2 := Nat.mod_lt _ (by decide)
  simp (maxSteps := 1000000) (disch := (first | omega | (simp only [nx_alloc, nx_upd, len_cons, len_nil, List.length_set, List.length_map, List.length_append] <;> omega) | fail)) only [go_sem, Try.ntmps47, Try.results47, hr, q1, q2, hbb, u8_shr b (i % 8) (by omega), u8_and1 _ hlt, hval]
  exact gc_fin hw (Over.refl _) (by simp only [bnd_int])
set_option maxHeartbeats 4000000 in
theorem end_ok (w0 : World) (A : St) (r : Nat) (s : ByteArray) (k : Nat) (hr : A.get r = some (rdB 70 s k)) (hs : s.size ≤ 140737488355328) (hk : k ≤ 8 * s.size) : ACalls Try.prog w0 24 #[.pointer (some ⟨r, 0, none⟩)] A (fin (.int .i64 (endS s k)) A) := by
  refine call_E Try.enters24 Try.func24 rfl (Nat.le_of_ble_eq_true rfl) fun hw hbd => ?_
  simp (maxSteps := 1000000) (disch := (first | omega | (simp only [nx_alloc, nx_upd, len_cons, len_nil, List.length_set, List.length_map, List.length_append] <;> omega) | fail)) only [go_sem, Try.ntmps24, Try.results24]
  refine call1 (left_ok w0 A r s k hr hs hk) ?_
  unfold rdB at hr
  simp (maxSteps := 1000000) (disch := (first | omega | (simp only [nx_alloc, nx_upd, len_cons, len_nil, List.length_set, List.length_map, List.length_append] <;> omega) | fail)) only [go_sem]
  obtain ⟨n, hn⟩ : ∃ n, n = 8 * s.size - k := ⟨_, rfl⟩
  rw [← hn]
  by_cases h8 : 8 ≤ n
  · refine aw_draw (by kernel_rfl) ?_
    simp (maxSteps := 1000000) (disch := (first | omega | (simp only [nx_alloc, nx_upd, len_cons, len_nil, List.length_set, List.length_map, List.length_append] <;> omega) | fail)) only [go_sem, isBu_t, isBu_f, Try.results24]
    exact gc_fin' hw (Over.refl _) (by unfold endS; rw [if_pos (.inl (by omega))]) (by simp only [bnd_int])
  by_cases h0 : n = 0
  · refine aw_draw (by kernel_rfl) ?_
    simp (maxSteps := 1000000) (disch := (first | omega | (simp only [nx_alloc, nx_upd, len_cons, len_nil, List.length_set, List.length_map, List.length_append] <;> omega) | fail)) only [go_sem, h0, isBu_t, isBu_f, Try.results24]
    refine gc_fin' hw (Over.refl _) ?_ (by simp only [bnd_int])
    unfold endS
    rw [if_neg]
    rintro (h | h)
    · omega
    · exact h (Nat.div_eq_of_lt (Nat.lt_of_lt_of_le (strV_lt s) (Nat.pow_le_pow_right (by decide) (by omega))))
  · have hb := sbt_byte s (s.size - 1)
    obtain ⟨b, hbb⟩ := Int.eq_ofNat_of_zero_le hb.1
    have hb256 : b < 256 := by have := hb.2; omega
    have hv := strV_at s (s.size - 1) (by omega)
    rw [hbb] at hv
    have e1 : (s.size : Int) - 1 = ((s.size - 1 : Nat) : Int) := by omega
    have e2 : (8 : Int) - (n : Int) = ((8 - n : Nat) : Int) := by omega
    have hval : b / 2 ^ (8 - n) = strV s / 2 ^ k := by
      have hlt : strV s / 256 ^ (s.size - 1) < 256 := by
        apply Nat.div_lt_of_lt_mul
        rw [← Nat.pow_succ, pow256]
        exact Nat.lt_of_lt_of_le (strV_lt s) (Nat.pow_le_pow_right (by decide) (by omega))
      rw [Nat.mod_eq_of_lt hlt] at hv
      have hv' : strV s / 256 ^ (s.size - 1) = b := hv
      rw [← hv', Nat.div_div_eq_div_mul, pow256, ← Nat.pow_add, show 8 * (s.size - 1) + (8 - n) = k by omega]
    refine aw_draw (by kernel_rfl) ?_
    simp (maxSteps := 1000000) (disch := (first | omega | (simp only [nx_alloc, nx_upd, len_cons, len_nil, List.length_set, List.length_map, List.length_append] <;> omega) | fail)) only [go_sem, hr, e1, e2, hbb, u8_shr b (8 - n) (by omega), hval]
    refine ifB_dec (fun hz => ?_) (fun hz => ?_)
    · simp (maxSteps := 1000000) (disch := (first | omega | (simp only [nx_alloc, nx_upd, len_cons, len_nil, List.length_set, List.length_map, List.length_append] <;> omega) | fail)) only [go_sem, Try.results24]
      exact gc_fin' hw (Over.refl _) (by unfold endS; rw [if_pos (.inr (by omega))]) (by simp only [bnd_int])
    · simp (maxSteps := 1000000) (disch := (first | omega | (simp only [nx_alloc, nx_upd, len_cons, len_nil, List.length_set, List.length_map, List.length_append] <;> omega) | fail)) only [go_sem, Try.results24]
      exact gc_fin' hw (Over.refl _) (by unfold endS; rw [if_neg (by omega)]) (by simp only [bnd_int])
theorem u32_shl (b k : Nat) (hk : k < 24) (hb : b < 2) : ishl .u32 (b : Int) (k : Int) = ((b * 2 ^ k : Nat) : Int) := by
  have hp : 2 ^ k ≤ 2 ^ 23 := Nat.pow_le_pow_right (by decide) (by omega)
  have h : b * 2 ^ k ≤ 1 * 2 ^ 23 := Nat.mul_le_mul (by omega) hp
  have e : ((b * 2 ^ k : Nat) : Int) = (b : Int) * 2 ^ k := by rw [Int.natCast_mul, Int.natCast_pow]; rfl
  rw [ishl_eq .u32 rfl (b : Int) k (by simp only [IntKind.bits]; omega) (by omega) (by rw [← e]; simp only [IntKind.bits]; omega), e]
theorem u32_or (h b k : Nat) (hk : k < 24) (hb : b < 2) (hh : h < 2 ^ k) : ibits .or .u32 (h : Int) ((b * 2 ^ k : Nat) : Int) = ((h + b * 2 ^ k : Nat) : Int) := by
  have hp : 2 ^ k ≤ 2 ^ 23 := Nat.pow_le_pow_right (by decide) (by omega)
  have h1 : b * 2 ^ k ≤ 1 * 2 ^ 23 := Nat.mul_le_mul (by omega) hp
  have e : ((b * 2 ^ k : Nat) : Int) = (b : Int) * 2 ^ k := by rw [Int.natCast_mul, Int.natCast_pow]; rfl
  have hh' : (h : Int) < 2 ^ k := by rw [show ((2 : Int) ^ k) = ((2 ^ k : Nat) : Int) by rw [Int.natCast_pow]; rfl]; exact Int.ofNat_lt.2 hh
  rw [e, or_add .u32 rfl (h : Int) (b : Int) k (by omega) hh' (by omega) (by rw [← e]; simp only [IntKind.bits]; omega), Int.natCast_add, e]
theorem mod_succ (V k i : Nat) : V / 2 ^ k % 2 ^ (i + 1) = V / 2 ^ k % 2 ^ i + V / 2 ^ (k + i) % 2 * 2 ^ i := by
  rw [Nat.pow_succ, Nat.mod_mul, Nat.div_div_eq_div_mul, ← Nat.pow_add, Nat.mul_comm (2 ^ i)]
set_option maxHeartbeats 4000000 in
theorem brtake_ok (w0 : World) (A : St) (r : Nat) (s : ByteArray) (k : Nat) (w : Int) (hr : A.get r = some (rdB 48 s k)) (hs : s.size ≤ 140737488355328) (hk : k ≤ 8 * s.size) :
    ACalls Try.prog w0 36 #[.pointer (some ⟨r, 0, none⟩), .int .i64 w] A (fin (.tuple #[.int .u32 (takeS s k w).1, .int .i64 (takeS s k w).2.1]) (A.upd r (some (rdB 48 s (takeS s k w).2.2)))) := by
  refine call_E Try.enters36 Try.func36 rfl (Nat.le_of_ble_eq_true rfl) fun hw hbd => ?_
  have hrn : r < A.next := (hw r _ hr).1
  have hbnd : ∀ v ∈ ([.string s, .int .i64 (takeS s k w).2.2] : List Value), Bnd A.next v := by
    intro v hv
    simp only [List.mem_cons, List.not_mem_nil, or_false] at hv
    rcases hv with rfl | rfl
    · exact .string _
    · exact .int _ _
  simp (maxSteps := 1000000) (disch := (first | omega | (simp only [nx_alloc, nx_upd, len_cons, len_nil, List.length_set, List.length_map, List.length_append] <;> omega) | fail)) only [go_sem, Try.ntmps36, Try.results36]
  by_cases h1 : w < 0
  · simp (maxSteps := 1000000) (disch := (first | omega | (simp only [nx_alloc, nx_upd, len_cons, len_nil, List.length_set, List.length_map, List.length_append] <;> omega) | fail)) only [go_sem, Try.results36]
    exact gc_upd hw hrn hbnd (over_upd (by simp) (by rw [show (takeS s k w).2.2 = k by unfold takeS; rw [if_pos (.inl h1)]]; exact hr) (fun b q1 q2 => rfl)) (by unfold takeS; rw [if_pos (.inl h1)]) (bnd_takeS _ _ _ _)
  by_cases h2 : 24 < w
  · simp (maxSteps := 1000000) (disch := (first | omega | (simp only [nx_alloc, nx_upd, len_cons, len_nil, List.length_set, List.length_map, List.length_append] <;> omega) | fail)) only [go_sem, Try.results36]
    exact gc_upd hw hrn hbnd (over_upd (by simp) (by rw [show (takeS s k w).2.2 = k by unfold takeS; rw [if_pos (.inr h2)]]; exact hr) (fun b q1 q2 => rfl)) (by unfold takeS; rw [if_pos (.inr h2)]) (bnd_takeS _ _ _ _)
  obtain ⟨wd, rfl⟩ := Int.eq_ofNat_of_zero_le (a := w) (by omega)
  simp (maxSteps := 1000000) (disch := (first | omega | (simp only [nx_alloc, nx_upd, len_cons, len_nil, List.length_set, List.length_map, List.length_append] <;> omega) | fail)) only [go_sem]
  refine call1 (rleft_ok w0 A r s k hr hs hk) ?_
  simp (maxSteps := 1000000) (disch := (first | omega | (simp only [nx_alloc, nx_upd, len_cons, len_nil, List.length_set, List.length_map, List.length_append] <;> omega) | fail)) only [go_sem]
  refine ifB_dec (fun h3 => ?_) (fun h3 => ?_)
  · simp (maxSteps := 1000000) (disch := (first | omega | (simp only [nx_alloc, nx_upd, len_cons, len_nil, List.length_set, List.length_map, List.length_append] <;> omega) | fail)) only [go_sem, Try.results36]
    have ht : takeS s k (wd : Int) = (0, 40, k) := by unfold takeS; rw [if_neg (by omega), if_pos (by omega)]
    exact gc_upd hw hrn hbnd (over_upd (by omega) (by rw [ht]; exact hr) (fun b q1 q2 => rfl)) (by rw [ht]) (bnd_takeS _ _ _ _)
  have ht : takeS s k (wd : Int) = (((strV s / 2 ^ k % 2 ^ wd : Nat) : Int), 0, k + wd) := by unfold takeS; rw [if_neg (by omega), if_neg (by omega)]; rfl
  have gr := hr
  unfold rdB at gr
  simp (maxSteps := 1000000) (disch := (first | omega | (simp only [nx_alloc, nx_upd, len_cons, len_nil, List.length_set, List.length_map, List.length_append] <;> omega) | fail)) only [go_sem]
  refine aw_loop (fun m a A' => ∃ (ρ : Nat → Value) (i : Nat), a = E 45 ρ [] ∧ m = wd - i ∧ i ≤ wd ∧ A' = A ∧ ρ 0 = .pointer (some ⟨r, 0, none⟩) ∧ ρ 1 = .int .i64 wd ∧ ρ 6 = .int .u32 (strV s / 2 ^ k % 2 ^ i : Nat) ∧ ρ 7 = .int .i64 i) wd
    ⟨_, 0, rfl, rfl, by omega, rfl, rfl, rfl, ?_, rfl⟩ ?_
  · simp (maxSteps := 1000000) (disch := (first | omega | (simp only [nx_alloc, nx_upd, len_cons, len_nil, List.length_set, List.length_map, List.length_append] <;> omega) | fail)) only [go_sem]
    simp [Nat.mod_one]
  rintro m a A' ⟨ρ, i, rfl, rfl, hi, rfl, p0, p1, p6, p7⟩
  refine aw_of ?_
  simp (maxSteps := 1000000) (disch := (first | omega | (simp only [nx_alloc, nx_upd, len_cons, len_nil, List.length_set, List.length_map, List.length_append] <;> omega) | fail)) only [go_sem, p1, p7]
  refine ifB_dec (fun hlt => ?_) (fun hlt => ?_)
  · have e1 : (k : Int) + (i : Int) = ((k + i : Nat) : Int) := by omega
    simp (maxSteps := 1000000) (disch := (first | omega | (simp only [nx_alloc, nx_upd, len_cons, len_nil, List.length_set, List.length_map, List.length_append] <;> omega) | fail)) only [go_sem, p0, p6, p7, gr, e1]
    refine call1 (rbit_ok w0 A' r s k (k + i) hr hs (by omega)) ?_
    have hb : strV s / 2 ^ (k + i) % 2 < 2 := Nat.mod_lt _ (by decide)
    have hn : strV s / 2 ^ k % 2 ^ i < 2 ^ i := Nat.mod_lt _ (Nat.two_pow_pos _)
    simp (maxSteps := 1000000) (disch := (first | omega | (simp only [nx_alloc, nx_upd, len_cons, len_nil, List.length_set, List.length_map, List.length_append] <;> omega) | fail)) only [go_sem, p7, u32_shl _ i (by omega) hb, u32_or _ _ i (by omega) hb hn]
    refine ⟨wd - (i + 1), by omega, _, i + 1, rfl, rfl, by omega, ?_, ?_, ?_, ?_⟩
    · simp (maxSteps := 1000000) (disch := (first | omega | (simp only [nx_alloc, nx_upd, len_cons, len_nil, List.length_set, List.length_map, List.length_append] <;> omega) | fail)) only [go_sem, p0]
    · simp (maxSteps := 1000000) (disch := (first | omega | (simp only [nx_alloc, nx_upd, len_cons, len_nil, List.length_set, List.length_map, List.length_append] <;> omega) | fail)) only [go_sem, p1]
    · simp (maxSteps := 1000000) (disch := (first | omega | (simp only [nx_alloc, nx_upd, len_cons, len_nil, List.length_set, List.length_map, List.length_append] <;> omega) | fail)) only [go_sem]
      rw [mod_succ]
    · simp (maxSteps := 1000000) (disch := (first | omega | (simp only [nx_alloc, nx_upd, len_cons, len_nil, List.length_set, List.length_map, List.length_append] <;> omega) | fail)) only [go_sem]
      rfl
  · have hiw : i = wd := by omega
    subst hiw
    have e1 : (k : Int) + (i : Int) = ((k + i : Nat) : Int) := by omega
    simp (maxSteps := 1000000) (disch := (first | omega | (simp only [nx_alloc, nx_upd, len_cons, len_nil, List.length_set, List.length_map, List.length_append] <;> omega) | fail)) only [go_sem, p0, p1, p6, gr, e1, Try.results36]
    rw [ht]
    refine gc_upd hw hrn (by rw [ht] at hbnd; exact hbnd) (over_upd (by simp) (by simp (disch := (first | omega | (simp only [nx_alloc, nx_upd, len_cons, len_nil, List.length_set, List.length_map, List.length_append] <;> omega) | fail)) only [St.get_upd, St.get_alloc, St.next_alloc, St.next_upd, ↓reduceIte, natF_lt, natF_gt, natF_ne, Nat.add_assoc, Nat.reduceAdd, Nat.reduceEqDiff, Nat.add_left_cancel_iff]) (fun b q1 q2 => by simp (disch := (first | omega | (simp only [nx_alloc, nx_upd, len_cons, len_nil, List.length_set, List.length_map, List.length_append] <;> omega) | fail)) only [St.get_upd, St.get_alloc, St.next_alloc, St.next_upd, ↓reduceIte, natF_lt, natF_gt, natF_ne, Nat.add_assoc, Nat.reduceAdd, Nat.reduceEqDiff, Nat.add_left_cancel_iff])) rfl ?_
    have := bnd_takeS A'.next s k i
    rwa [ht] at this
end Go.Fw
