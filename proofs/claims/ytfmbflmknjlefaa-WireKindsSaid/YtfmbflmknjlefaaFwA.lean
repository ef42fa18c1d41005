import Derived.Test.YtfmbflmknjlefaaFwWire14
set_option linter.unusedSimpArgs false
set_option linter.unusedVariables false
set_option maxRecDepth 4000
namespace Go.Fw
open Go.Proofs Go.RowKit
theorem Try.enters4 : Enters Try.prog 4 := enters_of Try.func4 rfl (by kernel_rfl)
theorem Try.enters13 : Enters Try.prog 13 := enters_of Try.func13 rfl (by kernel_rfl)
theorem endB_false {x : Int} (h0 : ¬ x = 0) (h1 : ¬ x = 1) (h2 : ¬ x = 2) (h3 : ¬ x = 10) (h4 : ¬ x = 11) (h5 : ¬ x = 12) : endB x = false := by
  unfold endB cliB
  rw [decide_eq_false (by omega), decide_eq_false (by omega)]; rfl
set_option maxHeartbeats 2000000 in
theorem kend_ok (w0 : World) (A : St) (x : Int) : ACalls Try.prog w0 13 #[.int .i64 x] A (fin (.bool (endB x)) A) := by
  refine call_E Try.enters13 Try.func13 rfl (Nat.le_of_ble_eq_true rfl) fun hw hbd => ?_
  by_cases h0 : x = 0
  · subst h0
    simp (maxSteps := 1000000) (disch := (first | omega | (simp only [nx_alloc, nx_upd, len_cons, len_nil, List.length_set, List.length_map, List.length_append] <;> omega) | fail)) only [go_sem, Try.ntmps13, Try.results13]
    exact gc_fin' hw (Over.refl _) rfl (.bool _)
  by_cases h1 : x = 1
  · subst h1
    simp (maxSteps := 1000000) (disch := (first | omega | (simp only [nx_alloc, nx_upd, len_cons, len_nil, List.length_set, List.length_map, List.length_append] <;> omega) | fail)) only [go_sem, Try.ntmps13, Try.results13]
    exact gc_fin' hw (Over.refl _) rfl (.bool _)
  by_cases h2 : x = 2
  · subst h2
    simp (maxSteps := 1000000) (disch := (first | omega | (simp only [nx_alloc, nx_upd, len_cons, len_nil, List.length_set, List.length_map, List.length_append] <;> omega) | fail)) only [go_sem, Try.ntmps13, Try.results13]
    exact gc_fin' hw (Over.refl _) rfl (.bool _)
  by_cases h3 : x = 10
  · subst h3
    simp (maxSteps := 1000000) (disch := (first | omega | (simp only [nx_alloc, nx_upd, len_cons, len_nil, List.length_set, List.length_map, List.length_append] <;> omega) | fail)) only [go_sem, Try.ntmps13, Try.results13]
    exact gc_fin' hw (Over.refl _) rfl (.bool _)
  by_cases h4 : x = 11
  · subst h4
    simp (maxSteps := 1000000) (disch := (first | omega | (simp only [nx_alloc, nx_upd, len_cons, len_nil, List.length_set, List.length_map, List.length_append] <;> omega) | fail)) only [go_sem, Try.ntmps13, Try.results13]
    exact gc_fin' hw (Over.refl _) rfl (.bool _)
  by_cases h5 : x = 12
  · subst h5
    simp (maxSteps := 1000000) (disch := (first | omega | (simp only [nx_alloc, nx_upd, len_cons, len_nil, List.length_set, List.length_map, List.length_append] <;> omega) | fail)) only [go_sem, Try.ntmps13, Try.results13]
    exact gc_fin' hw (Over.refl _) rfl (.bool _)
  simp (maxSteps := 1000000) (disch := (first | omega | (simp only [nx_alloc, nx_upd, len_cons, len_nil, List.length_set, List.length_map, List.length_append] <;> omega) | fail)) only [go_sem, Try.ntmps13, Try.results13, h0, h1, h2, h3, h4, h5]
  exact gc_fin' hw (Over.refl _) (by rw [endB_false h0 h1 h2 h3 h4 h5]) (.bool _)
def msgK (k f t n c l : Int) : MsgT := ⟨k, f, t, 0, 0, n, c, [], l, 0, ⟨0, [], verN⟩, zeroH, ByteArray.empty⟩
theorem msgK_c (A : St) (k f t n c l : Int) : MsgC A (msgK k f t n c l) (.int .i64 k :: .int .i64 f :: .int .i64 t :: .int .u32 0 :: .int .u32 0 :: .int .i64 n :: .int .i64 c :: .slice none 0 0 :: .int .i64 l :: .int .u32 0 :: .int .i64 0 :: .slice none 0 0 :: .int .u32 0 :: .slice none 0 0 :: .slice none 0 0 :: .slice none 0 0 :: (hsC zeroH ++ [.string ByteArray.empty])) := ⟨_, _, _, _, _, rfl, RqV.nil A, View.nil .., View.nil .., View.nil .., View.nil ..⟩
theorem msgK_build (k f t n c l : Int) : abuild Try.prog 45 #[(0, .int .i64 k), (1, .int .i64 f), (2, .int .i64 t), (5, .int .i64 n), (6, .int .i64 c), (8, .int .i64 l)] = some (.agg (.int .i64 k :: .int .i64 f :: .int .i64 t :: .int .u32 0 :: .int .u32 0 :: .int .i64 n :: .int .i64 c :: .slice none 0 0 :: .int .i64 l :: .int .u32 0 :: .int .i64 0 :: .slice none 0 0 :: .int .u32 0 :: .slice none 0 0 :: .slice none 0 0 :: .slice none 0 0 :: (hsC zeroH ++ [.string ByteArray.empty]) : List Value).toArray) := by kernel_rfl
theorem mayB_verN : mayB verN = true := by kernel_rfl
theorem msgK_may (k f t n c l : Int) : mayM (msgK k f t n c l) = (decide (1 ≤ k) && decide (k ≤ 14) && endB f && endB t && decide (0 ≤ n) && decide (n ≤ 40) && decide (0 ≤ c) && decide (c ≤ 40) && decide (0 ≤ l) && decide (l ≤ 2)) := by
  have e3 : decide (0 ≤ l ∧ l < 3) = (decide (0 ≤ l) && decide (l ≤ 2)) := by
    rw [Bool.decide_and, show decide (l < 3) = decide (l ≤ 2) from decide_eq_decide.2 (by omega)]
  have ez : decide (0 ≤ ((0 : Nat) : Int) ∧ ((0 : Nat) : Int) ≤ 40) = true := rfl
  have ey : decide ((ByteArray.empty).size ≤ 1000) = true := rfl
  unfold mayM msgK opsB cliB
  simp only [mayB_verN, List.length_nil, List.all_nil, Bool.and_true, ez, ey, e3, Bool.decide_and, Bool.and_assoc]
  simp
theorem encM_pos (m : MsgT) : 0 < (strOfNums (encM m)).size := by
  have h1 : (enc1 m).length = 11 := by unfold enc1; simp only [List.length_append, onesL_len, bigL_length, List.length_cons, List.length_nil]
  rw [str_size]
  unfold encM enc5 enc4 enc3 enc2
  simp only [List.length_append]
  omega
set_option maxHeartbeats 16000000 in
theorem kinds_walk (w0 : World) (A : St) (k f t n c l : Int) (i1 : i64Ok k) (i2 : i64Ok f) (i3 : i64Ok t) (i4 : i64Ok n) (i5 : i64Ok c) (i6 : i64Ok l) : ACalls Try.prog w0 4 #[.int .i64 k, .int .i64 f, .int .i64 t, .int .i64 n, .int .i64 c, .int .i64 l] A (fin (.bool true) A) := by
  refine call_E Try.enters4 Try.func4 rfl (Nat.le_of_ble_eq_true rfl) fun hw hbd => ?_
  have hb := msgK_build k f t n c l
  have hmc := fun A => msgK_c A k f t n c l
  have hml := (hmc A).len
  have hcell := (hmc A).cell
  have hst := fun (X : St) (b : Nat) (z : List Value) (hz : z.length = 49) => stN (n := 49) (X := X) (b := b) (z := z) (e := 45) hz hml hcell
  have hld := fun e' m => ldN (n := 49) (e := e') (m := m) hml
  have hsm : (msgK k f t n c l).small := ⟨fun r h => (by cases h), verN_small, Nat.zero_le _, Nat.zero_le _, Nat.zero_le _⟩
  have u0 : (0 : Int) ≤ 0 ∧ (0 : Int) < 4294967296 := by decide
  have hok : (msgK k f t n c l).okA := ⟨i1, i2, i3, u0, u0, i4, i5, fun r h => (by cases h), u0, fun r h => (by cases h), ⟨u0.1, u0.2, fun h hh => (by cases hh)⟩, fun x hx => by
      have : x = 0 := List.eq_of_mem_replicate hx
      subst this; exact ⟨by decide, by decide⟩⟩
  have hmay := msgK_may k f t n c l
  generalize hL : (.int .i64 k :: .int .i64 f :: .int .i64 t :: .int .u32 0 :: .int .u32 0 :: .int .i64 n :: .int .i64 c :: .slice none 0 0 :: .int .i64 l :: .int .u32 0 :: .int .i64 0 :: .slice none 0 0 :: .int .u32 0 :: .slice none 0 0 :: .slice none 0 0 :: .slice none 0 0 :: (hsC zeroH ++ [.string ByteArray.empty]) : List Value) = L at *
  have henc := fun A => wenc_ok w0 A _ L (hmc A) hsm hok
  have hmm := fun A => wmay_ok w0 A _ L (hmc A) hsm i2 i3
  have hpos := encM_pos (msgK k f t n c l)
  generalize msgK k f t n c l = m at *
  simp (maxSteps := 1000000) (disch := (first | omega | (simp only [nx_alloc, nx_upd, len_cons, len_nil, List.length_set, List.length_map, List.length_append] <;> omega) | fail)) only [go_sem, Try.ntmps4, hb, hst]
  obtain ⟨A1, hA1⟩ : ∃ A1, A1 = (A.alloc (.cells [.int .i64 0, .int .i64 0, .int .i64 0, .int .u32 0, .int .u32 0, .int .i64 0, .int .i64 0, .slice none 0 0, .int .i64 0, .int .u32 0, .int .i64 0, .slice none 0 0, .int .u32 0, .slice none 0 0, .slice none 0 0, .slice none 0 0, .int .u8 0, .int .u8 0, .int .u8 0, .int .u8 0, .int .u8 0, .int .u8 0, .int .u8 0, .int .u8 0, .int .u8 0, .int .u8 0, .int .u8 0, .int .u8 0, .int .u8 0, .int .u8 0, .int .u8 0, .int .u8 0, .int .u8 0, .int .u8 0, .int .u8 0, .int .u8 0, .int .u8 0, .int .u8 0, .int .u8 0, .int .u8 0, .int .u8 0, .int .u8 0, .int .u8 0, .int .u8 0, .int .u8 0, .int .u8 0, .int .u8 0, .int .u8 0, .string ByteArray.empty] 45 (some 0))).upd A.next (some (.cells L 45 (some 0))) := ⟨_, rfl⟩
  have o1 : Over A A1 := hA1 ▸ ((Over.refl A).alloc _).upd (Nat.le_refl _) _
  have g1 : A1.get A.next = some (.cells L 45 (some 0)) := by rw [hA1]; exact get_upd_same ..
  rw [← hA1]
  have empty_size : ByteArray.empty.size = 0 := rfl
  clear hst hA1
  by_cases b0 : 1 ≤ k
  rotate_left
  · simp (maxSteps := 1000000) (disch := (first | omega | (simp only [nx_alloc, nx_upd, len_cons, len_nil, List.length_set, List.length_map, List.length_append] <;> omega) | fail)) only [go_sem, b0, g1, hld]
    have hmv : mayM m = false := by rw [hmay]; simp [b0]
    have he : encB m = (ByteArray.empty, 1) := if_neg (by rw [hmv]; simp)
    have he1 := henc A1
    rw [he] at he1
    have hm1 := hmm A1
    rw [hmv] at hm1
    refine call1 he1 ?_
    unfold strIntV
    simp (maxSteps := 1000000) (disch := (first | omega | (simp only [nx_alloc, nx_upd, len_cons, len_nil, List.length_set, List.length_map, List.length_append] <;> omega) | fail)) only [go_sem, hld, g1]
    refine call1 hm1 ?_
    simp (maxSteps := 1000000) (disch := (first | omega | (simp only [nx_alloc, nx_upd, len_cons, len_nil, List.length_set, List.length_map, List.length_append] <;> omega) | fail)) only [go_sem, beq_emptyS, empty_size]
    refine call1 (shown18_ok w0 A1) ?_
    simp (maxSteps := 1000000) (disch := (first | omega | (simp only [nx_alloc, nx_upd, len_cons, len_nil, List.length_set, List.length_map, List.length_append] <;> omega) | fail)) only [go_sem, Try.results4]
    exact gc_fin hw o1 (.bool _)
  simp (maxSteps := 1000000) (disch := (first | omega | (simp only [nx_alloc, nx_upd, len_cons, len_nil, List.length_set, List.length_map, List.length_append] <;> omega) | fail)) only [go_sem, b0, g1, hld]
  by_cases b1 : k ≤ 14
  rotate_left
  · simp (maxSteps := 1000000) (disch := (first | omega | (simp only [nx_alloc, nx_upd, len_cons, len_nil, List.length_set, List.length_map, List.length_append] <;> omega) | fail)) only [go_sem, b1, g1, hld]
    have hmv : mayM m = false := by rw [hmay]; simp [b0, b1]
    have he : encB m = (ByteArray.empty, 1) := if_neg (by rw [hmv]; simp)
    have he1 := henc A1
    rw [he] at he1
    have hm1 := hmm A1
    rw [hmv] at hm1
    refine call1 he1 ?_
    unfold strIntV
    simp (maxSteps := 1000000) (disch := (first | omega | (simp only [nx_alloc, nx_upd, len_cons, len_nil, List.length_set, List.length_map, List.length_append] <;> omega) | fail)) only [go_sem, hld, g1]
    refine call1 hm1 ?_
    simp (maxSteps := 1000000) (disch := (first | omega | (simp only [nx_alloc, nx_upd, len_cons, len_nil, List.length_set, List.length_map, List.length_append] <;> omega) | fail)) only [go_sem, beq_emptyS, empty_size]
    refine call1 (shown18_ok w0 A1) ?_
    simp (maxSteps := 1000000) (disch := (first | omega | (simp only [nx_alloc, nx_upd, len_cons, len_nil, List.length_set, List.length_map, List.length_append] <;> omega) | fail)) only [go_sem, Try.results4]
    exact gc_fin hw o1 (.bool _)
  simp (maxSteps := 1000000) (disch := (first | omega | (simp only [nx_alloc, nx_upd, len_cons, len_nil, List.length_set, List.length_map, List.length_append] <;> omega) | fail)) only [go_sem, b1, g1, hld]
  refine call1 (kend_ok w0 A1 f) ?_
  cases b2 : endB f
  · simp (maxSteps := 1000000) (disch := (first | omega | (simp only [nx_alloc, nx_upd, len_cons, len_nil, List.length_set, List.length_map, List.length_append] <;> omega) | fail)) only [go_sem, g1, hld]
    have hmv : mayM m = false := by rw [hmay]; simp [b0, b1, b2]
    have he : encB m = (ByteArray.empty, 1) := if_neg (by rw [hmv]; simp)
    have he1 := henc A1
    rw [he] at he1
    have hm1 := hmm A1
    rw [hmv] at hm1
    refine call1 he1 ?_
    unfold strIntV
    simp (maxSteps := 1000000) (disch := (first | omega | (simp only [nx_alloc, nx_upd, len_cons, len_nil, List.length_set, List.length_map, List.length_append] <;> omega) | fail)) only [go_sem, hld, g1]
    refine call1 hm1 ?_
    simp (maxSteps := 1000000) (disch := (first | omega | (simp only [nx_alloc, nx_upd, len_cons, len_nil, List.length_set, List.length_map, List.length_append] <;> omega) | fail)) only [go_sem, beq_emptyS, empty_size]
    refine call1 (shown18_ok w0 A1) ?_
    simp (maxSteps := 1000000) (disch := (first | omega | (simp only [nx_alloc, nx_upd, len_cons, len_nil, List.length_set, List.length_map, List.length_append] <;> omega) | fail)) only [go_sem, Try.results4]
    exact gc_fin hw o1 (.bool _)
  simp (maxSteps := 1000000) (disch := (first | omega | (simp only [nx_alloc, nx_upd, len_cons, len_nil, List.length_set, List.length_map, List.length_append] <;> omega) | fail)) only [go_sem, g1, hld]
  refine call1 (kend_ok w0 A1 t) ?_
  cases b3 : endB t
  · simp (maxSteps := 1000000) (disch := (first | omega | (simp only [nx_alloc, nx_upd, len_cons, len_nil, List.length_set, List.length_map, List.length_append] <;> omega) | fail)) only [go_sem, g1, hld]
    have hmv : mayM m = false := by rw [hmay]; simp [b0, b1, b2, b3]
    have he : encB m = (ByteArray.empty, 1) := if_neg (by rw [hmv]; simp)
    have he1 := henc A1
    rw [he] at he1
    have hm1 := hmm A1
    rw [hmv] at hm1
    refine call1 he1 ?_
    unfold strIntV
    simp (maxSteps := 1000000) (disch := (first | omega | (simp only [nx_alloc, nx_upd, len_cons, len_nil, List.length_set, List.length_map, List.length_append] <;> omega) | fail)) only [go_sem, hld, g1]
    refine call1 hm1 ?_
    simp (maxSteps := 1000000) (disch := (first | omega | (simp only [nx_alloc, nx_upd, len_cons, len_nil, List.length_set, List.length_map, List.length_append] <;> omega) | fail)) only [go_sem, beq_emptyS, empty_size]
    refine call1 (shown18_ok w0 A1) ?_
    simp (maxSteps := 1000000) (disch := (first | omega | (simp only [nx_alloc, nx_upd, len_cons, len_nil, List.length_set, List.length_map, List.length_append] <;> omega) | fail)) only [go_sem, Try.results4]
    exact gc_fin hw o1 (.bool _)
  simp (maxSteps := 1000000) (disch := (first | omega | (simp only [nx_alloc, nx_upd, len_cons, len_nil, List.length_set, List.length_map, List.length_append] <;> omega) | fail)) only [go_sem, g1, hld]
  by_cases b4 : 0 ≤ n
  rotate_left
  · simp (maxSteps := 1000000) (disch := (first | omega | (simp only [nx_alloc, nx_upd, len_cons, len_nil, List.length_set, List.length_map, List.length_append] <;> omega) | fail)) only [go_sem, b4, g1, hld]
    have hmv : mayM m = false := by rw [hmay]; simp [b0, b1, b2, b3, b4]
    have he : encB m = (ByteArray.empty, 1) := if_neg (by rw [hmv]; simp)
    have he1 := henc A1
    rw [he] at he1
    have hm1 := hmm A1
    rw [hmv] at hm1
    refine call1 he1 ?_
    unfold strIntV
    simp (maxSteps := 1000000) (disch := (first | omega | (simp only [nx_alloc, nx_upd, len_cons, len_nil, List.length_set, List.length_map, List.length_append] <;> omega) | fail)) only [go_sem, hld, g1]
    refine call1 hm1 ?_
    simp (maxSteps := 1000000) (disch := (first | omega | (simp only [nx_alloc, nx_upd, len_cons, len_nil, List.length_set, List.length_map, List.length_append] <;> omega) | fail)) only [go_sem, beq_emptyS, empty_size]
    refine call1 (shown18_ok w0 A1) ?_
    simp (maxSteps := 1000000) (disch := (first | omega | (simp only [nx_alloc, nx_upd, len_cons, len_nil, List.length_set, List.length_map, List.length_append] <;> omega) | fail)) only [go_sem, Try.results4]
    exact gc_fin hw o1 (.bool _)
  simp (maxSteps := 1000000) (disch := (first | omega | (simp only [nx_alloc, nx_upd, len_cons, len_nil, List.length_set, List.length_map, List.length_append] <;> omega) | fail)) only [go_sem, b4, g1, hld]
  by_cases b5 : n ≤ 40
  rotate_left
  · simp (maxSteps := 1000000) (disch := (first | omega | (simp only [nx_alloc, nx_upd, len_cons, len_nil, List.length_set, List.length_map, List.length_append] <;> omega) | fail)) only [go_sem, b5, g1, hld]
    have hmv : mayM m = false := by rw [hmay]; simp [b0, b1, b2, b3, b4, b5]
    have he : encB m = (ByteArray.empty, 1) := if_neg (by rw [hmv]; simp)
    have he1 := henc A1
    rw [he] at he1
    have hm1 := hmm A1
    rw [hmv] at hm1
    refine call1 he1 ?_
    unfold strIntV
    simp (maxSteps := 1000000) (disch := (first | omega | (simp only [nx_alloc, nx_upd, len_cons, len_nil, List.length_set, List.length_map, List.length_append] <;> omega) | fail)) only [go_sem, hld, g1]
    refine call1 hm1 ?_
    simp (maxSteps := 1000000) (disch := (first | omega | (simp only [nx_alloc, nx_upd, len_cons, len_nil, List.length_set, List.length_map, List.length_append] <;> omega) | fail)) only [go_sem, beq_emptyS, empty_size]
    refine call1 (shown18_ok w0 A1) ?_
    simp (maxSteps := 1000000) (disch := (first | omega | (simp only [nx_alloc, nx_upd, len_cons, len_nil, List.length_set, List.length_map, List.length_append] <;> omega) | fail)) only [go_sem, Try.results4]
    exact gc_fin hw o1 (.bool _)
  simp (maxSteps := 1000000) (disch := (first | omega | (simp only [nx_alloc, nx_upd, len_cons, len_nil, List.length_set, List.length_map, List.length_append] <;> omega) | fail)) only [go_sem, b5, g1, hld]
  by_cases b6 : 0 ≤ c
  rotate_left
  · simp (maxSteps := 1000000) (disch := (first | omega | (simp only [nx_alloc, nx_upd, len_cons, len_nil, List.length_set, List.length_map, List.length_append] <;> omega) | fail)) only [go_sem, b6, g1, hld]
    have hmv : mayM m = false := by rw [hmay]; simp [b0, b1, b2, b3, b4, b5, b6]
    have he : encB m = (ByteArray.empty, 1) := if_neg (by rw [hmv]; simp)
    have he1 := henc A1
    rw [he] at he1
    have hm1 := hmm A1
    rw [hmv] at hm1
    refine call1 he1 ?_
    unfold strIntV
    simp (maxSteps := 1000000) (disch := (first | omega | (simp only [nx_alloc, nx_upd, len_cons, len_nil, List.length_set, List.length_map, List.length_append] <;> omega) | fail)) only [go_sem, hld, g1]
    refine call1 hm1 ?_
    simp (maxSteps := 1000000) (disch := (first | omega | (simp only [nx_alloc, nx_upd, len_cons, len_nil, List.length_set, List.length_map, List.length_append] <;> omega) | fail)) only [go_sem, beq_emptyS, empty_size]
    refine call1 (shown18_ok w0 A1) ?_
    simp (maxSteps := 1000000) (disch := (first | omega | (simp only [nx_alloc, nx_upd, len_cons, len_nil, List.length_set, List.length_map, List.length_append] <;> omega) | fail)) only [go_sem, Try.results4]
    exact gc_fin hw o1 (.bool _)
  simp (maxSteps := 1000000) (disch := (first | omega | (simp only [nx_alloc, nx_upd, len_cons, len_nil, List.length_set, List.length_map, List.length_append] <;> omega) | fail)) only [go_sem, b6, g1, hld]
  by_cases b7 : c ≤ 40
  rotate_left
  · simp (maxSteps := 1000000) (disch := (first | omega | (simp only [nx_alloc, nx_upd, len_cons, len_nil, List.length_set, List.length_map, List.length_append] <;> omega) | fail)) only [go_sem, b7, g1, hld]
    have hmv : mayM m = false := by rw [hmay]; simp [b0, b1, b2, b3, b4, b5, b6, b7]
    have he : encB m = (ByteArray.empty, 1) := if_neg (by rw [hmv]; simp)
    have he1 := henc A1
    rw [he] at he1
    have hm1 := hmm A1
    rw [hmv] at hm1
    refine call1 he1 ?_
    unfold strIntV
    simp (maxSteps := 1000000) (disch := (first | omega | (simp only [nx_alloc, nx_upd, len_cons, len_nil, List.length_set, List.length_map, List.length_append] <;> omega) | fail)) only [go_sem, hld, g1]
    refine call1 hm1 ?_
    simp (maxSteps := 1000000) (disch := (first | omega | (simp only [nx_alloc, nx_upd, len_cons, len_nil, List.length_set, List.length_map, List.length_append] <;> omega) | fail)) only [go_sem, beq_emptyS, empty_size]
    refine call1 (shown18_ok w0 A1) ?_
    simp (maxSteps := 1000000) (disch := (first | omega | (simp only [nx_alloc, nx_upd, len_cons, len_nil, List.length_set, List.length_map, List.length_append] <;> omega) | fail)) only [go_sem, Try.results4]
    exact gc_fin hw o1 (.bool _)
  simp (maxSteps := 1000000) (disch := (first | omega | (simp only [nx_alloc, nx_upd, len_cons, len_nil, List.length_set, List.length_map, List.length_append] <;> omega) | fail)) only [go_sem, b7, g1, hld]
  by_cases b8 : 0 ≤ l
  rotate_left
  · simp (maxSteps := 1000000) (disch := (first | omega | (simp only [nx_alloc, nx_upd, len_cons, len_nil, List.length_set, List.length_map, List.length_append] <;> omega) | fail)) only [go_sem, b8, g1, hld]
    have hmv : mayM m = false := by rw [hmay]; simp [b0, b1, b2, b3, b4, b5, b6, b7, b8]
    have he : encB m = (ByteArray.empty, 1) := if_neg (by rw [hmv]; simp)
    have he1 := henc A1
    rw [he] at he1
    have hm1 := hmm A1
    rw [hmv] at hm1
    refine call1 he1 ?_
    unfold strIntV
    simp (maxSteps := 1000000) (disch := (first | omega | (simp only [nx_alloc, nx_upd, len_cons, len_nil, List.length_set, List.length_map, List.length_append] <;> omega) | fail)) only [go_sem, hld, g1]
    refine call1 hm1 ?_
    simp (maxSteps := 1000000) (disch := (first | omega | (simp only [nx_alloc, nx_upd, len_cons, len_nil, List.length_set, List.length_map, List.length_append] <;> omega) | fail)) only [go_sem, beq_emptyS, empty_size]
    refine call1 (shown18_ok w0 A1) ?_
    simp (maxSteps := 1000000) (disch := (first | omega | (simp only [nx_alloc, nx_upd, len_cons, len_nil, List.length_set, List.length_map, List.length_append] <;> omega) | fail)) only [go_sem, Try.results4]
    exact gc_fin hw o1 (.bool _)
  simp (maxSteps := 1000000) (disch := (first | omega | (simp only [nx_alloc, nx_upd, len_cons, len_nil, List.length_set, List.length_map, List.length_append] <;> omega) | fail)) only [go_sem, b8, g1, hld]
  by_cases b9 : l ≤ 2
  rotate_left
  · simp (maxSteps := 1000000) (disch := (first | omega | (simp only [nx_alloc, nx_upd, len_cons, len_nil, List.length_set, List.length_map, List.length_append] <;> omega) | fail)) only [go_sem, b9, g1, hld]
    have hmv : mayM m = false := by rw [hmay]; simp [b0, b1, b2, b3, b4, b5, b6, b7, b8, b9]
    have he : encB m = (ByteArray.empty, 1) := if_neg (by rw [hmv]; simp)
    have he1 := henc A1
    rw [he] at he1
    have hm1 := hmm A1
    rw [hmv] at hm1
    refine call1 he1 ?_
    unfold strIntV
    simp (maxSteps := 1000000) (disch := (first | omega | (simp only [nx_alloc, nx_upd, len_cons, len_nil, List.length_set, List.length_map, List.length_append] <;> omega) | fail)) only [go_sem, hld, g1]
    refine call1 hm1 ?_
    simp (maxSteps := 1000000) (disch := (first | omega | (simp only [nx_alloc, nx_upd, len_cons, len_nil, List.length_set, List.length_map, List.length_append] <;> omega) | fail)) only [go_sem, beq_emptyS, empty_size]
    refine call1 (shown18_ok w0 A1) ?_
    simp (maxSteps := 1000000) (disch := (first | omega | (simp only [nx_alloc, nx_upd, len_cons, len_nil, List.length_set, List.length_map, List.length_append] <;> omega) | fail)) only [go_sem, Try.results4]
    exact gc_fin hw o1 (.bool _)
  simp (maxSteps := 1000000) (disch := (first | omega | (simp only [nx_alloc, nx_upd, len_cons, len_nil, List.length_set, List.length_map, List.length_append] <;> omega) | fail)) only [go_sem, b9, g1, hld]
  have hmv : mayM m = true := by rw [hmay]; simp [b0, b1, b2, b3, b4, b5, b6, b7, b8, b9]
  have he : encB m = (strOfNums (encM m), 0) := if_pos hmv
  have hne : ¬ (strOfNums (encM m)).size = 0 := by omega
  have he1 := henc A1
  rw [he] at he1
  have hm1 := hmm A1
  rw [hmv] at hm1
  refine call1 he1 ?_
  unfold strIntV
  simp (maxSteps := 1000000) (disch := (first | omega | (simp only [nx_alloc, nx_upd, len_cons, len_nil, List.length_set, List.length_map, List.length_append] <;> omega) | fail)) only [go_sem, hld, g1]
  refine call1 hm1 ?_
  simp (maxSteps := 1000000) (disch := (first | omega | (simp only [nx_alloc, nx_upd, len_cons, len_nil, List.length_set, List.length_map, List.length_append] <;> omega) | fail)) only [go_sem, beq_emptyS, hne]
  refine call1 (shown18_ok w0 A1) ?_
  simp (maxSteps := 1000000) (disch := (first | omega | (simp only [nx_alloc, nx_upd, len_cons, len_nil, List.length_set, List.length_map, List.length_append] <;> omega) | fail)) only [go_sem, Try.results4]
  exact gc_fin hw o1 (.bool _)
end Go.Fw
