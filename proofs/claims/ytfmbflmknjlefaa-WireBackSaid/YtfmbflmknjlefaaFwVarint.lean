import Derived.Test.YtfmbflmknjlefaaFwFacts
import Derived.Test.YtfmbflmknjlefaaFw36
set_option linter.unusedSimpArgs false
set_option linter.unusedVariables false
set_option maxRecDepth 4000
namespace Go.Fw
open Go.Proofs Go.RowKit
theorem Try.enters27 : Enters Try.prog 27 := enters_of Try.func27 rfl (by kernel_rfl)
theorem Try.enters80 : Enters Try.prog 80 := enters_of Try.func80 rfl (by kernel_rfl)
set_option maxHeartbeats 1000000 in
theorem big_ok (w0 : World) (A : St) (n : Nat) (wd : Int) (hn : n < 18446744073709551616) : ACalls Try.prog w0 27 #[.int .u64 n, .int .i64 wd] A (fin (.string (strOfNums (bigS n wd))) A) := by
  refine call_E Try.enters27 Try.func27 rfl (Nat.le_of_ble_eq_true rfl) fun hw hbd => ?_
  simp (maxSteps := 1000000) (disch := (first | omega | (simp only [nx_alloc, nx_upd, len_cons, len_nil, List.length_set, List.length_map, List.length_append] <;> omega) | fail)) only [go_sem, Try.ntmps27, Try.results27]
  by_cases h1 : wd < 1
  · simp (maxSteps := 1000000) (disch := (first | omega | (simp only [nx_alloc, nx_upd, len_cons, len_nil, List.length_set, List.length_map, List.length_append] <;> omega) | fail)) only [go_sem, Try.results27]
    exact gc_fin' hw (Over.refl _) (by unfold bigS; rw [if_pos (.inl h1)]; rfl) (by simp only [bnd_string])
  by_cases h2 : 8 < wd
  · simp (maxSteps := 1000000) (disch := (first | omega | (simp only [nx_alloc, nx_upd, len_cons, len_nil, List.length_set, List.length_map, List.length_append] <;> omega) | fail)) only [go_sem, Try.results27]
    exact gc_fin' hw (Over.refl _) (by unfold bigS; rw [if_pos (.inr h2)]; rfl) (by simp only [bnd_string])
  obtain ⟨w, rfl⟩ := Int.eq_ofNat_of_zero_le (a := wd) (by omega)
  simp (maxSteps := 1000000) (disch := (first | omega | (simp only [nx_alloc, nx_upd, len_cons, len_nil, List.length_set, List.length_map, List.length_append] <;> omega) | fail)) only [go_sem]
  rw [makeSlice_bytes Try.el66 Try.sz5 Try.byt5 Try.zero5 (by omega) (by omega)]
  simp (maxSteps := 1000000) (disch := (first | omega | (simp only [nx_alloc, nx_upd, len_cons, len_nil, List.length_set, List.length_map, List.length_append] <;> omega) | fail)) only [go_sem]
  refine aw_loop (fun m a A' => ∃ (ρ : Nat → Value) (i : Nat), a = E 33 ρ [] ∧ Over A A' ∧ A'.get A.next = some (.cells ((List.replicate (w - i) 0 ++ bigL n i).map (.int .u8 ·)) 5 (some 0)) ∧ m = w - i ∧ i ≤ w ∧ A.next < A'.next ∧
      ρ 0 = .int .u64 ((n / 256 ^ i : Nat) : Int) ∧ ρ 1 = .int .i64 w ∧ ρ 5 = .slice (some ⟨A.next, 0, none⟩) w w ∧ ρ 16 = .int .i64 w ∧ ρ 17 = .int .i64 i) w
    ⟨_, 0, rfl, (Over.refl A).alloc _, ?_, rfl, by omega, by simp, ?_, rfl, rfl, rfl, rfl⟩ ?_
  · simp (maxSteps := 1000000) (disch := (first | omega | (simp only [nx_alloc, nx_upd, len_cons, len_nil, List.length_set, List.length_map, List.length_append] <;> omega) | fail)) only [go_sem]
    simp [bigL]
  · simp (maxSteps := 1000000) (disch := (first | omega | (simp only [nx_alloc, nx_upd, len_cons, len_nil, List.length_set, List.length_map, List.length_append] <;> omega) | fail)) only [go_sem]
    simp
  rintro m a A' ⟨ρ, i, rfl, hov, hB, rfl, hi, hnx, g0, g1, g5, g16, g17⟩
  refine aw_of ?_
  simp (maxSteps := 1000000) (disch := (first | omega | (simp only [nx_alloc, nx_upd, len_cons, len_nil, List.length_set, List.length_map, List.length_append] <;> omega) | fail)) only [go_sem, g16, g17]
  refine ifB_dec (fun hlt => ?_) (fun hlt => ?_)
  · obtain ⟨k, hk⟩ : ∃ k, w - i = k + 1 := ⟨w - i - 1, by omega⟩
    have ht : ((w : Int) - 1 - i).toNat = k := by omega
    have hu8 : IntKind.wrap .u8 ((n / 256 ^ i : Nat) : Int) = ((n / 256 ^ i % 256 : Nat) : Int) := by rw [IntKind.wrap_u8]; rfl
    rw [hk] at hB
    simp (maxSteps := 1000000) (disch := (first | omega | (simp only [nx_alloc, nx_upd, len_cons, len_nil, List.length_set, List.length_map, List.length_append] <;> omega) | fail)) only [go_sem, g0, g1, g5, g16, g17, hB, ht, hu8]
    rw [storeC_one _ _ _ _ _ _ _ rfl rfl (Nat.zero_le _) (by simp [bigL_length])]
    have hset : ((List.replicate (k + 1) 0 ++ bigL n i).map (Value.int .u8 ·)).set k (.int .u8 ((n / 256 ^ i % 256 : Nat) : Int)) = (List.replicate (w - (i + 1)) 0 ++ bigL n (i + 1)).map (.int .u8 ·) := by
      rw [← List.map_set, replicate_set, show w - (i + 1) = k by omega]; rfl
    have hsh : ishr .u64 ((n / 256 ^ i : Nat) : Int) 8 = ((n / 256 ^ (i + 1) : Nat) : Int) := by
      rw [show (8 : Int) = ((8 : Nat) : Int) from rfl, ishr_eq .u64 _ 8 (by decide), Nat.pow_succ, ← Nat.div_div_eq_div_mul]
      rfl
    simp (maxSteps := 1000000) (disch := (first | omega | (simp only [nx_alloc, nx_upd, len_cons, len_nil, List.length_set, List.length_map, List.length_append] <;> omega) | fail)) only [go_sem, hset, g0, hsh, g17]
    refine ⟨w - (i + 1), by omega, _, i + 1, rfl, hov.upd (Nat.le_refl _) _, ?_, rfl, by omega, hnx, ?_, ?_, ?_, ?_, ?_⟩
    · simp (maxSteps := 1000000) (disch := (first | omega | (simp only [nx_alloc, nx_upd, len_cons, len_nil, List.length_set, List.length_map, List.length_append] <;> omega) | fail)) only [go_sem]
    · simp (maxSteps := 1000000) (disch := (first | omega | (simp only [nx_alloc, nx_upd, len_cons, len_nil, List.length_set, List.length_map, List.length_append] <;> omega) | fail)) only [go_sem]
    · simp (maxSteps := 1000000) (disch := (first | omega | (simp only [nx_alloc, nx_upd, len_cons, len_nil, List.length_set, List.length_map, List.length_append] <;> omega) | fail)) only [go_sem, g1]
    · simp (maxSteps := 1000000) (disch := (first | omega | (simp only [nx_alloc, nx_upd, len_cons, len_nil, List.length_set, List.length_map, List.length_append] <;> omega) | fail)) only [go_sem, g5]
    · simp (maxSteps := 1000000) (disch := (first | omega | (simp only [nx_alloc, nx_upd, len_cons, len_nil, List.length_set, List.length_map, List.length_append] <;> omega) | fail)) only [go_sem, g16]
    · simp (maxSteps := 1000000) (disch := (first | omega | (simp only [nx_alloc, nx_upd, len_cons, len_nil, List.length_set, List.length_map, List.length_append] <;> omega) | fail)) only [go_sem]
      rfl
  · have hiw : i = w := by omega
    subst hiw
    have hfin : (List.replicate (i - i) 0 ++ bigL n i) = bigL n i := by simp
    rw [hfin] at hB
    simp (maxSteps := 1000000) (disch := (first | omega | (simp only [nx_alloc, nx_upd, len_cons, len_nil, List.length_set, List.length_map, List.length_append] <;> omega) | fail)) only [go_sem, g5, hB]
    rw [textC_some (l := bigL n i) (by simp [bigL_length]) (by rw [List.drop_zero]; exact List.take_of_length_le (by simp [bigL_length]))]
    simp (maxSteps := 1000000) (disch := (first | omega | (simp only [nx_alloc, nx_upd, len_cons, len_nil, List.length_set, List.length_map, List.length_append] <;> omega) | fail)) only [go_sem, Try.results27]
    exact gc_fin' hw hov (by unfold bigS; rw [if_neg (by omega), Int.toNat_natCast]) (by simp only [bnd_string])
set_option maxHeartbeats 1000000 in
theorem fixed_ok (w0 : World) (A : St) (s : ByteArray) (wd : Int) (hs : s.size ≤ 140737488355327) : ACalls Try.prog w0 80 #[.string s, .int .i64 wd] A (fin (getV (fixL (nums s) wd)) A) := by
  refine call_E Try.enters80 Try.func80 rfl (Nat.le_of_ble_eq_true rfl) fun hw hbd => ?_
  simp (maxSteps := 1000000) (disch := (first | omega | (simp only [nx_alloc, nx_upd, len_cons, len_nil, List.length_set, List.length_map, List.length_append] <;> omega) | fail)) only [go_sem, Try.ntmps80, Try.results80]
  by_cases h1 : wd < 1
  · simp (maxSteps := 1000000) (disch := (first | omega | (simp only [nx_alloc, nx_upd, len_cons, len_nil, List.length_set, List.length_map, List.length_append] <;> omega) | fail)) only [go_sem, Try.results80]
    exact gc_fin' hw (Over.refl _) (by unfold fixL; rw [if_pos (.inl h1)]; rfl) (bnd_getV _ _)
  by_cases h2 : 8 < wd
  · simp (maxSteps := 1000000) (disch := (first | omega | (simp only [nx_alloc, nx_upd, len_cons, len_nil, List.length_set, List.length_map, List.length_append] <;> omega) | fail)) only [go_sem, Try.results80]
    exact gc_fin' hw (Over.refl _) (by unfold fixL; rw [if_pos (.inr h2)]; rfl) (bnd_getV _ _)
  by_cases h3 : (s.size : Int) < wd
  · simp (maxSteps := 1000000) (disch := (first | omega | (simp only [nx_alloc, nx_upd, len_cons, len_nil, List.length_set, List.length_map, List.length_append] <;> omega) | fail)) only [go_sem, Try.results80]
    exact gc_fin' hw (Over.refl _) (by unfold fixL; rw [if_neg (by omega), if_pos (by rw [nums_length]; exact h3)]; rfl) (bnd_getV _ _)
  obtain ⟨w, rfl⟩ := Int.eq_ofNat_of_zero_le (a := wd) (by omega)
  have hsz : (s.extract 0 w).size = w := by rw [ByteArray.size_extract]; omega
  have hbc : bcells (s.extract 0 w) = ((nums s).take w).map (.int .u8 ·) := by rw [bcells_nums, nums_extract, List.drop_zero, Nat.sub_zero]
  simp (maxSteps := 1000000) (disch := (first | omega | (simp only [nx_alloc, nx_upd, len_cons, len_nil, List.length_set, List.length_map, List.length_append] <;> omega) | fail)) only [go_sem, hsz, hbc]
  obtain ⟨A1, hA1⟩ : ∃ A1, A1 = A.alloc (.cells (((nums s).take w).map (.int .u8 ·)) 5 (some 0)) := ⟨_, rfl⟩
  have hov : Over A A1 := hA1 ▸ (Over.refl A).alloc _
  have hB : A1.get A.next = some (.cells (((nums s).take w).map (.int .u8 ·)) 5 (some 0)) := by rw [hA1]; exact get_alloc_same ..
  rw [← hA1]
  have htl : ((nums s).take w).length = w := by rw [List.length_take, nums_length]; omega
  refine aw_loop (fun m a A' => ∃ (ρ : Nat → Value) (i : Nat), a = E 40 ρ [] ∧ A' = A1 ∧ m = w - i ∧ i ≤ w ∧ ρ 0 = .string s ∧ ρ 1 = .int .i64 w ∧ ρ 4 = .int .u64 (beN ((nums s).take i)) ∧ ρ 24 = .slice (some ⟨A.next, 0, some 1⟩) w w ∧ ρ 25 = .int .i64 w ∧ ρ 26 = .int .i64 i) w
    ⟨_, 0, rfl, rfl, rfl, by omega, rfl, rfl, rfl, rfl, rfl, rfl⟩ ?_
  rintro m a A' ⟨ρ, i, rfl, rfl, rfl, hi, g0, g1, g4, g24, g25, g26⟩
  refine aw_of ?_
  have hby : ∀ x ∈ (nums s).take i, Byte x := fun x hx => nums_byte s x (List.mem_of_mem_take hx)
  obtain ⟨q1, q2⟩ := beN_lt i ((nums s).take i) (by rw [List.length_take, nums_length]; omega) hby
  simp (maxSteps := 1000000) (disch := (first | omega | (simp only [nx_alloc, nx_upd, len_cons, len_nil, List.length_set, List.length_map, List.length_append] <;> omega) | fail)) only [go_sem, g25, g26]
  refine ifB_dec (fun hlt => ?_) (fun hlt => ?_)
  · have hcell : (((nums s).take w).map (Value.int .u8 ·))[i]? = some (.int .u8 (sbt s i)) := by
      rw [List.getElem?_map, List.getElem?_take, if_pos (by omega), sbt_nums s i (by omega)]; rfl
    have hc := sbt_byte s i
    have hc0 := hc.1
    have hc1 := hc.2
    have hor := fixed_or i (beN ((nums s).take i)) (sbt s i) (by omega) q1 q2 hc
    simp (maxSteps := 1000000) (disch := (first | omega | (simp only [nx_alloc, nx_upd, len_cons, len_nil, List.length_set, List.length_map, List.length_append] <;> omega) | fail)) only [go_sem, g24, g25, g26, g4, hB, hcell, hor]
    refine ⟨w - (i + 1), by omega, _, i + 1, rfl, rfl, by omega, ?_, ?_, ?_, ?_, ?_, ?_⟩
    · simp (maxSteps := 1000000) (disch := (first | omega | (simp only [nx_alloc, nx_upd, len_cons, len_nil, List.length_set, List.length_map, List.length_append] <;> omega) | fail)) only [go_sem, g0]
    · simp (maxSteps := 1000000) (disch := (first | omega | (simp only [nx_alloc, nx_upd, len_cons, len_nil, List.length_set, List.length_map, List.length_append] <;> omega) | fail)) only [go_sem, g1]
    · have : (nums s).take (i + 1) = (nums s).take i ++ [sbt s i] := by
        rw [List.take_add_one, sbt_nums s i (by omega)]; rfl
      simp (maxSteps := 1000000) (disch := (first | omega | (simp only [nx_alloc, nx_upd, len_cons, len_nil, List.length_set, List.length_map, List.length_append] <;> omega) | fail)) only [go_sem, this, beN_snoc]
    · simp (maxSteps := 1000000) (disch := (first | omega | (simp only [nx_alloc, nx_upd, len_cons, len_nil, List.length_set, List.length_map, List.length_append] <;> omega) | fail)) only [go_sem, g24]
    · simp (maxSteps := 1000000) (disch := (first | omega | (simp only [nx_alloc, nx_upd, len_cons, len_nil, List.length_set, List.length_map, List.length_append] <;> omega) | fail)) only [go_sem, g25]
    · simp (maxSteps := 1000000) (disch := (first | omega | (simp only [nx_alloc, nx_upd, len_cons, len_nil, List.length_set, List.length_map, List.length_append] <;> omega) | fail)) only [go_sem]
      rfl
  · have hiw : i = w := by omega
    subst hiw
    simp (maxSteps := 1000000) (disch := (first | omega | (simp only [nx_alloc, nx_upd, len_cons, len_nil, List.length_set, List.length_map, List.length_append] <;> omega) | fail)) only [go_sem, g0, g1, g4]
    refine aw_draw (by kernel_rfl) ?_
    simp (maxSteps := 1000000) (disch := (first | omega | (simp only [nx_alloc, nx_upd, len_cons, len_nil, List.length_set, List.length_map, List.length_append] <;> omega) | fail)) only [go_sem, g0, g1, g4, Try.results80]
    refine gc_fin' hw hov ?_ (bnd_getV _ _)
    unfold fixL
    rw [if_neg (by omega), if_neg (by rw [nums_length]; omega)]
    simp only [getV, Int.toNat_natCast]
    rw [← str_nums (s.extract i s.size), nums_extract, List.take_of_length_le (l := (nums s).drop i) (by simp [nums_length])]
end Go.Fw
