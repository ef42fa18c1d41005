import Derived.Test.YtfmbflmknjlefaaFwWire12
set_option linter.unusedSimpArgs false
set_option linter.unusedVariables false
set_option maxRecDepth 4000
namespace Go.Fw
open Go.Proofs Go.RowKit
theorem dj_start {A : St} (r : List Int) : DJ A msgZ r (((((A.alloc (.cells msgZ 45 (some 0))).alloc (.cells [.int .i64 0] 38 (some 0))).alloc (.cells [.string (strOfNums r)] 78 (some 0))).alloc (.cells [.pointer none] 76 (some 0))).upd (A.next + 3) (some (.cells [.pointer (some ⟨A.next + 2, 0, none⟩)] 76 (some 0)))) := by
  generalize msgZ = mz
  refine ⟨(((((Over.refl A).alloc _).alloc _).alloc _).alloc _).upd (by omega) _, by simp only [nx_alloc, nx_upd]; omega, by simp (disch := (first | omega | (simp only [nx_alloc, nx_upd, len_cons, len_nil, List.length_set, List.length_map, List.length_append] <;> omega) | fail)) only [St.get_upd, St.get_alloc, St.next_alloc, St.next_upd, ↓reduceIte, natF_lt, natF_gt, natF_ne, Nat.add_assoc, Nat.reduceAdd, Nat.reduceEqDiff, Nat.add_left_cancel_iff], by simp (disch := (first | omega | (simp only [nx_alloc, nx_upd, len_cons, len_nil, List.length_set, List.length_map, List.length_append] <;> omega) | fail)) only [St.get_upd, St.get_alloc, St.next_alloc, St.next_upd, ↓reduceIte, natF_lt, natF_gt, natF_ne, Nat.add_assoc, Nat.reduceAdd, Nat.reduceEqDiff, Nat.add_left_cancel_iff], by simp (disch := (first | omega | (simp only [nx_alloc, nx_upd, len_cons, len_nil, List.length_set, List.length_map, List.length_append] <;> omega) | fail)) only [St.get_upd, St.get_alloc, St.next_alloc, St.next_upd, ↓reduceIte, natF_lt, natF_gt, natF_ne, Nat.add_assoc, Nat.reduceAdd, Nat.reduceEqDiff, Nat.add_left_cancel_iff]; rfl, by simp (disch := (first | omega | (simp only [nx_alloc, nx_upd, len_cons, len_nil, List.length_set, List.length_map, List.length_append] <;> omega) | fail)) only [St.get_upd, St.get_alloc, St.next_alloc, St.next_upd, ↓reduceIte, natF_lt, natF_gt, natF_ne, Nat.add_assoc, Nat.reduceAdd, Nat.reduceEqDiff, Nat.add_left_cancel_iff]⟩
theorem decP_3 {r : List Int} {l t : List Int} {e : Int} (h : u8N 3 [] r = (l, t, e)) (he : e ≠ 0) : decP r = (msg0, e) := by unfold decP; simp [h, he]
theorem u8N_facts : ∀ (k : Nat) (acc r : List Int) (l t : List Int), RW r → u8N k acc r = (l, t, 0) → RW t ∧ ∃ l', l = acc ++ l' ∧ l'.length = k ∧ ∀ x ∈ l', 0 ≤ x ∧ x < 256
  | 0, acc, r, l, t, hr, h => by
    injection h with h1 h2; injection h2 with h2 _; subst h1 h2
    exact ⟨hr, [], by simp, rfl, by simp⟩
  | k + 1, acc, r, l, t, hr, h => by
    rcases h1 : fixL r 1 with ⟨x, s, e⟩
    by_cases he : e = 0
    · subst he
      rw [u8N_go h1] at h
      obtain ⟨hs, _, hx0, hx1, _⟩ := fixL_facts hr (by omega) (by omega) h1
      obtain ⟨q1, l', q2, q3, q4⟩ := u8N_facts k (acc ++ [x]) s l t hs h
      refine ⟨q1, x :: l', by rw [q2]; simp, by simp [q3], fun y hy => ?_⟩
      rcases List.mem_cons.1 hy with rfl | hy
      · exact ⟨hx0, hx1⟩
      · exact q4 y hy
    · rw [u8N_stop h1 he] at h
      injection h with _ h; injection h with _ h; exact absurd h he
set_option maxHeartbeats 16000000 in
theorem wdec_ok (w0 : World) (A : St) (s : ByteArray) (hs : s.size ≤ 1048576) : ACalls Try.prog w0 16 #[.string s] A (DecPost A (decP (nums s))) := by
  have hw0 : RW (nums s) := ⟨nums_byte s, by rw [nums_length]; exact hs⟩
  generalize hr : nums s = r at *
  have hst : s = strOfNums r := by rw [← hr, str_nums]
  subst hst
  refine call_ER (l := [.string (strOfNums r)]) Try.enters16 Try.func16 rfl (Nat.le_of_ble_eq_true rfl) fun hw hbd => ?_
  simp (maxSteps := 1000000) (disch := (first | omega | (simp only [nx_alloc, nx_upd, len_cons, len_nil, List.length_set, List.length_map, List.length_append] <;> omega) | fail)) only [go_sem, Try.ntmps16, Try.results16]
  refine aw_loop (fun k x A' => ∃ (ρ : Nat → Value) (i : Nat) (acc t : List Int), x = E 103 ρ [⟨.fn (.func 39) #[], #[.pointer (some ⟨A.next + 1, 0, none⟩), .func (.func 40) #[] #[.pointer (some ⟨A.next, 0, none⟩)]]⟩] ∧ k = 3 - i ∧ i ≤ 3 ∧ acc.length = i ∧ RW t ∧ DJ A (.int .i64 (acc.getD 0 0) :: .int .i64 (acc.getD 1 0) :: .int .i64 (acc.getD 2 0) :: .int .u32 0 :: .int .u32 0 :: .int .i64 0 :: .int .i64 0 :: .slice none 0 0 :: .int .i64 0 :: .int .u32 0 :: .int .i64 0 :: .slice none 0 0 :: .int .u32 0 :: .slice none 0 0 :: .slice none 0 0 :: .slice none 0 0 :: (hsC zeroH ++ [.string ByteArray.empty])) t A' ∧ u8N (3 - i) acc t = u8N 3 [] r ∧ A'.get (A.next + 4) = some (.cells [.pointer (some ⟨A.next, 0, none⟩), .pointer (some ⟨A.next, 1, none⟩), .pointer (some ⟨A.next, 2, none⟩)] 79 (some 0)) ∧ A.next + 4 < A'.next ∧
      ρ 2 = .pointer (some ⟨A.next, 0, none⟩) ∧ ρ 3 = .pointer (some ⟨A.next + 1, 0, none⟩) ∧ ρ 4 = .pointer (some ⟨A.next + 3, 0, none⟩) ∧ ρ 16 = .slice (some ⟨A.next + 4, 0, none⟩) 3 3 ∧ ρ 17 = .int .i64 3 ∧ ρ 18 = .int .i64 i) 3
    ⟨_, 0, [], r, rfl, rfl, Nat.zero_le _, rfl, hw0, (dj_start r).ext ((Over.refl _).alloc _), rfl, by exact get_alloc_same .., by exact Nat.lt_succ_self _, rfl, rfl, rfl, rfl, rfl, rfl⟩ ?_
  rintro k x A' ⟨ρ, i, acc, t, rfl, hk, hi, hal, wt, j, hun, hps, hlt, h2, h3, h4, h16, h17, h18⟩
  refine aw_of ?_
  by_cases hend : i = 3
  rotate_left
  · have e1 : (i : Int) < 3 := by omega
    rcases hf : fixL t 1 with ⟨x, t2, e⟩
    obtain ⟨wt2, _, c1, d1, _, _⟩ := fixL_facts wt (by omega) (by omega) hf
    obtain ⟨y, hy, hy3⟩ : ∃ y : Nat, ([.pointer (some ⟨A.next, 0, none⟩), .pointer (some ⟨A.next, 1, none⟩), .pointer (some ⟨A.next, 2, none⟩)] : List Value)[i]? = some (.pointer (some ⟨A.next, y, none⟩)) ∧ y = i := by
      match i, hend, hi with
      | 0, _, _ => exact ⟨0, rfl, rfl⟩
      | 1, _, _ => exact ⟨1, rfl, rfl⟩
      | 2, _, _ => exact ⟨2, rfl, rfl⟩
      | 3, h, _ => exact absurd rfl h
      | n + 4, _, h => omega
    have hcl := j.cl
    simp (maxSteps := 1000000) (disch := (first | omega | (simp only [nx_alloc, nx_upd, len_cons, len_nil, List.length_set, List.length_map, List.length_append] <;> omega) | fail)) only [go_sem, h2, h3, h4, h16, h17, h18, hps, hy, hcl]
    by_cases he : e = 0
    rotate_left
    · have hde : decP r = (msg0, e) := decP_3 (l := []) (t := []) (by rw [← hun, show 3 - i = (3 - i - 1) + 1 by omega]; exact u8N_stop hf he) he
      refine callp (numI_pan w0 A' (A.next + 2) t 1 j.rd wt hf he) ?_
      simp (maxSteps := 1000000) (disch := (first | omega | (simp only [nx_alloc, nx_upd, len_cons, len_nil, List.length_set, List.length_map, List.length_append] <;> omega) | fail)) only [go_sem, after_pan, funQR_panic, leaveKR_fn]
      refine dec_fail j (by simp only [List.length_cons, List.length_append, hsC_len]; rfl) ?_ ?_ (hde)
      · simp (maxSteps := 1000000) (disch := (first | omega | (simp only [nx_alloc, nx_upd, len_cons, len_nil, List.length_set, List.length_map, List.length_append] <;> omega) | fail)) only [go_sem, h2]
      · simp (maxSteps := 1000000) (disch := (first | omega | (simp only [nx_alloc, nx_upd, len_cons, len_nil, List.length_set, List.length_map, List.length_append] <;> omega) | fail)) only [go_sem, h3]
    subst he
    refine call1 (numI_ok w0 A' (A.next + 2) t 1 j.rd wt (by omega) (by omega) hf) ?_
    have j2 := j.rdr t2
    have hms := j2.ms
    have hps2 : (A'.upd (A.next + 2) (some (rdW t2))).get (A.next + 4) = _ := (get_upd_old (by omega)).trans hps
    have hlt2 : A.next + 4 < (A'.upd (A.next + 2) (some (rdW t2))).next := hlt
    generalize A'.upd (A.next + 2) (some (rdW t2)) = A2 at *
    have hset : ∀ X : St, storeC X (some 1) (some (.cells (.int .i64 (acc.getD 0 0) :: .int .i64 (acc.getD 1 0) :: .int .i64 (acc.getD 2 0) :: .int .u32 0 :: .int .u32 0 :: .int .i64 0 :: .int .i64 0 :: .slice none 0 0 :: .int .i64 0 :: .int .u32 0 :: .int .i64 0 :: .slice none 0 0 :: .int .u32 0 :: .slice none 0 0 :: .slice none 0 0 :: .slice none 0 0 :: (hsC zeroH ++ [.string ByteArray.empty])) 45 (some 0))) A.next y (.int .i64 x) = some (X.upd A.next (some (.cells (.int .i64 ((acc ++ [x]).getD 0 0) :: .int .i64 ((acc ++ [x]).getD 1 0) :: .int .i64 ((acc ++ [x]).getD 2 0) :: .int .u32 0 :: .int .u32 0 :: .int .i64 0 :: .int .i64 0 :: .slice none 0 0 :: .int .i64 0 :: .int .u32 0 :: .int .i64 0 :: .slice none 0 0 :: .int .u32 0 :: .slice none 0 0 :: .slice none 0 0 :: .slice none 0 0 :: (hsC zeroH ++ [.string ByteArray.empty])) 45 (some 0)))) := fun X => by
      have h49 : ∀ a b c : Int, y < 3 → y + 1 ≤ (.int .i64 a :: .int .i64 b :: .int .i64 c :: .int .u32 0 :: .int .u32 0 :: .int .i64 0 :: .int .i64 0 :: .slice none 0 0 :: .int .i64 0 :: .int .u32 0 :: .int .i64 0 :: .slice none 0 0 :: .int .u32 0 :: .slice none 0 0 :: .slice none 0 0 :: .slice none 0 0 :: (hsC zeroH ++ [.string ByteArray.empty])).length := fun a b c hy => by simp only [List.length_cons, List.length_append, hsC_len]; omega
      rcases acc with _ | ⟨a, _ | ⟨b, _ | ⟨c, l⟩⟩⟩
      · obtain rfl : y = 0 := by rw [hy3, ← hal]; rfl
        exact (storeC_int _ _ _ _ _ _ _ (Nat.le_refl _) (h49 _ _ _ (by omega))).trans rfl
      · obtain rfl : y = 1 := by rw [hy3, ← hal]; rfl
        exact (storeC_int _ _ _ _ _ _ _ (Nat.zero_le _) (h49 _ _ _ (by omega))).trans rfl
      · obtain rfl : y = 2 := by rw [hy3, ← hal]; rfl
        exact (storeC_int _ _ _ _ _ _ _ (Nat.zero_le _) (h49 _ _ _ (by omega))).trans rfl
      · simp only [List.length_cons] at hal; omega
    simp (maxSteps := 1000000) (disch := (first | omega | (simp only [nx_alloc, nx_upd, len_cons, len_nil, List.length_set, List.length_map, List.length_append] <;> omega) | fail)) only [go_sem, hms, hset, h18]
    refine ⟨k - 1, by omega, _, i + 1, acc ++ [x], t2, rfl, by omega, by omega, by rw [List.length_append, hal]; rfl, wt2, j2.set _, ?_, ?_, ?_, ?_, ?_, ?_, ?_, ?_, ?_⟩
    · rw [← hun, show 3 - i = (3 - (i + 1)) + 1 by omega]; exact (u8N_go hf).symm
    · first
        | exact hps2
        | exact (get_upd_old (by omega)).trans hps2
    · exact hlt2
    · simp (maxSteps := 1000000) (disch := (first | omega | (simp only [nx_alloc, nx_upd, len_cons, len_nil, List.length_set, List.length_map, List.length_append] <;> omega) | fail)) only [go_sem, h2]
    · simp (maxSteps := 1000000) (disch := (first | omega | (simp only [nx_alloc, nx_upd, len_cons, len_nil, List.length_set, List.length_map, List.length_append] <;> omega) | fail)) only [go_sem, h3]
    · simp (maxSteps := 1000000) (disch := (first | omega | (simp only [nx_alloc, nx_upd, len_cons, len_nil, List.length_set, List.length_map, List.length_append] <;> omega) | fail)) only [go_sem, h4]
    · simp (maxSteps := 1000000) (disch := (first | omega | (simp only [nx_alloc, nx_upd, len_cons, len_nil, List.length_set, List.length_map, List.length_append] <;> omega) | fail)) only [go_sem, h16]
    · simp (maxSteps := 1000000) (disch := (first | omega | (simp only [nx_alloc, nx_upd, len_cons, len_nil, List.length_set, List.length_map, List.length_append] <;> omega) | fail)) only [go_sem, h17]
    · simp (maxSteps := 1000000) (disch := (first | omega | (simp only [nx_alloc, nx_upd, len_cons, len_nil, List.length_set, List.length_map, List.length_append] <;> omega) | fail)) only [go_sem]
      rfl
  subst hend
  have e1 : ¬ (((3 : Nat) : Int) < 3) := by omega
  have hacc : u8N 3 [] r = (acc, t, 0) := by rw [← hun]; rfl
  obtain ⟨_, l', hal', hl3', hlx⟩ := u8N_facts 3 [] r acc t hw0 hacc
  rw [List.nil_append] at hal'
  subst hal'
  have hg : ∀ k, 0 ≤ acc.getD k 0 ∧ acc.getD k 0 < 256 := fun k => by
    rw [List.getD_eq_getElem?_getD]
    rcases hk : acc[k]? with _ | x
    · exact ⟨Int.le_refl _, by decide⟩
    · exact hlx x (List.mem_of_getElem? hk)
  have hcl := j.cl
  simp (maxSteps := 1000000) (disch := (first | omega | (simp only [nx_alloc, nx_upd, len_cons, len_nil, List.length_set, List.length_map, List.length_append] <;> omega) | fail)) only [go_sem, h2, h3, h4, h16, h17, h18]
  rcases hvw : fixL t 4 with ⟨vw, t1, evw⟩
  obtain ⟨wt1, _, cvw, dvw, _, _⟩ := fixL_facts wt (by omega) (by omega) hvw
  by_cases zvw : evw = 0
  rotate_left
  · have hde : decP r = (msg0, evw) := by unfold decP; simp [hacc, hvw, zvw]
    refine aw_drawS (by kernel_rfl) ?_
    refine Ords.split 1 2 rfl ?_ ?_
    · refine Ords.cut [0] [2, 3, 4, 5, 6, 7] 1 (by kernel_rfl) ?_
      refine Ords.run [⟨false, [], [0]⟩] [A'] 0 (by kernel_rfl) (by kernel_rfl) rfl ?_
      simp (maxSteps := 1000000) (disch := (first | omega | (simp only [nx_alloc, nx_upd, len_cons, len_nil, List.length_set, List.length_map, List.length_append] <;> omega) | fail)) only [go_sem, subOps_toList, getD_arr0, getD_arrS, reO_mk, reO_mkG, ixOf, Option.bind_none, Option.map_none, thenN_normal, after_ret, h2, h3, h4, hcl]
      refine callp (numU_pan w0 A' (A.next + 2) t 4 j.rd wt hvw zvw) ?_
      simp (maxSteps := 1000000) (disch := (first | omega | (simp only [nx_alloc, nx_upd, len_cons, len_nil, List.length_set, List.length_map, List.length_append] <;> omega) | fail)) only [go_sem, after_pan, funQR_panic, leaveKR_fn]
      refine dec_fail j (by simp only [List.length_cons, List.length_append, hsC_len]; rfl) ?_ ?_ hde
      · simp (maxSteps := 1000000) (disch := (first | omega | (simp only [nx_alloc, nx_upd, len_cons, len_nil, List.length_set, List.length_map, List.length_append] <;> omega) | fail)) only [go_sem, h2]
      · simp (maxSteps := 1000000) (disch := (first | omega | (simp only [nx_alloc, nx_upd, len_cons, len_nil, List.length_set, List.length_map, List.length_append] <;> omega) | fail)) only [go_sem, h3]
    · refine Ords.cut [0, 2] [3, 4, 5, 6, 7] 1 (by kernel_rfl) ?_
      refine Ords.run [⟨false, [], [0]⟩, ⟨false, [], [0]⟩] [A'] 0 (by kernel_rfl) (by kernel_rfl) rfl ?_
      simp (maxSteps := 1000000) (disch := (first | omega | (simp only [nx_alloc, nx_upd, len_cons, len_nil, List.length_set, List.length_map, List.length_append] <;> omega) | fail)) only [go_sem, subOps_toList, getD_arr0, getD_arrS, reO_mk, reO_mkG, ixOf, Option.bind_none, Option.map_none, thenN_normal, after_ret, h2, h3, h4, hcl]
      refine callp (numU_pan w0 A' (A.next + 2) t 4 j.rd wt hvw zvw) ?_
      simp (maxSteps := 1000000) (disch := (first | omega | (simp only [nx_alloc, nx_upd, len_cons, len_nil, List.length_set, List.length_map, List.length_append] <;> omega) | fail)) only [go_sem, after_pan, funQR_panic, leaveKR_fn]
      refine dec_fail j (by simp only [List.length_cons, List.length_append, hsC_len]; rfl) ?_ ?_ hde
      · simp (maxSteps := 1000000) (disch := (first | omega | (simp only [nx_alloc, nx_upd, len_cons, len_nil, List.length_set, List.length_map, List.length_append] <;> omega) | fail)) only [go_sem, h2]
      · simp (maxSteps := 1000000) (disch := (first | omega | (simp only [nx_alloc, nx_upd, len_cons, len_nil, List.length_set, List.length_map, List.length_append] <;> omega) | fail)) only [go_sem, h3]
  subst zvw
  rcases hla : fixL t1 4 with ⟨la, t2, ela⟩
  obtain ⟨wt2, _, cla, dla, _, _⟩ := fixL_facts wt1 (by omega) (by omega) hla
  have jvw := j.rdr t1
  have hclvw := jvw.cl
  by_cases zla : ela = 0
  rotate_left
  · have hde : decP r = (msg0, ela) := by unfold decP; simp [hacc, hvw, hla, zla]
    refine aw_drawS (by kernel_rfl) ?_
    refine Ords.cut [0, 1, 2] [4, 5, 6, 7] 3 (by kernel_rfl) ?_
    refine Ords.run [⟨false, [], [0]⟩, ⟨true, [0], [0]⟩, ⟨false, [], [0, 1]⟩] [A', A'.upd (A.next + 2) (some (rdW t1))] 1 (by kernel_rfl) (by kernel_rfl) rfl ?_
    simp (maxSteps := 1000000) (disch := (first | omega | (simp only [nx_alloc, nx_upd, len_cons, len_nil, List.length_set, List.length_map, List.length_append] <;> omega) | fail)) only [go_sem, subOps_toList, getD_arr0, getD_arrS, reO_mk, reO_mkG, ixOf, Option.bind_none, Option.map_none, thenN_normal, after_ret, h2, h3, h4, hcl]
    refine ⟨_, numU_ok w0 A' (A.next + 2) t 4 j.rd wt (by omega) (by omega) hvw, ?_⟩
    refine callp (numU_pan w0 (A'.upd (A.next + 2) (some (rdW t1))) (A.next + 2) t1 4 jvw.rd wt1 hla zla) ?_
    simp (maxSteps := 1000000) (disch := (first | omega | (simp only [nx_alloc, nx_upd, len_cons, len_nil, List.length_set, List.length_map, List.length_append] <;> omega) | fail)) only [go_sem, after_pan, funQR_panic, leaveKR_fn]
    refine dec_fail jvw (by simp only [List.length_cons, List.length_append, hsC_len]; rfl) ?_ ?_ hde
    · simp (maxSteps := 1000000) (disch := (first | omega | (simp only [nx_alloc, nx_upd, len_cons, len_nil, List.length_set, List.length_map, List.length_append] <;> omega) | fail)) only [go_sem, h2]
    · simp (maxSteps := 1000000) (disch := (first | omega | (simp only [nx_alloc, nx_upd, len_cons, len_nil, List.length_set, List.length_map, List.length_append] <;> omega) | fail)) only [go_sem, h3]
  subst zla
  have jla := jvw.rdr t2
  have jxla := jla.set (.int .i64 (acc.getD 0 0) :: .int .i64 (acc.getD 1 0) :: .int .i64 (acc.getD 2 0) :: .int .u32 vw :: .int .u32 0 :: .int .i64 0 :: .int .i64 0 :: .slice none 0 0 :: .int .i64 0 :: .int .u32 0 :: .int .i64 0 :: .slice none 0 0 :: .int .u32 0 :: .slice none 0 0 :: .slice none 0 0 :: .slice none 0 0 :: (hsC zeroH ++ [.string ByteArray.empty]))
  have jyla := jxla.set (.int .i64 (acc.getD 0 0) :: .int .i64 (acc.getD 1 0) :: .int .i64 (acc.getD 2 0) :: .int .u32 vw :: .int .u32 la :: .int .i64 0 :: .int .i64 0 :: .slice none 0 0 :: .int .i64 0 :: .int .u32 0 :: .int .i64 0 :: .slice none 0 0 :: .int .u32 0 :: .slice none 0 0 :: .slice none 0 0 :: .slice none 0 0 :: (hsC zeroH ++ [.string ByteArray.empty]))
  have hm0la := jla.ms
  have hm1la := jxla.ms
  have hclla := jyla.cl
  refine aw_draw2 [⟨false, [], [0]⟩, ⟨true, [0], [0]⟩, ⟨false, [], [0, 1]⟩, ⟨true, [0, 1, 2], [1]⟩, ⟨false, [0, 1, 2, 3], [2]⟩, ⟨true, [0, 1, 2, 3, 4], [2]⟩, ⟨false, [0, 1, 2, 3, 4, 5], [3]⟩, ⟨true, [0, 1, 2, 3, 4, 5, 6], [3]⟩] [A', A'.upd (A.next + 2) (some (rdW t1)), (A'.upd (A.next + 2) (some (rdW t1))).upd (A.next + 2) (some (rdW t2)), ((A'.upd (A.next + 2) (some (rdW t1))).upd (A.next + 2) (some (rdW t2))).upd A.next (some (.cells (.int .i64 (acc.getD 0 0) :: .int .i64 (acc.getD 1 0) :: .int .i64 (acc.getD 2 0) :: .int .u32 vw :: .int .u32 0 :: .int .i64 0 :: .int .i64 0 :: .slice none 0 0 :: .int .i64 0 :: .int .u32 0 :: .int .i64 0 :: .slice none 0 0 :: .int .u32 0 :: .slice none 0 0 :: .slice none 0 0 :: .slice none 0 0 :: (hsC zeroH ++ [.string ByteArray.empty])) 45 (some 0))), (((A'.upd (A.next + 2) (some (rdW t1))).upd (A.next + 2) (some (rdW t2))).upd A.next (some (.cells (.int .i64 (acc.getD 0 0) :: .int .i64 (acc.getD 1 0) :: .int .i64 (acc.getD 2 0) :: .int .u32 vw :: .int .u32 0 :: .int .i64 0 :: .int .i64 0 :: .slice none 0 0 :: .int .i64 0 :: .int .u32 0 :: .int .i64 0 :: .slice none 0 0 :: .int .u32 0 :: .slice none 0 0 :: .slice none 0 0 :: .slice none 0 0 :: (hsC zeroH ++ [.string ByteArray.empty])) 45 (some 0)))).upd A.next (some (.cells (.int .i64 (acc.getD 0 0) :: .int .i64 (acc.getD 1 0) :: .int .i64 (acc.getD 2 0) :: .int .u32 vw :: .int .u32 la :: .int .i64 0 :: .int .i64 0 :: .slice none 0 0 :: .int .i64 0 :: .int .u32 0 :: .int .i64 0 :: .slice none 0 0 :: .int .u32 0 :: .slice none 0 0 :: .slice none 0 0 :: .slice none 0 0 :: (hsC zeroH ++ [.string ByteArray.empty])) 45 (some 0)))] 4 (by kernel_rfl) (by kernel_rfl) rfl ?_
  simp (maxSteps := 1000000) (disch := (first | omega | (simp only [nx_alloc, nx_upd, len_cons, len_nil, List.length_set, List.length_map, List.length_append] <;> omega) | fail)) only [go_sem, h2, h3, h4, hcl, hclvw]
  refine ⟨_, numU_ok w0 A' (A.next + 2) t 4 j.rd wt (by omega) (by omega) hvw, ?_⟩
  refine ⟨_, numU_ok w0 (A'.upd (A.next + 2) (some (rdW t1))) (A.next + 2) t1 4 jvw.rd wt1 (by omega) (by omega) hla, ?_⟩
  have hm0 := j.ms
  simp (maxSteps := 1000000) (disch := (first | omega | (simp only [nx_alloc, nx_upd, len_cons, len_nil, List.length_set, List.length_map, List.length_append] <;> omega) | fail)) only [go_sem, h2, h3, h4, hm0, hcl]
  clear hm0 hm0la hm1la jxla jla jvw hclvw hcl j
  generalize (((A'.upd (A.next + 2) (some (rdW t1))).upd (A.next + 2) (some (rdW t2))).upd A.next (some (.cells (.int .i64 (acc.getD 0 0) :: .int .i64 (acc.getD 1 0) :: .int .i64 (acc.getD 2 0) :: .int .u32 vw :: .int .u32 0 :: .int .i64 0 :: .int .i64 0 :: .slice none 0 0 :: .int .i64 0 :: .int .u32 0 :: .int .i64 0 :: .slice none 0 0 :: .int .u32 0 :: .slice none 0 0 :: .slice none 0 0 :: .slice none 0 0 :: (hsC zeroH ++ [.string ByteArray.empty])) 45 (some 0)))).upd A.next (some (.cells (.int .i64 (acc.getD 0 0) :: .int .i64 (acc.getD 1 0) :: .int .i64 (acc.getD 2 0) :: .int .u32 vw :: .int .u32 la :: .int .i64 0 :: .int .i64 0 :: .slice none 0 0 :: .int .i64 0 :: .int .u32 0 :: .int .i64 0 :: .slice none 0 0 :: .int .u32 0 :: .slice none 0 0 :: .slice none 0 0 :: .slice none 0 0 :: (hsC zeroH ++ [.string ByteArray.empty])) 45 (some 0))) = A3 at *
  have hcl := jyla.cl
  rcases hnn : fixL t2 1 with ⟨nn, t21, enn⟩
  obtain ⟨wt21, _, cnn, dnn, _, _⟩ := fixL_facts wt2 (by omega) (by omega) hnn
  by_cases znn : enn = 0
  rotate_left
  · have hde : decP r = (msg0, enn) := by unfold decP; simp [hacc, hvw, hla, hnn, znn]
    refine aw_drawS (by kernel_rfl) ?_
    refine Ords.split 1 2 rfl ?_ ?_
    · refine Ords.cut [0] [2, 3, 4, 5, 6, 7] 1 (by kernel_rfl) ?_
      refine Ords.run [⟨false, [], [0]⟩] [A3] 0 (by kernel_rfl) (by kernel_rfl) rfl ?_
      simp (maxSteps := 1000000) (disch := (first | omega | (simp only [nx_alloc, nx_upd, len_cons, len_nil, List.length_set, List.length_map, List.length_append] <;> omega) | fail)) only [go_sem, subOps_toList, getD_arr0, getD_arrS, reO_mk, reO_mkG, ixOf, Option.bind_none, Option.map_none, thenN_normal, after_ret, h2, h3, h4, hcl]
      refine callp (numI_pan w0 A3 (A.next + 2) t2 1 jyla.rd wt2 hnn znn) ?_
      simp (maxSteps := 1000000) (disch := (first | omega | (simp only [nx_alloc, nx_upd, len_cons, len_nil, List.length_set, List.length_map, List.length_append] <;> omega) | fail)) only [go_sem, after_pan, funQR_panic, leaveKR_fn]
      refine dec_fail jyla (by simp only [List.length_cons, List.length_append, hsC_len]; rfl) ?_ ?_ hde
      · simp (maxSteps := 1000000) (disch := (first | omega | (simp only [nx_alloc, nx_upd, len_cons, len_nil, List.length_set, List.length_map, List.length_append] <;> omega) | fail)) only [go_sem, h2]
      · simp (maxSteps := 1000000) (disch := (first | omega | (simp only [nx_alloc, nx_upd, len_cons, len_nil, List.length_set, List.length_map, List.length_append] <;> omega) | fail)) only [go_sem, h3]
    · refine Ords.cut [0, 2] [3, 4, 5, 6, 7] 1 (by kernel_rfl) ?_
      refine Ords.run [⟨false, [], [0]⟩, ⟨false, [], [0]⟩] [A3] 0 (by kernel_rfl) (by kernel_rfl) rfl ?_
      simp (maxSteps := 1000000) (disch := (first | omega | (simp only [nx_alloc, nx_upd, len_cons, len_nil, List.length_set, List.length_map, List.length_append] <;> omega) | fail)) only [go_sem, subOps_toList, getD_arr0, getD_arrS, reO_mk, reO_mkG, ixOf, Option.bind_none, Option.map_none, thenN_normal, after_ret, h2, h3, h4, hcl]
      refine callp (numI_pan w0 A3 (A.next + 2) t2 1 jyla.rd wt2 hnn znn) ?_
      simp (maxSteps := 1000000) (disch := (first | omega | (simp only [nx_alloc, nx_upd, len_cons, len_nil, List.length_set, List.length_map, List.length_append] <;> omega) | fail)) only [go_sem, after_pan, funQR_panic, leaveKR_fn]
      refine dec_fail jyla (by simp only [List.length_cons, List.length_append, hsC_len]; rfl) ?_ ?_ hde
      · simp (maxSteps := 1000000) (disch := (first | omega | (simp only [nx_alloc, nx_upd, len_cons, len_nil, List.length_set, List.length_map, List.length_append] <;> omega) | fail)) only [go_sem, h2]
      · simp (maxSteps := 1000000) (disch := (first | omega | (simp only [nx_alloc, nx_upd, len_cons, len_nil, List.length_set, List.length_map, List.length_append] <;> omega) | fail)) only [go_sem, h3]
  subst znn
  rcases hcm : fixL t21 1 with ⟨cm, t22, ecm⟩
  obtain ⟨wt22, _, ccm, dcm, _, _⟩ := fixL_facts wt21 (by omega) (by omega) hcm
  have jnn := jyla.rdr t21
  have hclnn := jnn.cl
  by_cases zcm : ecm = 0
  rotate_left
  · have hde : decP r = (msg0, ecm) := by unfold decP; simp [hacc, hvw, hla, hnn, hcm, zcm]
    refine aw_drawS (by kernel_rfl) ?_
    refine Ords.cut [0, 1, 2] [4, 5, 6, 7] 3 (by kernel_rfl) ?_
    refine Ords.run [⟨false, [], [0]⟩, ⟨true, [0], [0]⟩, ⟨false, [], [0, 1]⟩] [A3, A3.upd (A.next + 2) (some (rdW t21))] 1 (by kernel_rfl) (by kernel_rfl) rfl ?_
    simp (maxSteps := 1000000) (disch := (first | omega | (simp only [nx_alloc, nx_upd, len_cons, len_nil, List.length_set, List.length_map, List.length_append] <;> omega) | fail)) only [go_sem, subOps_toList, getD_arr0, getD_arrS, reO_mk, reO_mkG, ixOf, Option.bind_none, Option.map_none, thenN_normal, after_ret, h2, h3, h4, hcl]
    refine ⟨_, numI_ok w0 A3 (A.next + 2) t2 1 jyla.rd wt2 (by omega) (by omega) hnn, ?_⟩
    refine callp (numI_pan w0 (A3.upd (A.next + 2) (some (rdW t21))) (A.next + 2) t21 1 jnn.rd wt21 hcm zcm) ?_
    simp (maxSteps := 1000000) (disch := (first | omega | (simp only [nx_alloc, nx_upd, len_cons, len_nil, List.length_set, List.length_map, List.length_append] <;> omega) | fail)) only [go_sem, after_pan, funQR_panic, leaveKR_fn]
    refine dec_fail jnn (by simp only [List.length_cons, List.length_append, hsC_len]; rfl) ?_ ?_ hde
    · simp (maxSteps := 1000000) (disch := (first | omega | (simp only [nx_alloc, nx_upd, len_cons, len_nil, List.length_set, List.length_map, List.length_append] <;> omega) | fail)) only [go_sem, h2]
    · simp (maxSteps := 1000000) (disch := (first | omega | (simp only [nx_alloc, nx_upd, len_cons, len_nil, List.length_set, List.length_map, List.length_append] <;> omega) | fail)) only [go_sem, h3]
  subst zcm
  have jcm := jnn.rdr t22
  have jxcm := jcm.set (.int .i64 (acc.getD 0 0) :: .int .i64 (acc.getD 1 0) :: .int .i64 (acc.getD 2 0) :: .int .u32 vw :: .int .u32 la :: .int .i64 nn :: .int .i64 0 :: .slice none 0 0 :: .int .i64 0 :: .int .u32 0 :: .int .i64 0 :: .slice none 0 0 :: .int .u32 0 :: .slice none 0 0 :: .slice none 0 0 :: .slice none 0 0 :: (hsC zeroH ++ [.string ByteArray.empty]))
  have jycm := jxcm.set (.int .i64 (acc.getD 0 0) :: .int .i64 (acc.getD 1 0) :: .int .i64 (acc.getD 2 0) :: .int .u32 vw :: .int .u32 la :: .int .i64 nn :: .int .i64 cm :: .slice none 0 0 :: .int .i64 0 :: .int .u32 0 :: .int .i64 0 :: .slice none 0 0 :: .int .u32 0 :: .slice none 0 0 :: .slice none 0 0 :: .slice none 0 0 :: (hsC zeroH ++ [.string ByteArray.empty]))
  have hm0cm := jcm.ms
  have hm1cm := jxcm.ms
  have hclcm := jycm.cl
  refine aw_draw2 [⟨false, [], [0]⟩, ⟨true, [0], [0]⟩, ⟨false, [], [0, 1]⟩, ⟨true, [0, 1, 2], [1]⟩, ⟨false, [0, 1, 2, 3], [2]⟩, ⟨true, [0, 1, 2, 3, 4], [2]⟩, ⟨false, [0, 1, 2, 3, 4, 5], [3]⟩, ⟨true, [0, 1, 2, 3, 4, 5, 6], [3]⟩] [A3, A3.upd (A.next + 2) (some (rdW t21)), (A3.upd (A.next + 2) (some (rdW t21))).upd (A.next + 2) (some (rdW t22)), ((A3.upd (A.next + 2) (some (rdW t21))).upd (A.next + 2) (some (rdW t22))).upd A.next (some (.cells (.int .i64 (acc.getD 0 0) :: .int .i64 (acc.getD 1 0) :: .int .i64 (acc.getD 2 0) :: .int .u32 vw :: .int .u32 la :: .int .i64 nn :: .int .i64 0 :: .slice none 0 0 :: .int .i64 0 :: .int .u32 0 :: .int .i64 0 :: .slice none 0 0 :: .int .u32 0 :: .slice none 0 0 :: .slice none 0 0 :: .slice none 0 0 :: (hsC zeroH ++ [.string ByteArray.empty])) 45 (some 0))), (((A3.upd (A.next + 2) (some (rdW t21))).upd (A.next + 2) (some (rdW t22))).upd A.next (some (.cells (.int .i64 (acc.getD 0 0) :: .int .i64 (acc.getD 1 0) :: .int .i64 (acc.getD 2 0) :: .int .u32 vw :: .int .u32 la :: .int .i64 nn :: .int .i64 0 :: .slice none 0 0 :: .int .i64 0 :: .int .u32 0 :: .int .i64 0 :: .slice none 0 0 :: .int .u32 0 :: .slice none 0 0 :: .slice none 0 0 :: .slice none 0 0 :: (hsC zeroH ++ [.string ByteArray.empty])) 45 (some 0)))).upd A.next (some (.cells (.int .i64 (acc.getD 0 0) :: .int .i64 (acc.getD 1 0) :: .int .i64 (acc.getD 2 0) :: .int .u32 vw :: .int .u32 la :: .int .i64 nn :: .int .i64 cm :: .slice none 0 0 :: .int .i64 0 :: .int .u32 0 :: .int .i64 0 :: .slice none 0 0 :: .int .u32 0 :: .slice none 0 0 :: .slice none 0 0 :: .slice none 0 0 :: (hsC zeroH ++ [.string ByteArray.empty])) 45 (some 0)))] 4 (by kernel_rfl) (by kernel_rfl) rfl ?_
  simp (maxSteps := 1000000) (disch := (first | omega | (simp only [nx_alloc, nx_upd, len_cons, len_nil, List.length_set, List.length_map, List.length_append] <;> omega) | fail)) only [go_sem, h2, h3, h4, hcl, hclnn]
  refine ⟨_, numI_ok w0 A3 (A.next + 2) t2 1 jyla.rd wt2 (by omega) (by omega) hnn, ?_⟩
  refine ⟨_, numI_ok w0 (A3.upd (A.next + 2) (some (rdW t21))) (A.next + 2) t21 1 jnn.rd wt21 (by omega) (by omega) hcm, ?_⟩
  have hm0 := jyla.ms
  simp (maxSteps := 1000000) (disch := (first | omega | (simp only [nx_alloc, nx_upd, len_cons, len_nil, List.length_set, List.length_map, List.length_append] <;> omega) | fail)) only [go_sem, h2, h3, h4, hm0, hcl]
  clear hm0 hm0cm hm1cm jxcm jcm jnn hclnn hcl jyla
  generalize (((A3.upd (A.next + 2) (some (rdW t21))).upd (A.next + 2) (some (rdW t22))).upd A.next (some (.cells (.int .i64 (acc.getD 0 0) :: .int .i64 (acc.getD 1 0) :: .int .i64 (acc.getD 2 0) :: .int .u32 vw :: .int .u32 la :: .int .i64 nn :: .int .i64 0 :: .slice none 0 0 :: .int .i64 0 :: .int .u32 0 :: .int .i64 0 :: .slice none 0 0 :: .int .u32 0 :: .slice none 0 0 :: .slice none 0 0 :: .slice none 0 0 :: (hsC zeroH ++ [.string ByteArray.empty])) 45 (some 0)))).upd A.next (some (.cells (.int .i64 (acc.getD 0 0) :: .int .i64 (acc.getD 1 0) :: .int .i64 (acc.getD 2 0) :: .int .u32 vw :: .int .u32 la :: .int .i64 nn :: .int .i64 cm :: .slice none 0 0 :: .int .i64 0 :: .int .u32 0 :: .int .i64 0 :: .slice none 0 0 :: .int .u32 0 :: .slice none 0 0 :: .slice none 0 0 :: .slice none 0 0 :: (hsC zeroH ++ [.string ByteArray.empty])) 45 (some 0))) = A4 at *
  have hcl := jycm.cl
  try simp (maxSteps := 1000000) (disch := (first | omega | (simp only [nx_alloc, nx_upd, len_cons, len_nil, List.length_set, List.length_map, List.length_append] <;> omega) | fail)) only [go_sem, h2, h3, h4, hcl]
  rcases hlg : listR 40 t22 with ⟨lg, s1, e1⟩
  have hdl : decP r = if e1 ≠ 0 then (msg0, e1) else decL { msg0 with kind := acc.getD 0 0, src := acc.getD 1 0, dst := acc.getD 2 0, view := vw, last := la, n := nn, commit := cm, log := lg } s1 := by unfold decP; simp [hacc, hvw, hla, hnn, hcm, hlg]
  refine (listR_ok w0 A4 (A.next + 2) t22 40 jycm.rd wt22 (by decide)).mono ?_
  rw [hlg]
  intro e A5 he
  by_cases z1 : e1 = 0
  rotate_left
  · obtain ⟨rfl, s', rfl⟩ := rd_pan z1 he
    simp (maxSteps := 1000000) (disch := (first | omega | (simp only [nx_alloc, nx_upd, len_cons, len_nil, List.length_set, List.length_map, List.length_append] <;> omega) | fail)) only [go_sem, after_pan, funQR_panic, leaveKR_fn]
    refine dec_fail (jycm.rdr s') (by simp only [List.length_cons, List.length_append, hsC_len]; rfl) ?_ ?_ (by rw [hdl, if_pos z1])
    · simp (maxSteps := 1000000) (disch := (first | omega | (simp only [nx_alloc, nx_upd, len_cons, len_nil, List.length_set, List.length_map, List.length_append] <;> omega) | fail)) only [go_sem, h2]
    · simp (maxSteps := 1000000) (disch := (first | omega | (simp only [nx_alloc, nx_upd, len_cons, len_nil, List.length_set, List.length_map, List.length_append] <;> omega) | fail)) only [go_sem, h3]
  subst z1
  rw [if_neg (by simp)] at hdl
  obtain ⟨lv, rfl, o5, hlv⟩ := rd_ok he
  have j5 := (jycm.rdr s1).ext o5
  obtain ⟨ws1, lgl, lgr, lgx⟩ := listR_rw wt22 hlg
  have hm5 := j5.ms
  have hcl5 := j5.cl
  have j6 := j5.set (.int .i64 (acc.getD 0 0) :: .int .i64 (acc.getD 1 0) :: .int .i64 (acc.getD 2 0) :: .int .u32 vw :: .int .u32 la :: .int .i64 nn :: .int .i64 cm :: lv :: .int .i64 0 :: .int .u32 0 :: .int .i64 0 :: .slice none 0 0 :: .int .u32 0 :: .slice none 0 0 :: .slice none 0 0 :: .slice none 0 0 :: (hsC zeroH ++ [.string ByteArray.empty]))
  have lv1 : one1 lv = true := hlv.one
  have hlv6 : LgRow (A5.upd A.next (some (.cells (.int .i64 (acc.getD 0 0) :: .int .i64 (acc.getD 1 0) :: .int .i64 (acc.getD 2 0) :: .int .u32 vw :: .int .u32 la :: .int .i64 nn :: .int .i64 cm :: lv :: .int .i64 0 :: .int .u32 0 :: .int .i64 0 :: .slice none 0 0 :: .int .u32 0 :: .slice none 0 0 :: .slice none 0 0 :: .slice none 0 0 :: (hsC zeroH ++ [.string ByteArray.empty])) 45 (some 0)))) (A.next + 4) lg lv := LgRow.kp (hlv.keep (Nat.le_refl _) (fun b _ _ => rfl) jycm.n) (KeepLo.one (by omega))
  have hst6 : ∀ X : St, storeC X (some 1) (some (.cells (.int .i64 (acc.getD 0 0) :: .int .i64 (acc.getD 1 0) :: .int .i64 (acc.getD 2 0) :: .int .u32 vw :: .int .u32 la :: .int .i64 nn :: .int .i64 cm :: .slice none 0 0 :: .int .i64 0 :: .int .u32 0 :: .int .i64 0 :: .slice none 0 0 :: .int .u32 0 :: .slice none 0 0 :: .slice none 0 0 :: .slice none 0 0 :: (hsC zeroH ++ [.string ByteArray.empty])) 45 (some 0))) A.next 7 lv = some (X.upd A.next (some (.cells (.int .i64 (acc.getD 0 0) :: .int .i64 (acc.getD 1 0) :: .int .i64 (acc.getD 2 0) :: .int .u32 vw :: .int .u32 la :: .int .i64 nn :: .int .i64 cm :: lv :: .int .i64 0 :: .int .u32 0 :: .int .i64 0 :: .slice none 0 0 :: .int .u32 0 :: .slice none 0 0 :: .slice none 0 0 :: .slice none 0 0 :: (hsC zeroH ++ [.string ByteArray.empty])) 45 (some 0)))) := fun X => (storeC_val lv1 (by omega) (by simp only [List.length_cons]; omega)).trans rfl
  simp (maxSteps := 1000000) (disch := (first | omega | (simp only [nx_alloc, nx_upd, len_cons, len_nil, List.length_set, List.length_map, List.length_append] <;> omega) | fail)) only [go_sem, h2, h3, h4, hm5, hcl5, hst6]
  clear hm5 hcl5 hst6 jycm hlv o5 j5
  generalize A5.upd A.next (some (.cells (.int .i64 (acc.getD 0 0) :: .int .i64 (acc.getD 1 0) :: .int .i64 (acc.getD 2 0) :: .int .u32 vw :: .int .u32 la :: .int .i64 nn :: .int .i64 cm :: lv :: .int .i64 0 :: .int .u32 0 :: .int .i64 0 :: .slice none 0 0 :: .int .u32 0 :: .slice none 0 0 :: .slice none 0 0 :: .slice none 0 0 :: (hsC zeroH ++ [.string ByteArray.empty])) 45 (some 0))) = A6 at *
  have hcl6 := j6.cl
  try simp (maxSteps := 1000000) (disch := (first | omega | (simp only [nx_alloc, nx_upd, len_cons, len_nil, List.length_set, List.length_map, List.length_append] <;> omega) | fail)) only [go_sem, h2, h3, h4, hcl6]
  rcases hcl : fixL s1 1 with ⟨cl, tcl, ecl⟩
  obtain ⟨wtcl, _, ccl, dcl, _, _⟩ := fixL_facts ws1 (by omega) (by omega) hcl
  by_cases zcl : ecl = 0
  rotate_left
  · refine callp (numI_pan w0 A6 (A.next + 2) s1 1 j6.rd ws1 hcl zcl) ?_
    simp (maxSteps := 1000000) (disch := (first | omega | (simp only [nx_alloc, nx_upd, len_cons, len_nil, List.length_set, List.length_map, List.length_append] <;> omega) | fail)) only [go_sem, after_pan, funQR_panic, leaveKR_fn]
    refine dec_fail j6 (by simp only [List.length_cons, List.length_append, hsC_len]; rfl) ?_ ?_ (by rw [hdl]; unfold decL; simp [hcl, zcl])
    · simp (maxSteps := 1000000) (disch := (first | omega | (simp only [nx_alloc, nx_upd, len_cons, len_nil, List.length_set, List.length_map, List.length_append] <;> omega) | fail)) only [go_sem, h2]
    · simp (maxSteps := 1000000) (disch := (first | omega | (simp only [nx_alloc, nx_upd, len_cons, len_nil, List.length_set, List.length_map, List.length_append] <;> omega) | fail)) only [go_sem, h3]
  subst zcl
  refine call1 (numI_ok w0 A6 (A.next + 2) s1 1 j6.rd ws1 (by omega) (by omega) hcl) ?_
  have hm6 := (j6.rdr tcl).ms
  have hcm6 := (j6.rdr tcl).cl
  have j7 := (j6.rdr tcl).set (.int .i64 (acc.getD 0 0) :: .int .i64 (acc.getD 1 0) :: .int .i64 (acc.getD 2 0) :: .int .u32 vw :: .int .u32 la :: .int .i64 nn :: .int .i64 cm :: lv :: .int .i64 cl :: .int .u32 0 :: .int .i64 0 :: .slice none 0 0 :: .int .u32 0 :: .slice none 0 0 :: .slice none 0 0 :: .slice none 0 0 :: (hsC zeroH ++ [.string ByteArray.empty]))
  simp (maxSteps := 1000000) (disch := (first | omega | (simp only [nx_alloc, nx_upd, len_cons, len_nil, List.length_set, List.length_map, List.length_append] <;> omega) | fail)) only [go_sem, h2, h3, h4, hm6, hcm6]
  have hlv7 := hlv6.kp (KeepLo.two (lo := A.next + 4) (a := A.next) (c := A.next + 2) (B1 := some (rdW tcl)) (B2 := some (.cells (.int .i64 (acc.getD 0 0) :: .int .i64 (acc.getD 1 0) :: .int .i64 (acc.getD 2 0) :: .int .u32 vw :: .int .u32 la :: .int .i64 nn :: .int .i64 cm :: lv :: .int .i64 cl :: .int .u32 0 :: .int .i64 0 :: .slice none 0 0 :: .int .u32 0 :: .slice none 0 0 :: .slice none 0 0 :: .slice none 0 0 :: (hsC zeroH ++ [.string ByteArray.empty])) 45 (some 0))) (by omega) (by omega))
  clear hm6 hcm6 hcl6 j6
  generalize (A6.upd (A.next + 2) (some (rdW tcl))).upd A.next (some (.cells (.int .i64 (acc.getD 0 0) :: .int .i64 (acc.getD 1 0) :: .int .i64 (acc.getD 2 0) :: .int .u32 vw :: .int .u32 la :: .int .i64 nn :: .int .i64 cm :: lv :: .int .i64 cl :: .int .u32 0 :: .int .i64 0 :: .slice none 0 0 :: .int .u32 0 :: .slice none 0 0 :: .slice none 0 0 :: .slice none 0 0 :: (hsC zeroH ++ [.string ByteArray.empty])) 45 (some 0))) = A7 at *
  have hcl7 := j7.cl
  try simp (maxSteps := 1000000) (disch := (first | omega | (simp only [nx_alloc, nx_upd, len_cons, len_nil, List.length_set, List.length_map, List.length_append] <;> omega) | fail)) only [go_sem, h2, h3, h4, hcl7]
  rcases hsq : fixL tcl 4 with ⟨sq, tsq, esq⟩
  obtain ⟨wtsq, _, csq, dsq, _, _⟩ := fixL_facts wtcl (by omega) (by omega) hsq
  by_cases zsq : esq = 0
  rotate_left
  · refine callp (numU_pan w0 A7 (A.next + 2) tcl 4 j7.rd wtcl hsq zsq) ?_
    simp (maxSteps := 1000000) (disch := (first | omega | (simp only [nx_alloc, nx_upd, len_cons, len_nil, List.length_set, List.length_map, List.length_append] <;> omega) | fail)) only [go_sem, after_pan, funQR_panic, leaveKR_fn]
    refine dec_fail j7 (by simp only [List.length_cons, List.length_append, hsC_len]; rfl) ?_ ?_ (by rw [hdl]; unfold decL; simp [hcl, hsq, zsq])
    · simp (maxSteps := 1000000) (disch := (first | omega | (simp only [nx_alloc, nx_upd, len_cons, len_nil, List.length_set, List.length_map, List.length_append] <;> omega) | fail)) only [go_sem, h2]
    · simp (maxSteps := 1000000) (disch := (first | omega | (simp only [nx_alloc, nx_upd, len_cons, len_nil, List.length_set, List.length_map, List.length_append] <;> omega) | fail)) only [go_sem, h3]
  subst zsq
  refine call1 (numU_ok w0 A7 (A.next + 2) tcl 4 j7.rd wtcl (by omega) (by omega) hsq) ?_
  have hm7 := (j7.rdr tsq).ms
  have hcm7 := (j7.rdr tsq).cl
  have j8 := (j7.rdr tsq).set (.int .i64 (acc.getD 0 0) :: .int .i64 (acc.getD 1 0) :: .int .i64 (acc.getD 2 0) :: .int .u32 vw :: .int .u32 la :: .int .i64 nn :: .int .i64 cm :: lv :: .int .i64 cl :: .int .u32 sq :: .int .i64 0 :: .slice none 0 0 :: .int .u32 0 :: .slice none 0 0 :: .slice none 0 0 :: .slice none 0 0 :: (hsC zeroH ++ [.string ByteArray.empty]))
  simp (maxSteps := 1000000) (disch := (first | omega | (simp only [nx_alloc, nx_upd, len_cons, len_nil, List.length_set, List.length_map, List.length_append] <;> omega) | fail)) only [go_sem, h2, h3, h4, hm7, hcm7]
  have hlv8 := hlv7.kp (KeepLo.two (lo := A.next + 4) (a := A.next) (c := A.next + 2) (B1 := some (rdW tsq)) (B2 := some (.cells (.int .i64 (acc.getD 0 0) :: .int .i64 (acc.getD 1 0) :: .int .i64 (acc.getD 2 0) :: .int .u32 vw :: .int .u32 la :: .int .i64 nn :: .int .i64 cm :: lv :: .int .i64 cl :: .int .u32 sq :: .int .i64 0 :: .slice none 0 0 :: .int .u32 0 :: .slice none 0 0 :: .slice none 0 0 :: .slice none 0 0 :: (hsC zeroH ++ [.string ByteArray.empty])) 45 (some 0))) (by omega) (by omega))
  clear hm7 hcm7 hcl7 j7
  generalize (A7.upd (A.next + 2) (some (rdW tsq))).upd A.next (some (.cells (.int .i64 (acc.getD 0 0) :: .int .i64 (acc.getD 1 0) :: .int .i64 (acc.getD 2 0) :: .int .u32 vw :: .int .u32 la :: .int .i64 nn :: .int .i64 cm :: lv :: .int .i64 cl :: .int .u32 sq :: .int .i64 0 :: .slice none 0 0 :: .int .u32 0 :: .slice none 0 0 :: .slice none 0 0 :: .slice none 0 0 :: (hsC zeroH ++ [.string ByteArray.empty])) 45 (some 0))) = A8 at *
  have hcl8 := j8.cl
  try simp (maxSteps := 1000000) (disch := (first | omega | (simp only [nx_alloc, nx_upd, len_cons, len_nil, List.length_set, List.length_map, List.length_append] <;> omega) | fail)) only [go_sem, h2, h3, h4, hcl8]
  rcases hrr : fixL tsq 2 with ⟨rr, trr, err⟩
  obtain ⟨wtrr, _, crr, drr, _, _⟩ := fixL_facts wtsq (by omega) (by omega) hrr
  by_cases zrr : err = 0
  rotate_left
  · refine callp (numE_pan w0 A8 (A.next + 2) tsq 2 j8.rd wtsq hrr zrr) ?_
    simp (maxSteps := 1000000) (disch := (first | omega | (simp only [nx_alloc, nx_upd, len_cons, len_nil, List.length_set, List.length_map, List.length_append] <;> omega) | fail)) only [go_sem, after_pan, funQR_panic, leaveKR_fn]
    refine dec_fail j8 (by simp only [List.length_cons, List.length_append, hsC_len]; rfl) ?_ ?_ (by rw [hdl]; unfold decL; simp [hcl, hsq, hrr, zrr])
    · simp (maxSteps := 1000000) (disch := (first | omega | (simp only [nx_alloc, nx_upd, len_cons, len_nil, List.length_set, List.length_map, List.length_append] <;> omega) | fail)) only [go_sem, h2]
    · simp (maxSteps := 1000000) (disch := (first | omega | (simp only [nx_alloc, nx_upd, len_cons, len_nil, List.length_set, List.length_map, List.length_append] <;> omega) | fail)) only [go_sem, h3]
  subst zrr
  refine call1 (numE_ok w0 A8 (A.next + 2) tsq 2 j8.rd wtsq (by omega) (by omega) hrr) ?_
  have hm8 := (j8.rdr trr).ms
  have hcm8 := (j8.rdr trr).cl
  have j9 := (j8.rdr trr).set (.int .i64 (acc.getD 0 0) :: .int .i64 (acc.getD 1 0) :: .int .i64 (acc.getD 2 0) :: .int .u32 vw :: .int .u32 la :: .int .i64 nn :: .int .i64 cm :: lv :: .int .i64 cl :: .int .u32 sq :: .int .i64 rr :: .slice none 0 0 :: .int .u32 0 :: .slice none 0 0 :: .slice none 0 0 :: .slice none 0 0 :: (hsC zeroH ++ [.string ByteArray.empty]))
  simp (maxSteps := 1000000) (disch := (first | omega | (simp only [nx_alloc, nx_upd, len_cons, len_nil, List.length_set, List.length_map, List.length_append] <;> omega) | fail)) only [go_sem, h2, h3, h4, hm8, hcm8]
  have hlv9 := hlv8.kp (KeepLo.two (lo := A.next + 4) (a := A.next) (c := A.next + 2) (B1 := some (rdW trr)) (B2 := some (.cells (.int .i64 (acc.getD 0 0) :: .int .i64 (acc.getD 1 0) :: .int .i64 (acc.getD 2 0) :: .int .u32 vw :: .int .u32 la :: .int .i64 nn :: .int .i64 cm :: lv :: .int .i64 cl :: .int .u32 sq :: .int .i64 rr :: .slice none 0 0 :: .int .u32 0 :: .slice none 0 0 :: .slice none 0 0 :: .slice none 0 0 :: (hsC zeroH ++ [.string ByteArray.empty])) 45 (some 0))) (by omega) (by omega))
  clear hm8 hcm8 hcl8 j8
  generalize (A8.upd (A.next + 2) (some (rdW trr))).upd A.next (some (.cells (.int .i64 (acc.getD 0 0) :: .int .i64 (acc.getD 1 0) :: .int .i64 (acc.getD 2 0) :: .int .u32 vw :: .int .u32 la :: .int .i64 nn :: .int .i64 cm :: lv :: .int .i64 cl :: .int .u32 sq :: .int .i64 rr :: .slice none 0 0 :: .int .u32 0 :: .slice none 0 0 :: .slice none 0 0 :: .slice none 0 0 :: (hsC zeroH ++ [.string ByteArray.empty])) 45 (some 0))) = A9 at *
  have hcl9 := j9.cl
  try simp (maxSteps := 1000000) (disch := (first | omega | (simp only [nx_alloc, nx_upd, len_cons, len_nil, List.length_set, List.length_map, List.length_append] <;> omega) | fail)) only [go_sem, h2, h3, h4, hcl9]
  rcases hids : listU 8 trr with ⟨ids, s2, e2⟩
  refine (listU_ok w0 A9 (A.next + 2) trr 8 j9.rd wtrr (by decide) (A.next + 3) 76 (some 0) (by have := j9.n; omega) (by omega) hcl9).mono ?_
  rw [hids]
  intro e A10 he
  by_cases z2 : e2 = 0
  rotate_left
  · obtain ⟨rfl, s', rfl⟩ := rd_pan z2 he
    simp (maxSteps := 1000000) (disch := (first | omega | (simp only [nx_alloc, nx_upd, len_cons, len_nil, List.length_set, List.length_map, List.length_append] <;> omega) | fail)) only [go_sem, after_pan, funQR_panic, leaveKR_fn]
    refine dec_fail (j9.rdr s') (by simp only [List.length_cons, List.length_append, hsC_len]; rfl) ?_ ?_ (by rw [hdl]; unfold decL; simp [hcl, hsq, hrr, hids, z2])
    · simp (maxSteps := 1000000) (disch := (first | omega | (simp only [nx_alloc, nx_upd, len_cons, len_nil, List.length_set, List.length_map, List.length_append] <;> omega) | fail)) only [go_sem, h2]
    · simp (maxSteps := 1000000) (disch := (first | omega | (simp only [nx_alloc, nx_upd, len_cons, len_nil, List.length_set, List.length_map, List.length_append] <;> omega) | fail)) only [go_sem, h3]
  subst z2
  obtain ⟨iv, rfl, o10, hiv⟩ := rd_ok he
  have j10 := (j9.rdr s2).ext o10
  obtain ⟨ws2, idl, idr, idx⟩ := listU_rw wtrr hids
  have hm10 := j10.ms
  have hcl10 := j10.cl
  have j11 := j10.set (.int .i64 (acc.getD 0 0) :: .int .i64 (acc.getD 1 0) :: .int .i64 (acc.getD 2 0) :: .int .u32 vw :: .int .u32 la :: .int .i64 nn :: .int .i64 cm :: lv :: .int .i64 cl :: .int .u32 sq :: .int .i64 rr :: iv :: .int .u32 0 :: .slice none 0 0 :: .slice none 0 0 :: .slice none 0 0 :: (hsC zeroH ++ [.string ByteArray.empty]))
  have iv1 : one1 iv = true := Row.one1' hiv
  have hlv10 := hlv9.kp (KeepLo.go (lo := A.next + 4) (a := A.next) (B2 := some (.cells (.int .i64 (acc.getD 0 0) :: .int .i64 (acc.getD 1 0) :: .int .i64 (acc.getD 2 0) :: .int .u32 vw :: .int .u32 la :: .int .i64 nn :: .int .i64 cm :: lv :: .int .i64 cl :: .int .u32 sq :: .int .i64 rr :: iv :: .int .u32 0 :: .slice none 0 0 :: .slice none 0 0 :: .slice none 0 0 :: (hsC zeroH ++ [.string ByteArray.empty])) 45 (some 0))) (by omega) (by omega) o10)
  have hiv10 : IdRow (A10.upd A.next (some (.cells (.int .i64 (acc.getD 0 0) :: .int .i64 (acc.getD 1 0) :: .int .i64 (acc.getD 2 0) :: .int .u32 vw :: .int .u32 la :: .int .i64 nn :: .int .i64 cm :: lv :: .int .i64 cl :: .int .u32 sq :: .int .i64 rr :: iv :: .int .u32 0 :: .slice none 0 0 :: .slice none 0 0 :: .slice none 0 0 :: (hsC zeroH ++ [.string ByteArray.empty])) 45 (some 0)))) (A.next + 4) ids iv := Row.kp (Row.keep hiv (Nat.le_refl _) (fun b _ _ _ => rfl) j9.n) (KeepLo.one (by omega))
  have hst10 : ∀ X : St, storeC X (some 1) (some (.cells (.int .i64 (acc.getD 0 0) :: .int .i64 (acc.getD 1 0) :: .int .i64 (acc.getD 2 0) :: .int .u32 vw :: .int .u32 la :: .int .i64 nn :: .int .i64 cm :: lv :: .int .i64 cl :: .int .u32 sq :: .int .i64 rr :: .slice none 0 0 :: .int .u32 0 :: .slice none 0 0 :: .slice none 0 0 :: .slice none 0 0 :: (hsC zeroH ++ [.string ByteArray.empty])) 45 (some 0))) A.next 11 iv = some (X.upd A.next (some (.cells (.int .i64 (acc.getD 0 0) :: .int .i64 (acc.getD 1 0) :: .int .i64 (acc.getD 2 0) :: .int .u32 vw :: .int .u32 la :: .int .i64 nn :: .int .i64 cm :: lv :: .int .i64 cl :: .int .u32 sq :: .int .i64 rr :: iv :: .int .u32 0 :: .slice none 0 0 :: .slice none 0 0 :: .slice none 0 0 :: (hsC zeroH ++ [.string ByteArray.empty])) 45 (some 0)))) := fun X => (storeC_val iv1 (by omega) (by simp only [List.length_cons]; omega)).trans rfl
  simp (maxSteps := 1000000) (disch := (first | omega | (simp only [nx_alloc, nx_upd, len_cons, len_nil, List.length_set, List.length_map, List.length_append] <;> omega) | fail)) only [go_sem, h2, h3, h4, hm10, hcl10, hst10]
  clear hm10 hcl10 hst10 hlv9 hiv hcl9 j9 j10 o10
  generalize A10.upd A.next (some (.cells (.int .i64 (acc.getD 0 0) :: .int .i64 (acc.getD 1 0) :: .int .i64 (acc.getD 2 0) :: .int .u32 vw :: .int .u32 la :: .int .i64 nn :: .int .i64 cm :: lv :: .int .i64 cl :: .int .u32 sq :: .int .i64 rr :: iv :: .int .u32 0 :: .slice none 0 0 :: .slice none 0 0 :: .slice none 0 0 :: (hsC zeroH ++ [.string ByteArray.empty])) 45 (some 0))) = A11 at *
  have hcl11 := j11.cl
  try simp (maxSteps := 1000000) (disch := (first | omega | (simp only [nx_alloc, nx_upd, len_cons, len_nil, List.length_set, List.length_map, List.length_append] <;> omega) | fail)) only [go_sem, h2, h3, h4, hcl11]
  rcases hV : progR s2 with ⟨V, s3, e3⟩
  refine (wver_ok w0 A11 (A.next + 2) s2 j11.rd ws2).mono ?_
  rw [hV]
  intro e A12 he
  by_cases z3 : e3 = 0
  rotate_left
  · obtain ⟨rfl, s', rfl⟩ := rd_pan z3 he
    simp (maxSteps := 1000000) (disch := (first | omega | (simp only [nx_alloc, nx_upd, len_cons, len_nil, List.length_set, List.length_map, List.length_append] <;> omega) | fail)) only [go_sem, after_pan, funQR_panic, leaveKR_fn]
    refine dec_fail (j11.rdr s') (by simp only [List.length_cons, List.length_append, hsC_len]; rfl) ?_ ?_ (by rw [hdl]; unfold decL; simp [hcl, hsq, hrr, hids, hV, z3])
    · simp (maxSteps := 1000000) (disch := (first | omega | (simp only [nx_alloc, nx_upd, len_cons, len_nil, List.length_set, List.length_map, List.length_append] <;> omega) | fail)) only [go_sem, h2]
    · simp (maxSteps := 1000000) (disch := (first | omega | (simp only [nx_alloc, nx_upd, len_cons, len_nil, List.length_set, List.length_map, List.length_append] <;> omega) | fail)) only [go_sem, h3]
  subst z3
  obtain ⟨vv, rfl, o12, hvr⟩ := rd_ok he
  have hdt : decP r = decT { ({ msg0 with kind := acc.getD 0 0, src := acc.getD 1 0, dst := acc.getD 2 0, view := vw, last := la, n := nn, commit := cm, log := lg }) with client := cl, seq := sq, reply := ⟨rr, ids, V⟩ } s3 := by rw [hdl]; unfold decL; simp [hcl, hsq, hrr, hids, hV]
  obtain ⟨p, q, u, rfl, v1, v2, v3⟩ := hvr
  have hvr : VerRow A12 A11.next V (.agg #[.int .u32 V.id, p, q, u]) := ⟨p, q, u, rfl, v1, v2, v3⟩
  have j12 := (j11.rdr s3).ext o12
  obtain ⟨ws3, hvs, hvk, hvm⟩ := progR_rw ws2 hV
  have hm12 := j12.ms
  have hcl12 := j12.cl
  have j13 := j12.set (.int .i64 (acc.getD 0 0) :: .int .i64 (acc.getD 1 0) :: .int .i64 (acc.getD 2 0) :: .int .u32 vw :: .int .u32 la :: .int .i64 nn :: .int .i64 cm :: lv :: .int .i64 cl :: .int .u32 sq :: .int .i64 rr :: iv :: .int .u32 V.id :: p :: q :: u :: (hsC zeroH ++ [.string ByteArray.empty]))
  have hlv13 := hlv10.kp (KeepLo.go (lo := A.next + 4) (a := A.next) (B2 := some (.cells (.int .i64 (acc.getD 0 0) :: .int .i64 (acc.getD 1 0) :: .int .i64 (acc.getD 2 0) :: .int .u32 vw :: .int .u32 la :: .int .i64 nn :: .int .i64 cm :: lv :: .int .i64 cl :: .int .u32 sq :: .int .i64 rr :: iv :: .int .u32 V.id :: p :: q :: u :: (hsC zeroH ++ [.string ByteArray.empty])) 45 (some 0))) (by omega) (by omega) o12)
  have hiv13 := Row.kp hiv10 (KeepLo.go (lo := A.next + 4) (a := A.next) (B2 := some (.cells (.int .i64 (acc.getD 0 0) :: .int .i64 (acc.getD 1 0) :: .int .i64 (acc.getD 2 0) :: .int .u32 vw :: .int .u32 la :: .int .i64 nn :: .int .i64 cm :: lv :: .int .i64 cl :: .int .u32 sq :: .int .i64 rr :: iv :: .int .u32 V.id :: p :: q :: u :: (hsC zeroH ++ [.string ByteArray.empty])) 45 (some 0))) (by omega) (by omega) o12)
  have hvr13 : VerRow (A12.upd A.next (some (.cells (.int .i64 (acc.getD 0 0) :: .int .i64 (acc.getD 1 0) :: .int .i64 (acc.getD 2 0) :: .int .u32 vw :: .int .u32 la :: .int .i64 nn :: .int .i64 cm :: lv :: .int .i64 cl :: .int .u32 sq :: .int .i64 rr :: iv :: .int .u32 V.id :: p :: q :: u :: (hsC zeroH ++ [.string ByteArray.empty])) 45 (some 0)))) (A.next + 4) V (.agg #[.int .u32 V.id, p, q, u]) := VerRow.kp (hvr.keep (Nat.le_refl _) (fun b _ _ => rfl) j11.n) (KeepLo.one (by omega))
  have hcc := (VerC.cell (A := A12) (V := V) (cs := [.int .u32 V.id, p, q, u]) ⟨_, _, _, rfl, Row.view v1, Row.view v2, Row.view v3⟩)
  have cp : cell1 p = true := List.all_eq_true.1 hcc p (by simp)
  have cq : cell1 q = true := List.all_eq_true.1 hcc q (by simp)
  have cu : cell1 u = true := List.all_eq_true.1 hcc u (by simp)
  have hst12 : ∀ X : St, storeC X (some 4) (some (.cells (.int .i64 (acc.getD 0 0) :: .int .i64 (acc.getD 1 0) :: .int .i64 (acc.getD 2 0) :: .int .u32 vw :: .int .u32 la :: .int .i64 nn :: .int .i64 cm :: lv :: .int .i64 cl :: .int .u32 sq :: .int .i64 rr :: iv :: .int .u32 0 :: .slice none 0 0 :: .slice none 0 0 :: .slice none 0 0 :: (hsC zeroH ++ [.string ByteArray.empty])) 45 (some 0))) A.next 12 (.agg #[.int .u32 V.id, p, q, u]) = some (X.upd A.next (some (.cells (.int .i64 (acc.getD 0 0) :: .int .i64 (acc.getD 1 0) :: .int .i64 (acc.getD 2 0) :: .int .u32 vw :: .int .u32 la :: .int .i64 nn :: .int .i64 cm :: lv :: .int .i64 cl :: .int .u32 sq :: .int .i64 rr :: iv :: .int .u32 V.id :: p :: q :: u :: (hsC zeroH ++ [.string ByteArray.empty])) 45 (some 0)))) := fun X => by
    refine (storeC_cells _ 4 A.next 12 0 _ _ _ ⟨rfl, by omega, by show 12 + 4 ≤ _; simp only [List.length_cons, List.length_append, hsC_len]; omega, ?_⟩).trans rfl
    simp [Value.cells, cp, cq, cu]; rfl
  have hrd12 := j12.rd
  have hss := str_size s3
  unfold rdW at hrd12
  by_cases h32 : 32 ≤ s3.length
  rotate_left
  · have h32' : ((strOfNums s3).size : Int) < 32 := by omega
    simp (maxSteps := 1000000) (disch := (first | omega | (simp only [nx_alloc, nx_upd, len_cons, len_nil, List.length_set, List.length_map, List.length_append] <;> omega) | fail)) only [go_sem, h2, h3, h4, hm12, hcl12, hst12, hrd12, ifU, funQR_panic, leaveKR_fn]
    have hH : hashS (s3, 0) = (zeroH, (s3, 40)) := by unfold hashS; rw [if_neg (by simp), dif_neg h32]
    refine dec_fail (e := 40) j13 (by simp only [List.length_cons, List.length_append, hsC_len]; rfl) ?_ ?_ (by rw [hdt]; unfold decT; simp [hH])
    · simp (maxSteps := 1000000) (disch := (first | omega | (simp only [nx_alloc, nx_upd, len_cons, len_nil, List.length_set, List.length_map, List.length_append] <;> omega) | fail)) only [go_sem, h2]
    · simp (maxSteps := 1000000) (disch := (first | omega | (simp only [nx_alloc, nx_upd, len_cons, len_nil, List.length_set, List.length_map, List.length_append] <;> omega) | fail)) only [go_sem, h3]
  have h32' : ¬ ((strOfNums s3).size : Int) < 32 := by omega
  have h32n : 32 ≤ (strOfNums s3).size := by omega
  have hl32 : (s3.take 32).length = 32 := by rw [List.length_take]; omega
  obtain ⟨hh, hhe⟩ : ∃ h : HashT, h = ⟨s3.take 32, hl32⟩ := ⟨⟨s3.take 32, hl32⟩, rfl⟩
  have hH : hashS (s3, 0) = (hh, (s3.drop 32, 0)) := by unfold hashS; rw [if_neg (by simp), dif_pos h32, hhe]
  have hnr := nums_str ws3.1
  have x2 := str_drop ws3.1 32
  rw [← hss] at x2
  have hhc : ((nums (strOfNums s3)).take 32).map (Value.int .u8 ·) = hsC hh := by rw [hnr, hhe]; rfl
  simp (maxSteps := 1000000) (disch := (first | omega | (simp only [nx_alloc, nx_upd, len_cons, len_nil, List.length_set, List.length_map, List.length_append] <;> omega) | fail)) only [go_sem, h2, h3, h4, hm12, hcl12, hst12, hrd12]
  clear hm12 hcl12 hst12 hrd12 hlv10 hiv10 hvr j11 j12 o12 v1 v2 v3
  generalize A12.upd A.next (some (.cells (.int .i64 (acc.getD 0 0) :: .int .i64 (acc.getD 1 0) :: .int .i64 (acc.getD 2 0) :: .int .u32 vw :: .int .u32 la :: .int .i64 nn :: .int .i64 cm :: lv :: .int .i64 cl :: .int .u32 sq :: .int .i64 rr :: iv :: .int .u32 V.id :: p :: q :: u :: (hsC zeroH ++ [.string ByteArray.empty])) 45 (some 0))) = A13 at *
  have hcl13 := j13.cl
  have hrd13 := j13.rd
  unfold rdW at hrd13
  have hcp := copy_strM (P := Try.prog) (A := A13) (b := A.next) (dT := 66) (e := 45) (s := strOfNums s3) (pre := [.int .i64 (acc.getD 0 0), .int .i64 (acc.getD 1 0), .int .i64 (acc.getD 2 0), .int .u32 vw, .int .u32 la, .int .i64 nn, .int .i64 cm, lv, .int .i64 cl, .int .u32 sq, .int .i64 rr, iv, .int .u32 V.id, p, q, u]) (z := hsC zeroH) (post := [.string ByteArray.empty]) rfl (hsC_len _) Try.el66 Try.sz5 j13.ms h32n
  rw [hhc] at hcp
  have j14 : DJ A (.int .i64 (acc.getD 0 0) :: .int .i64 (acc.getD 1 0) :: .int .i64 (acc.getD 2 0) :: .int .u32 vw :: .int .u32 la :: .int .i64 nn :: .int .i64 cm :: lv :: .int .i64 cl :: .int .u32 sq :: .int .i64 rr :: iv :: .int .u32 V.id :: p :: q :: u :: (hsC hh ++ [.string ByteArray.empty])) s3 (A13.upd A.next (some (.cells (.int .i64 (acc.getD 0 0) :: .int .i64 (acc.getD 1 0) :: .int .i64 (acc.getD 2 0) :: .int .u32 vw :: .int .u32 la :: .int .i64 nn :: .int .i64 cm :: lv :: .int .i64 cl :: .int .u32 sq :: .int .i64 rr :: iv :: .int .u32 V.id :: p :: q :: u :: (hsC hh ++ [.string ByteArray.empty])) 45 (some 0)))) := j13.set _
  have hlv14 := hlv13.kp (KeepLo.one (lo := A.next + 4) (a := A.next) (B1 := some (.cells (.int .i64 (acc.getD 0 0) :: .int .i64 (acc.getD 1 0) :: .int .i64 (acc.getD 2 0) :: .int .u32 vw :: .int .u32 la :: .int .i64 nn :: .int .i64 cm :: lv :: .int .i64 cl :: .int .u32 sq :: .int .i64 rr :: iv :: .int .u32 V.id :: p :: q :: u :: (hsC hh ++ [.string ByteArray.empty])) 45 (some 0))) (by omega))
  have hiv14 := Row.kp hiv13 (KeepLo.one (lo := A.next + 4) (a := A.next) (B1 := some (.cells (.int .i64 (acc.getD 0 0) :: .int .i64 (acc.getD 1 0) :: .int .i64 (acc.getD 2 0) :: .int .u32 vw :: .int .u32 la :: .int .i64 nn :: .int .i64 cm :: lv :: .int .i64 cl :: .int .u32 sq :: .int .i64 rr :: iv :: .int .u32 V.id :: p :: q :: u :: (hsC hh ++ [.string ByteArray.empty])) 45 (some 0))) (by omega))
  have hvr14 := hvr13.kp (KeepLo.one (lo := A.next + 4) (a := A.next) (B1 := some (.cells (.int .i64 (acc.getD 0 0) :: .int .i64 (acc.getD 1 0) :: .int .i64 (acc.getD 2 0) :: .int .u32 vw :: .int .u32 la :: .int .i64 nn :: .int .i64 cm :: lv :: .int .i64 cl :: .int .u32 sq :: .int .i64 rr :: iv :: .int .u32 V.id :: p :: q :: u :: (hsC hh ++ [.string ByteArray.empty])) 45 (some 0))) (by omega))
  change acopy _ _ _ _ _ = some (.int .i64 32, A13.upd A.next (some (.cells (.int .i64 (acc.getD 0 0) :: .int .i64 (acc.getD 1 0) :: .int .i64 (acc.getD 2 0) :: .int .u32 vw :: .int .u32 la :: .int .i64 nn :: .int .i64 cm :: lv :: .int .i64 cl :: .int .u32 sq :: .int .i64 rr :: iv :: .int .u32 V.id :: p :: q :: u :: (hsC hh ++ [.string ByteArray.empty])) 45 (some 0)))) at hcp
  refine aw_draw2 [⟨false, [], [0]⟩, ⟨false, [0], [0]⟩, ⟨false, [], [0]⟩, ⟨false, [2], [0]⟩, ⟨false, [2, 3], [0]⟩, ⟨false, [2, 3, 4], [0]⟩, ⟨true, [0, 1, 2, 3, 4, 5], [0]⟩] [A13, A13.upd A.next (some (.cells (.int .i64 (acc.getD 0 0) :: .int .i64 (acc.getD 1 0) :: .int .i64 (acc.getD 2 0) :: .int .u32 vw :: .int .u32 la :: .int .i64 nn :: .int .i64 cm :: lv :: .int .i64 cl :: .int .u32 sq :: .int .i64 rr :: iv :: .int .u32 V.id :: p :: q :: u :: (hsC hh ++ [.string ByteArray.empty])) 45 (some 0)))] 1 (by kernel_rfl) (by kernel_rfl) rfl ?_
  simp (maxSteps := 1000000) (disch := (first | omega | (simp only [nx_alloc, nx_upd, len_cons, len_nil, List.length_set, List.length_map, List.length_append] <;> omega) | fail)) only [go_sem, h2, h3, h4, hcl13, hrd13, hcp]
  rw [x2]
  clear hcp hcl13 hrd13 hlv13 hiv13 hvr13 j13
  generalize A13.upd A.next (some (.cells (.int .i64 (acc.getD 0 0) :: .int .i64 (acc.getD 1 0) :: .int .i64 (acc.getD 2 0) :: .int .u32 vw :: .int .u32 la :: .int .i64 nn :: .int .i64 cm :: lv :: .int .i64 cl :: .int .u32 sq :: .int .i64 rr :: iv :: .int .u32 V.id :: p :: q :: u :: (hsC hh ++ [.string ByteArray.empty])) 45 (some 0))) = A14 at *
  have wd : RW (s3.drop 32) := ⟨fun x hx => ws3.1 x (List.mem_of_mem_drop hx), by rw [List.length_drop]; have := ws3.2; omega⟩
  refine call1 (read_ok w0 A14 (strOfNums (s3.drop 32)) (by rw [str_size]; have := wd.2; omega)) ?_
  rw [nums_str wd.1]
  obtain ⟨rl1, rl2, rl3, rl4⟩ := readL_ok wd.1
  rcases hB : readL (s3.drop 32) with ⟨bx, t4, e4⟩
  rw [hB] at rl1 rl2 rl3 rl4
  simp only at rl1 rl2 rl3 rl4
  have wt4 : RW t4 := ⟨rl1, by have := wd.2; omega⟩
  unfold readV
  have hcl14 := j14.cl
  have her14 := j14.er
  simp (maxSteps := 1000000) (disch := (first | omega | (simp only [nx_alloc, nx_upd, len_cons, len_nil, List.length_set, List.length_map, List.length_append] <;> omega) | fail)) only [go_sem, h2, h3, h4, hcl14, her14]
  by_cases z4 : e4 = 0
  rotate_left
  · refine callp (wdone_pan w0 _ _ (strOfNums t4) e4 z4) ?_
    simp (maxSteps := 1000000) (disch := (first | omega | (simp only [nx_alloc, nx_upd, len_cons, len_nil, List.length_set, List.length_map, List.length_append] <;> omega) | fail)) only [go_sem, after_pan, funQR_panic, leaveKR_fn]
    refine dec_failE (j14.ov.upd (by omega) _) ((get_upd_old (by omega)).trans j14.ms) (get_upd_same ..) (by simp only [List.length_cons, List.length_append, hsC_len]; rfl) ?_ ?_ (by rw [hdt]; unfold decT; simp [hH, hB, z4])
    · simp (maxSteps := 1000000) (disch := (first | omega | (simp only [nx_alloc, nx_upd, len_cons, len_nil, List.length_set, List.length_map, List.length_append] <;> omega) | fail)) only [go_sem, h2]
    · simp (maxSteps := 1000000) (disch := (first | omega | (simp only [nx_alloc, nx_upd, len_cons, len_nil, List.length_set, List.length_map, List.length_append] <;> omega) | fail)) only [go_sem, h3]
  subst z4
  have j15 := j14.err
  have hlv15 := hlv14.kp (KeepLo.one (lo := A.next + 4) (a := A.next + 1) (B1 := some (.cells [.int .i64 0] 38 (some 0))) (by omega))
  have hiv15 := Row.kp hiv14 (KeepLo.one (lo := A.next + 4) (a := A.next + 1) (B1 := some (.cells [.int .i64 0] 38 (some 0))) (by omega))
  have hvr15 := hvr14.kp (KeepLo.one (lo := A.next + 4) (a := A.next + 1) (B1 := some (.cells [.int .i64 0] 38 (some 0))) (by omega))
  clear hcl14 her14 hlv14 hiv14 hvr14 j14
  generalize A14.upd (A.next + 1) (some (.cells [.int .i64 0] 38 (some 0))) = A15 at *
  refine call1 (wdone_ok w0 A15 (A.next + 2) s3 t4 j15.rd) ?_
  have hm15 := (j15.rdr t4).ms
  have hcl15 := (j15.rdr t4).cl
  have hrd15 := (j15.rdr t4).rd
  have j16 := (j15.rdr t4).set (.int .i64 (acc.getD 0 0) :: .int .i64 (acc.getD 1 0) :: .int .i64 (acc.getD 2 0) :: .int .u32 vw :: .int .u32 la :: .int .i64 nn :: .int .i64 cm :: lv :: .int .i64 cl :: .int .u32 sq :: .int .i64 rr :: iv :: .int .u32 V.id :: p :: q :: u :: (hsC hh ++ [.string (strOfNums bx)]))
  have hlv16 := hlv15.kp (KeepLo.two (lo := A.next + 4) (a := A.next) (c := A.next + 2) (B1 := some (rdW t4)) (B2 := some (.cells (.int .i64 (acc.getD 0 0) :: .int .i64 (acc.getD 1 0) :: .int .i64 (acc.getD 2 0) :: .int .u32 vw :: .int .u32 la :: .int .i64 nn :: .int .i64 cm :: lv :: .int .i64 cl :: .int .u32 sq :: .int .i64 rr :: iv :: .int .u32 V.id :: p :: q :: u :: (hsC hh ++ [.string (strOfNums bx)])) 45 (some 0))) (by omega) (by omega))
  have hiv16 := Row.kp hiv15 (KeepLo.two (lo := A.next + 4) (a := A.next) (c := A.next + 2) (B1 := some (rdW t4)) (B2 := some (.cells (.int .i64 (acc.getD 0 0) :: .int .i64 (acc.getD 1 0) :: .int .i64 (acc.getD 2 0) :: .int .u32 vw :: .int .u32 la :: .int .i64 nn :: .int .i64 cm :: lv :: .int .i64 cl :: .int .u32 sq :: .int .i64 rr :: iv :: .int .u32 V.id :: p :: q :: u :: (hsC hh ++ [.string (strOfNums bx)])) 45 (some 0))) (by omega) (by omega))
  have hvr16 := hvr15.kp (KeepLo.two (lo := A.next + 4) (a := A.next) (c := A.next + 2) (B1 := some (rdW t4)) (B2 := some (.cells (.int .i64 (acc.getD 0 0) :: .int .i64 (acc.getD 1 0) :: .int .i64 (acc.getD 2 0) :: .int .u32 vw :: .int .u32 la :: .int .i64 nn :: .int .i64 cm :: lv :: .int .i64 cl :: .int .u32 sq :: .int .i64 rr :: iv :: .int .u32 V.id :: p :: q :: u :: (hsC hh ++ [.string (strOfNums bx)])) 45 (some 0))) (by omega) (by omega))
  have hst15 : ∀ X : St, storeC X (some 1) (some (.cells (.int .i64 (acc.getD 0 0) :: .int .i64 (acc.getD 1 0) :: .int .i64 (acc.getD 2 0) :: .int .u32 vw :: .int .u32 la :: .int .i64 nn :: .int .i64 cm :: lv :: .int .i64 cl :: .int .u32 sq :: .int .i64 rr :: iv :: .int .u32 V.id :: p :: q :: u :: (hsC hh ++ [.string ByteArray.empty])) 45 (some 0))) A.next 48 (.string (strOfNums bx)) = some (X.upd A.next (some (.cells (.int .i64 (acc.getD 0 0) :: .int .i64 (acc.getD 1 0) :: .int .i64 (acc.getD 2 0) :: .int .u32 vw :: .int .u32 la :: .int .i64 nn :: .int .i64 cm :: lv :: .int .i64 cl :: .int .u32 sq :: .int .i64 rr :: iv :: .int .u32 V.id :: p :: q :: u :: (hsC hh ++ [.string (strOfNums bx)])) 45 (some 0)))) := fun X => by
    refine (storeC_string _ _ _ _ _ _ (by omega) (by simp only [List.length_cons, List.length_append, hsC_len, List.length_nil]; omega)).trans ?_
    simp only [List.set_cons_succ, List.set_append_right _ _ (show (hsC hh).length ≤ 32 by rw [hsC_len]; omega), hsC_len, Nat.sub_self, List.set_cons_zero]
  unfold rdW at hrd15
  simp (maxSteps := 1000000) (disch := (first | omega | (simp only [nx_alloc, nx_upd, len_cons, len_nil, List.length_set, List.length_map, List.length_append] <;> omega) | fail)) only [go_sem, h2, h3, h4, hm15, hcl15, hst15]
  clear hm15 hcl15 hrd15 hst15 hlv15 hiv15 hvr15 j15
  generalize (A15.upd (A.next + 2) (some (rdW t4))).upd A.next (some (.cells (.int .i64 (acc.getD 0 0) :: .int .i64 (acc.getD 1 0) :: .int .i64 (acc.getD 2 0) :: .int .u32 vw :: .int .u32 la :: .int .i64 nn :: .int .i64 cm :: lv :: .int .i64 cl :: .int .u32 sq :: .int .i64 rr :: iv :: .int .u32 V.id :: p :: q :: u :: (hsC hh ++ [.string (strOfNums bx)])) 45 (some 0))) = A16 at *
  have hsz4 := str_size t4
  have hbsz := str_size bx
  have hm16 := j16.ms
  by_cases ht4 : t4 = []
  rotate_left
  · have hp4 : 0 < t4.length := List.length_pos_iff.2 ht4
    have hn4 : ¬ (strOfNums t4).size = 0 := by omega
    simp (maxSteps := 1000000) (disch := (first | omega | (simp only [nx_alloc, nx_upd, len_cons, len_nil, List.length_set, List.length_map, List.length_append] <;> omega) | fail)) only [go_sem, rdW, beq_emptyS, hn4, ifU, funQR_panic, leaveKR_fn]
    refine dec_fail (e := 42) j16 (by simp only [List.length_cons, List.length_append, hsC_len]; rfl) ?_ ?_ (by rw [hdt]; unfold decT; simp [hH, hB, ht4])
    · simp (maxSteps := 1000000) (disch := (first | omega | (simp only [nx_alloc, nx_upd, len_cons, len_nil, List.length_set, List.length_map, List.length_append] <;> omega) | fail)) only [go_sem, h2]
    · simp (maxSteps := 1000000) (disch := (first | omega | (simp only [nx_alloc, nx_upd, len_cons, len_nil, List.length_set, List.length_map, List.length_append] <;> omega) | fail)) only [go_sem, h3]
  have hn4 : (strOfNums t4).size = 0 := by rw [hsz4, ht4]; rfl
  have htk : List.take 33 (hsC hh ++ [Value.string (strOfNums bx)]) = hsC hh ++ [Value.string (strOfNums bx)] := List.take_of_length_le (by rw [List.length_append, hsC_len]; exact Nat.le_refl _)
  have hmcF : ∀ Y, KeepLo (A.next + 4) A16 Y → MsgC Y (MsgT.mk (acc.getD 0 0) (acc.getD 1 0) (acc.getD 2 0) vw la nn cm lg cl sq ⟨rr, ids, V⟩ hh (strOfNums bx)) (.int .i64 (acc.getD 0 0) :: .int .i64 (acc.getD 1 0) :: .int .i64 (acc.getD 2 0) :: .int .u32 vw :: .int .u32 la :: .int .i64 nn :: .int .i64 cm :: lv :: .int .i64 cl :: .int .u32 sq :: .int .i64 rr :: iv :: .int .u32 V.id :: p :: q :: u :: (hsC hh ++ [.string (strOfNums bx)])) := by
    intro Y kY
    obtain ⟨_, _, _, he0, q1, q2, q3⟩ := hvr16.kp kY
    injection he0 with he0
    injection he0 with he0
    simp only [List.cons.injEq, and_true, true_and] at he0
    obtain ⟨rfl, rfl, rfl⟩ := he0
    exact ⟨lv, iv, p, q, u, rfl, (hlv16.kp kY).view, Row.view (Row.kp hiv16 kY), Row.view q1, Row.view q2, Row.view q3⟩
  have hmc := hmcF A16 ⟨Nat.le_refl _, fun _ _ _ => rfl⟩
  have hsm : MsgT.small (MsgT.mk (acc.getD 0 0) (acc.getD 1 0) (acc.getD 2 0) vw la nn cm lg cl sq ⟨rr, ids, V⟩ hh (strOfNums bx)) := ⟨fun r hr => (lgx r hr).2.2, hvs, by show lg.length ≤ 1000; omega, by show ids.length ≤ 1000; omega, by show (strOfNums bx).size ≤ 2000000; have := wd.2; omega⟩
  have hld49 := fun e' m => ldN (n := 49) (e := e') (m := m) hmc.len
  have mcl : (.int .i64 (acc.getD 0 0) :: .int .i64 (acc.getD 1 0) :: .int .i64 (acc.getD 2 0) :: .int .u32 vw :: .int .u32 la :: .int .i64 nn :: .int .i64 cm :: lv :: .int .i64 cl :: .int .u32 sq :: .int .i64 rr :: iv :: .int .u32 V.id :: p :: q :: u :: (hsC hh ++ [.string (strOfNums bx)])).all cell1 = true := by
    simp only [List.all_cons, List.all_append, hsC_cell hh, cellOf1 hlv16.one, cellOf1 (Row.one1' hiv16), cp, cq, cu]; rfl
  have hst49 := fun X => stN (n := 49) (X := X) (b := A.next) (e := 45) hmc.len hmc.len mcl
  simp (maxSteps := 1000000) (disch := (first | omega | (simp only [nx_alloc, nx_upd, len_cons, len_nil, List.length_set, List.length_map, List.length_append] <;> omega) | fail)) only [go_sem, rdW, beq_emptyS, hn4, h2, h3, h4, hm16, hld49]
  refine call1 (wmay_ok w0 A16 _ _ hmc hsm (by have := hg 1; constructor <;> (show _ ≤ _; simp only; omega)) (by have := hg 2; constructor <;> (show _ ≤ _; simp only; omega))) ?_
  cases hmay : mayM (MsgT.mk (acc.getD 0 0) (acc.getD 1 0) (acc.getD 2 0) vw la nn cm lg cl sq ⟨rr, ids, V⟩ hh (strOfNums bx))
  · simp (maxSteps := 1000000) (disch := (first | omega | (simp only [nx_alloc, nx_upd, len_cons, len_nil, List.length_set, List.length_map, List.length_append] <;> omega) | fail)) only [go_sem]
    refine callp (sure_pan w0 A16) ?_
    simp (maxSteps := 1000000) (disch := (first | omega | (simp only [nx_alloc, nx_upd, len_cons, len_nil, List.length_set, List.length_map, List.length_append] <;> omega) | fail)) only [go_sem, after_pan, funQR_panic, leaveKR_fn]
    refine dec_fail (e := 1) j16 (by simp only [List.length_cons, List.length_append, hsC_len]; rfl) ?_ ?_ (by rw [hdt]; unfold decT; simp [-List.getD_eq_getElem?_getD, hH, hB, ht4, hmay])
    · simp (maxSteps := 1000000) (disch := (first | omega | (simp only [nx_alloc, nx_upd, len_cons, len_nil, List.length_set, List.length_map, List.length_append] <;> omega) | fail)) only [go_sem, h2]
    · simp (maxSteps := 1000000) (disch := (first | omega | (simp only [nx_alloc, nx_upd, len_cons, len_nil, List.length_set, List.length_map, List.length_append] <;> omega) | fail)) only [go_sem, h3]
  have hres : decP r = (MsgT.mk (acc.getD 0 0) (acc.getD 1 0) (acc.getD 2 0) vw la nn cm lg cl sq ⟨rr, ids, V⟩ hh (strOfNums bx), 0) := by rw [hdt]; unfold decT; simp [-List.getD_eq_getElem?_getD, hH, hB, ht4, hmay]
  simp (maxSteps := 1000000) (disch := (first | omega | (simp only [nx_alloc, nx_upd, len_cons, len_nil, List.length_set, List.length_map, List.length_append] <;> omega) | fail)) only [go_sem]
  refine call1 (sure_ok w0 A16) ?_
  have her16 := j16.er
  have j17 := (j16.set (.int .i64 (acc.getD 0 0) :: .int .i64 (acc.getD 1 0) :: .int .i64 (acc.getD 2 0) :: .int .u32 vw :: .int .u32 la :: .int .i64 nn :: .int .i64 cm :: lv :: .int .i64 cl :: .int .u32 sq :: .int .i64 rr :: iv :: .int .u32 V.id :: p :: q :: u :: (hsC hh ++ [.string (strOfNums bx)]))).err
  simp (maxSteps := 1000000) (disch := (first | omega | (simp only [nx_alloc, nx_upd, len_cons, len_nil, List.length_set, List.length_map, List.length_append] <;> omega) | fail)) only [go_sem, h2, h3, h4, hm16, hld49, hst49, her16, funQR_ret, leaveKR_fn]
  refine leaveR_none Try.enters39 (caught_none w0 _ (A.next + 1) _) ?_
  simp (maxSteps := 1000000) (disch := (first | omega | (simp only [nx_alloc, nx_upd, len_cons, len_nil, List.length_set, List.length_map, List.length_append] <;> omega) | fail)) only [go_sem, leaveKR_nil, hld49, h2, h3, Try.results16]
  rw [hres]
  exact gc_here ⟨_, rfl, j17.ov, hmcF _ (KeepLo.two (by omega) (by omega))⟩
end Go.Fw
