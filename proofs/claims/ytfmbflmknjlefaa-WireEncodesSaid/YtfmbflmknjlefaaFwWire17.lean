import Derived.Test.YtfmbflmknjlefaaFwWire16
set_option linter.unusedSimpArgs false
set_option linter.unusedVariables false
set_option maxRecDepth 4000
namespace Go.Fw
open Go.Proofs Go.RowKit
theorem Try.enters63 : Enters Try.prog 63 := enters_of Try.func63 rfl (by kernel_rfl)
theorem Try.enters24 : Enters Try.prog 24 := enters_of Try.func24 rfl (by kernel_rfl)
theorem Try.enters68 : Enters Try.prog 68 := enters_of Try.func68 rfl (by kernel_rfl)
theorem one_ok (w0 : World) (A : St) (n : Int) (h0 : 0 ≤ n) (h1 : n < 256) : ACalls Try.prog w0 63 #[.int .i64 n] A (fin (.string (strOfNums [n])) A) := by
  refine call_E Try.enters63 Try.func63 rfl (Nat.le_of_ble_eq_true rfl) fun hw hbd => ?_
  have hwc : IntKind.wrap .u8 n = n := IntWalk.u8_in _ (by constructor <;> omega)
  have htx : ∀ (X : St), textC X (some (.cells [.int .u8 n] 5 (some 0))) 0 1 = some (.string (strOfNums [n]), X) := fun X => textC_some (l := [n]) (by simp) rfl
  simp (maxSteps := 1000000) (disch := (first | omega | (simp only [nx_alloc, nx_upd, len_cons, len_nil, List.length_set, List.length_map, List.length_append] <;> omega) | fail)) only [go_sem, Try.ntmps63, Try.results63, hwc, htx]
  exact gc_fin hw ((Over.refl A).alloc _) (.string _)
theorem rend_ok (w0 : World) (A : St) (n : Int) : ACalls Try.prog w0 68 #[.int .i64 n] A (fin (.bool (endB n)) A) := by
  refine call_E Try.enters68 Try.func68 rfl (Nat.le_of_ble_eq_true rfl) fun hw hbd => ?_
  have hb : endB n = (decide (0 ≤ n) && decide (n ≤ 2) || (decide (10 ≤ n) && decide (n ≤ 12))) := by
    unfold endB cliB
    rw [Bool.eq_iff_iff]
    simp only [Bool.or_eq_true, Bool.and_eq_true, decide_eq_true_eq]
    omega
  rw [hb]
  by_cases h0 : 0 ≤ n
  · by_cases h2 : n ≤ 2
    · simp (maxSteps := 1000000) (disch := (first | omega | (simp only [nx_alloc, nx_upd, len_cons, len_nil, List.length_set, List.length_map, List.length_append] <;> omega) | fail)) only [go_sem, Try.ntmps68, Try.results68, h0, h2]
      exact gc_fin' hw (Over.refl _) rfl (.bool _)
    · by_cases h10 : 10 ≤ n
      · simp (maxSteps := 1000000) (disch := (first | omega | (simp only [nx_alloc, nx_upd, len_cons, len_nil, List.length_set, List.length_map, List.length_append] <;> omega) | fail)) only [go_sem, Try.ntmps68, Try.results68, h0, h2, h10]
        exact gc_fin' hw (Over.refl _) rfl (.bool _)
      · simp (maxSteps := 1000000) (disch := (first | omega | (simp only [nx_alloc, nx_upd, len_cons, len_nil, List.length_set, List.length_map, List.length_append] <;> omega) | fail)) only [go_sem, Try.ntmps68, Try.results68, h0, h2, h10]
        exact gc_fin' hw (Over.refl _) rfl (.bool _)
  · have h10 : ¬ 10 ≤ n := by omega
    simp (maxSteps := 1000000) (disch := (first | omega | (simp only [nx_alloc, nx_upd, len_cons, len_nil, List.length_set, List.length_map, List.length_append] <;> omega) | fail)) only [go_sem, Try.ntmps68, Try.results68, h0, h10]
    exact gc_fin' hw (Over.refl _) rfl (.bool _)
set_option maxHeartbeats 8000000 in
theorem rputq_ok (w0 : World) (A : St) (r : ReqT) (rc : List Value) (hr : ReqC A r rc) (hs : r.op.v.small) (hk : r.okA) : ACalls Try.prog w0 24 #[.agg rc.toArray] A (fin (.string (putR r)) A) := by
  have hrl := hr.len
  have hr0 := hr
  obtain ⟨oc, rfl, vs, rfl, hvs⟩ := hr
  have hvl := hvs.len
  have hvtk : vs.take 4 = vs := List.take_of_length_le (by omega)
  refine call_E Try.enters24 Try.func24 rfl (Nat.le_of_ble_eq_true rfl) fun hw hbd => ?_
  obtain ⟨A1, hA1⟩ : ∃ A1, A1 = A.alloc (.cells (.int .i64 r.client :: .int .u32 r.seq :: .int .i64 r.op.kind :: .int .u32 r.op.id :: vs) 31 (some 0)) := ⟨_, rfl⟩
  have o1 : Over A A1 := hA1 ▸ (Over.refl A).alloc _
  have g1 : A1.get A.next = some (.cells (.int .i64 r.client :: .int .u32 r.seq :: .int .i64 r.op.kind :: .int .u32 r.op.id :: vs) 31 (some 0)) := by rw [hA1]; exact get_alloc_same ..
  have ld4 := ld_agg (sz := 4) (off := 4) (e' := 31) (m := some 0) (cells := .int .i64 r.client :: .int .u32 r.seq :: .int .i64 r.op.kind :: .int .u32 r.op.id :: vs) (cs := vs) (by simp; omega) (by rw [List.drop_succ_cons, List.drop_succ_cons, List.drop_succ_cons, List.drop_succ_cons, List.drop_zero, hvtk])
  obtain ⟨k1, k2, k3, k4, k5⟩ := hk
  simp (maxSteps := 1000000) (disch := (first | omega | (simp only [nx_alloc, nx_upd, len_cons, len_nil, List.length_set, List.length_map, List.length_append] <;> omega) | fail)) only [go_sem, Try.ntmps24, Try.results24]
  rw [← hA1]
  simp (maxSteps := 1000000) (disch := (first | omega | (simp only [nx_alloc, nx_upd, len_cons, len_nil, List.length_set, List.length_map, List.length_append] <;> omega) | fail)) only [go_sem, g1, hvtk]
  refine call1 (maybe_ok w0 A1 r _ (hr0.ge o1.ge) hs) ?_
  cases hb : rightB r
  · simp (maxSteps := 1000000) (disch := (first | omega | (simp only [nx_alloc, nx_upd, len_cons, len_nil, List.length_set, List.length_map, List.length_append] <;> omega) | fail)) only [go_sem, Try.results24]
    exact gc_fin' hw o1 (by rw [putR_neg hb]; rfl) (.string _)
  obtain ⟨hc3, hk1, hk5, hm⟩ := rightB_facts hb
  obtain ⟨q, hq⟩ := Int.eq_ofNat_of_zero_le k1
  obtain ⟨i, hi⟩ := Int.eq_ofNat_of_zero_le k3
  have hbs : ∀ n : Nat, bigS n 4 = bigL n 4 := fun n => rfl
  have z1 : (strOfNums [r.client]).size = 1 := str_size _
  have z2 : (strOfNums [r.op.kind]).size = 1 := str_size _
  have z3 : ∀ n, (strOfNums (bigL n 4)).size = 4 := fun n => by rw [str_size, bigL_length]
  have z3q := z3 q
  have z3i := z3 i
  have zA : (strOfNums [r.client] ++ strOfNums (bigL q 4)).size = 5 := by rw [ByteArray.size_append]; omega
  have zB : (strOfNums [r.client] ++ strOfNums (bigL q 4) ++ strOfNums [r.op.kind]).size = 6 := by rw [ByteArray.size_append]; omega
  simp (maxSteps := 1000000) (disch := (first | omega | (simp only [nx_alloc, nx_upd, len_cons, len_nil, List.length_set, List.length_map, List.length_append] <;> omega) | fail)) only [go_sem]
  refine aw_draw2 [⟨false, [], [0]⟩, ⟨false, [0], [0]⟩, ⟨false, [0, 1], [0]⟩, ⟨false, [], [0]⟩, ⟨false, [3], [0]⟩, ⟨false, [3, 4], [0]⟩, ⟨false, [0, 1, 2, 3, 4, 5], [0]⟩, ⟨false, [0, 1, 2, 3, 4, 5, 6], [0]⟩, ⟨false, [], [0]⟩, ⟨false, [8], [0]⟩, ⟨false, [8, 9], [0]⟩, ⟨false, [0, 1, 2, 3, 4, 5, 6, 8, 9, 10], [0]⟩, ⟨false, [0, 1, 2, 3, 4, 5, 6, 7, 8, 9, 10, 11], [0]⟩, ⟨false, [], [0]⟩, ⟨false, [13], [0]⟩, ⟨false, [13, 14], [0]⟩, ⟨false, [13, 14, 15], [0]⟩, ⟨false, [0, 1, 2, 3, 4, 5, 6, 8, 9, 10, 11, 13, 14, 15, 16], [0]⟩, ⟨false, [0, 1, 2, 3, 4, 5, 6, 7, 8, 9, 10, 11, 12, 13, 14, 15, 16, 17], [0]⟩, ⟨false, [0, 1, 2, 3, 4, 5, 6, 7, 8, 9, 10, 11, 12, 13, 14, 15, 16, 17, 18], [0]⟩] [A1] 0 (by kernel_rfl) (by kernel_rfl) rfl ?_
  simp (maxSteps := 1000000) (disch := (first | omega | (simp only [nx_alloc, nx_upd, len_cons, len_nil, List.length_set, List.length_map, List.length_append] <;> omega) | fail)) only [go_sem, g1, hq, hi]
  refine ⟨_, one_ok w0 A1 r.client hc3.1 (by omega), ?_⟩
  refine ⟨_, rbig_ok w0 A1 q 4 (by omega), ?_⟩
  rw [hbs]
  simp (maxSteps := 1000000) (disch := (first | omega | (simp only [nx_alloc, nx_upd, len_cons, len_nil, List.length_set, List.length_map, List.length_append] <;> omega) | fail)) only [go_sem, g1, hi]
  refine ⟨_, one_ok w0 A1 r.op.kind (by omega) (by omega), ?_⟩
  simp (maxSteps := 1000000) (disch := (first | omega | (simp only [nx_alloc, nx_upd, len_cons, len_nil, List.length_set, List.length_map, List.length_append] <;> omega) | fail)) only [go_sem, g1, hi]
  refine ⟨_, rbig_ok w0 A1 i 4 (by omega), ?_⟩
  rw [hbs]
  have happ : ∀ a b : List Int, strOfNums a ++ strOfNums b = strOfNums (a ++ b) := str_append
  have hvb := encV_bound hm
  have zV : (strOfNums (encV r.op.v)).size = (encV r.op.v).length := str_size _
  have zC : (strOfNums [r.client] ++ strOfNums (bigL q 4) ++ strOfNums [r.op.kind] ++ strOfNums (bigL i 4)).size = 10 := by rw [ByteArray.size_append]; omega
  by_cases hk : r.op.kind = 1
  · have henc := rencode_ok w0 A1 r.op.v _ ((hvs.ge o1.ge).ver) hs k5
    have he : encR r.op.v = (strOfNums (encV r.op.v), 0) := if_pos hm
    rw [he] at henc
    rw [hk] at zC zB z2
    simp (maxSteps := 1000000) (disch := (first | omega | (simp only [nx_alloc, nx_upd, len_cons, len_nil, List.length_set, List.length_map, List.length_append] <;> omega) | fail)) only [go_sem, g1, hk, ld4, hvtk]
    refine call1 henc ?_
    unfold strIntV
    simp (maxSteps := 1000000) (disch := (first | omega | (simp only [nx_alloc, nx_upd, len_cons, len_nil, List.length_set, List.length_map, List.length_append] <;> omega) | fail)) only [go_sem, Try.results24]
    refine gc_fin' hw o1 (congrArg Value.string ?_) (.string _)
    unfold putR putL
    rw [hb, if_pos rfl, if_pos hk, happ, happ, happ, happ, hk, hq, hi, Int.toNat_natCast, Int.toNat_natCast]
    simp
  · simp (maxSteps := 1000000) (disch := (first | omega | (simp only [nx_alloc, nx_upd, len_cons, len_nil, List.length_set, List.length_map, List.length_append] <;> omega) | fail)) only [go_sem, g1, hk, Try.results24]
    refine gc_fin' hw o1 (congrArg Value.string ?_) (.string _)
    unfold putR putL
    rw [hb, if_pos rfl, if_neg hk, happ, happ, happ, hq, hi, Int.toNat_natCast, Int.toNat_natCast]
    simp
end Go.Fw
