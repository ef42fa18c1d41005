import Derived.Test.YtpjacnialnlilaaFwPre26
set_option linter.unusedSimpArgs false
set_option linter.unusedVariables false
set_option maxRecDepth 4000
namespace Go.Fw
open Go.Proofs Go.RowKit
/-! Counts of lengths, and the first words. -/
theorem Try.enters29 : Enters Try.prog 29 := enters_of Try.func29 rfl (by kernel_rfl)
theorem Try.enters30 : Enters Try.prog 30 := enters_of Try.func30 rfl (by kernel_rfl)
def numC (k : IntKind) (n : Nat) (f : Nat → Nat) : List Value := (List.range n).map fun j => .int k (f j : Nat)
theorem numC_len (k : IntKind) (n : Nat) (f : Nat → Nat) : (numC k n f).length = n := by unfold numC; rw [List.length_map, List.length_range]
theorem numC_at (k : IntKind) {n j : Nat} (f : Nat → Nat) (h : j < n) : (numC k n f)[j]? = some (.int k (f j : Nat)) := by
  unfold numC; rw [List.getElem?_map, List.getElem?_range h]; rfl
theorem numC_set (k : IntKind) {n j : Nat} {f g : Nat → Nat} (h : ∀ i, i ≠ j → g i = f i) : (numC k n f).set j (.int k (g j : Nat)) = numC k n g := by
  refine List.ext_getElem? fun i => ?_
  rw [List.getElem?_set, numC_len]
  unfold numC
  rw [List.getElem?_map, List.getElem?_map]
  by_cases hi : i < n
  · rw [List.getElem?_range hi]
    split
    · rename_i e; rw [← e, if_pos (by omega)]; rfl
    · rename_i e
      show some (Value.int k (f i : Nat)) = some (Value.int k (g i : Nat))
      rw [h i (fun e' => e e'.symm)]
  · have : (List.range n)[i]? = none := List.getElem?_eq_none (by rw [List.length_range]; omega)
    rw [this]
    split
    · rw [if_neg (by omega)]; rfl
    · rfl
theorem numC_plain (k : IntKind) (n : Nat) (f : Nat → Nat) : (numC k n f).all cell1 = true := by
  unfold numC; rw [List.all_map, List.all_eq_true]; intro x _; rfl
theorem numC_bnd (m : Nat) (k : IntKind) (n : Nat) (f : Nat → Nat) : Bnd m (.agg (numC k n f).toArray) := by
  rw [bnd_agg]
  intro v hv
  unfold numC at hv
  obtain ⟨j, _, rfl⟩ := List.mem_map.1 hv
  rw [bnd_int]; trivial
theorem mny_snoc (l : List Int) (x : Int) (k : Nat) : mny (l ++ [x]) k = mny l k + if x = (k : Int) then 1 else 0 := by
  unfold mny
  rw [List.count_append, List.count_singleton]
  congr 1
  by_cases h : x = (k : Int)
  · rw [if_pos h, if_pos (by simpa using h)]
  · rw [if_neg h, if_neg (by simpa using h)]
theorem mny_le (l : List Int) (k : Nat) : mny l k ≤ l.length := List.count_le_length ..
theorem code_no {l : List Int} {x : Int} (hx : x ∈ l) (h : x < 0 ∨ 15 < x) : isCode l = false := by
  rcases hc : isCode l with _ | _
  · rfl
  · have := (isCode_kr hc).2.2 x hx; omega
theorem code_eq {l : List Int} (h : ∀ x ∈ l, 0 ≤ x ∧ x ≤ 15) : isCode l = (decide (l.length ≤ 300) && (decide (kr l = 32768) || decide (mny l 1 = 1) && decide (kr l = 16384))) := by
  unfold isCode
  have : l.all (fun x => decide (0 ≤ x) && decide (x ≤ 15)) = true := by
    rw [List.all_eq_true]
    intro x hx
    simp [h x hx]
  rw [this, Bool.true_and]
theorem setList_all {a vs : List Value} (h : vs.length = a.length) : setList a 0 vs = vs := by
  have := setList_at0 vs [] a [] h
  simpa using this
def CountPost (A : St) (l : List Int) (e : Ending) (A' : St) : Prop := ∃ f : Nat → Nat, e = .returned (.tuple #[.agg (numC .i64 16 f).toArray, .bool (isCode l)]) ∧ A' = A ∧ (isCode l = true → f = mny l)
set_option maxHeartbeats 8000000 in
theorem counts_ok (w0 : World) (A : St) (l : List Int) (v : Value) (hv : InView A l v) (hl : l.length ≤ 1000) : ACalls Try.prog w0 29 #[v] A (CountPost A l) := by
  refine call_E (l := [v]) Try.enters29 Try.func29 rfl (Nat.le_of_ble_eq_true rfl) fun hw hbd => ?_
  have hlv : ∀ X, lenU X (some (.slice 3)) v = some (.int .i64 l.length, X) := View.lenX hv
  simp (maxSteps := 1000000) (disch := (first | omega | (simp only [nx_alloc, nx_upd, len_cons, len_nil, List.length_set, List.length_map, List.length_append] <;> omega) | fail)) only [go_sem, Try.ntmps29, Try.results29, hlv]
  refine aw_loop (fun k x A' => ∃ (ρ : Nat → Value) (i : Nat), x = E 45 ρ [] ∧ A' = (A.alloc (.cells (numC .i64 16 fun _ => 0) 61 (some 0))).upd A.next (some (.cells (numC .i64 16 (mny (l.take i))) 61 (some 0))) ∧ k = l.length - i ∧ i ≤ l.length ∧ (∀ x ∈ l.take i, 0 ≤ x ∧ x ≤ 15) ∧ ρ 0 = v ∧ ρ 2 = .pointer (some ⟨A.next, 0, none⟩) ∧ ρ 7 = v ∧ ρ 8 = .int .i64 l.length ∧ ρ 9 = .int .i64 i) l.length
    ⟨_, 0, rfl, (upd_id (get_alloc_same ..)).symm, rfl, Nat.zero_le _, fun x hx => (by simp at hx), rfl, rfl, rfl, rfl, rfl⟩ ?_
  rintro k x A' ⟨ρ, i, rfl, hA', hk, hi, hok, r0, r2, r7, r8, r9⟩
  refine aw_of ?_
  have gA : A'.get A.next = some (.cells (numC .i64 16 (mny (l.take i))) 61 (some 0)) := by rw [hA']; exact get_upd_same ..
  have oA : Over A A' := by rw [hA']; exact ((Over.refl A).alloc _).upd (Nat.le_refl _) _
  have hnx : A.next < A'.next := by rw [hA', nx_upd, nx_alloc]; omega
  have hL := numC_len .i64 16 (mny (l.take i))
  have hpl := numC_plain .i64 16 (mny (l.take i))
  have hst : ∀ m, (numC .i64 16 (mny m)).length = 16 := fun m => numC_len ..
  have hsl : setList (numC .i64 16 (mny (l.take i))) 0 (numC .i64 16 (mny (l.take i))) = numC .i64 16 (mny (l.take i)) := setList_all rfl
  have hT : (numC .i64 16 (mny (l.take i))).take 16 = numC .i64 16 (mny (l.take i)) := List.take_of_length_le (by omega)
  by_cases hend : i = l.length
  rotate_left
  · have e1 : (i : Int) < (l.length : Int) := by omega
    obtain ⟨n, hx⟩ : ∃ x, l[i]? = some x := ⟨_, List.getElem?_eq_getElem (by omega)⟩
    obtain ⟨pb, po, hb1, hb2, hb3, cells, e', md, hb4, hb5⟩ := View.at1 (P := Try.prog) (e := 3) (View.over hv oA) Try.sz3 (i64E_at _ i n hx)
    have htk : l.take (i + 1) = l.take i ++ [n] := by rw [List.take_add_one, hx]; rfl
    have hmem := List.mem_of_getElem? hx
    have hbad : n < 0 ∨ 15 < n → CountPost A l (.returned (.tuple #[.agg (numC .i64 16 (mny (l.take i))).toArray, .bool false])) A := fun h => ⟨_, by rw [code_no hmem h], rfl, fun h' => by rw [code_no hmem h] at h'; cases h'⟩
    by_cases b1 : n < 0
    · simp (maxSteps := 1000000) (disch := (first | omega | (simp only [nx_alloc, nx_upd, len_cons, len_nil, List.length_set, List.length_map, List.length_append] <;> omega) | fail)) only [go_sem, r0, r2, r7, r8, r9, e1, hb3, hb4, hb5, b1, gA, hT, hpl, hsl, Try.results29]
      exact gc_over hw (oA.upd (Nat.le_refl _) _) (.returned (by simp only [bnd_tuple, bndL_cons, bndL_nil, bnd_bool, and_true]; exact numC_bnd ..)) (hbad (.inl b1))
    by_cases b2 : n > 15
    · simp (maxSteps := 1000000) (disch := (first | omega | (simp only [nx_alloc, nx_upd, len_cons, len_nil, List.length_set, List.length_map, List.length_append] <;> omega) | fail)) only [go_sem, r0, r2, r7, r8, r9, e1, hb3, hb4, hb5, b1, b2, gA, hT, hpl, hsl, Try.results29]
      exact gc_over hw (oA.upd (Nat.le_refl _) _) (.returned (by simp only [bnd_tuple, bndL_cons, bndL_nil, bnd_bool, and_true]; exact numC_bnd ..)) (hbad (.inr b2))
    obtain ⟨m, rfl⟩ := Int.eq_ofNat_of_zero_le (show 0 ≤ n by omega)
    have hml := mny_le (l.take i) m
    have htl : (l.take i).length ≤ i := List.length_take_le ..
    have hat := numC_at .i64 (n := 16) (j := m) (mny (l.take i)) (by omega)
    have hset := numC_set .i64 (n := 16) (j := m) (f := mny (l.take i)) (g := mny (l.take (i + 1))) (fun j hj => by rw [htk, mny_snoc, if_neg (by omega), Nat.add_zero])
    rw [htk, mny_snoc, if_pos rfl, ← htk, Int.natCast_add] at hset
    have e2 : (m : Int) < 16 := by omega
    simp (maxSteps := 1000000) (disch := (first | omega | (simp only [nx_alloc, nx_upd, len_cons, len_nil, List.length_set, List.length_map, List.length_append] <;> omega) | fail)) only [go_sem, r0, r2, r7, r8, r9, e1, hb3, hb4, hb5, b1, b2, gA, hat, e2]
    refine ⟨k - 1, by omega, _, i + 1, rfl, ?_, by omega, by omega, fun x hx => ?_, ?_, ?_, ?_, ?_, ?_⟩
    · rw [hA', upd_upd]
      exact congrArg _ (by rw [← hset]; rfl)
    · rw [htk] at hx
      rcases List.mem_append.1 hx with hx | hx
      · exact hok x hx
      · rw [List.mem_singleton.1 hx]; omega
    · simp (maxSteps := 1000000) (disch := (first | omega | (simp only [nx_alloc, nx_upd, len_cons, len_nil, List.length_set, List.length_map, List.length_append] <;> omega) | fail)) only [go_sem, r0]
    · simp (maxSteps := 1000000) (disch := (first | omega | (simp only [nx_alloc, nx_upd, len_cons, len_nil, List.length_set, List.length_map, List.length_append] <;> omega) | fail)) only [go_sem, r2]
    · simp (maxSteps := 1000000) (disch := (first | omega | (simp only [nx_alloc, nx_upd, len_cons, len_nil, List.length_set, List.length_map, List.length_append] <;> omega) | fail)) only [go_sem, r7]
    · simp (maxSteps := 1000000) (disch := (first | omega | (simp only [nx_alloc, nx_upd, len_cons, len_nil, List.length_set, List.length_map, List.length_append] <;> omega) | fail)) only [go_sem, r8]
    · simp (maxSteps := 1000000) (disch := (first | omega | (simp only [nx_alloc, nx_upd, len_cons, len_nil, List.length_set, List.length_map, List.length_append] <;> omega) | fail)) only [go_sem]
      rfl
  have e1 : ¬ ((i : Int) < (l.length : Int)) := by omega
  rw [hend, List.take_length] at hok gA hL hpl hsl hT
  simp (maxSteps := 1000000) (disch := (first | omega | (simp only [nx_alloc, nx_upd, len_cons, len_nil, List.length_set, List.length_map, List.length_append] <;> omega) | fail)) only [go_sem, r0, r2, r7, r8, r9, e1]
  refine call1 (kraft_ok w0 A' l v (View.over hv oA) hl) ?_
  have hlv' : ∀ X, lenU X (some (.slice 3)) v = some (.int .i64 l.length, X) := hlv
  have hat := numC_at .i64 (n := 16) (j := 1) (mny l) (by omega)
  have hce := code_eq hok
  have hfin : ∀ b, b = isCode l → CountPost A l (.returned (.tuple #[.agg (numC .i64 16 (mny l)).toArray, .bool b])) A := fun b hb => ⟨_, by rw [hb], rfl, fun _ => rfl⟩
  have hbn : ∀ b, BndE A.next (.returned (.tuple #[.agg (numC .i64 16 (mny l)).toArray, .bool b])) := fun b => .returned (by simp only [bnd_tuple, bndL_cons, bndL_nil, bnd_bool, and_true]; exact numC_bnd ..)
  by_cases c1 : l.length ≤ 300
  rotate_left
  · have d1 : ¬ ((l.length : Nat) : Int) ≤ 300 := by omega
    simp (maxSteps := 1000000) (disch := (first | omega | (simp only [nx_alloc, nx_upd, len_cons, len_nil, List.length_set, List.length_map, List.length_append] <;> omega) | fail)) only [go_sem, r0, r2, hlv', gA, hT, hpl, hsl, d1, Try.results29]
    exact gc_over hw (oA.upd (Nat.le_refl _) _) (hbn _) (hfin _ (by rw [hce, decide_eq_false c1]; rfl))
  have d1 : ((l.length : Nat) : Int) ≤ 300 := by omega
  by_cases c2 : kr l = 32768
  · have d2 : ((kr l : Nat) : Int) = 32768 := by omega
    simp (maxSteps := 1000000) (disch := (first | omega | (simp only [nx_alloc, nx_upd, len_cons, len_nil, List.length_set, List.length_map, List.length_append] <;> omega) | fail)) only [go_sem, r0, r2, hlv', gA, hT, hpl, hsl, d1, d2, Try.results29]
    exact gc_over hw (oA.upd (Nat.le_refl _) _) (hbn _) (hfin _ (by rw [hce, decide_eq_true c1, decide_eq_true c2]; rfl))
  have d2 : ¬ ((kr l : Nat) : Int) = 32768 := by omega
  by_cases c3 : mny l 1 = 1
  rotate_left
  · have d3 : ¬ ((mny l 1 : Nat) : Int) = 1 := by omega
    simp (maxSteps := 1000000) (disch := (first | omega | (simp only [nx_alloc, nx_upd, len_cons, len_nil, List.length_set, List.length_map, List.length_append] <;> omega) | fail)) only [go_sem, r0, r2, hlv', gA, hT, hpl, hsl, hat, d1, d2, d3, Try.results29]
    exact gc_over hw (oA.upd (Nat.le_refl _) _) (hbn _) (hfin _ (by rw [hce, decide_eq_true c1, decide_eq_false c2, decide_eq_false c3]; rfl))
  have d3 : ((mny l 1 : Nat) : Int) = 1 := by omega
  by_cases c4 : kr l = 16384
  · have d4 : ((kr l : Nat) : Int) = 16384 := by omega
    simp (maxSteps := 1000000) (disch := (first | omega | (simp only [nx_alloc, nx_upd, len_cons, len_nil, List.length_set, List.length_map, List.length_append] <;> omega) | fail)) only [go_sem, r0, r2, hlv', gA, hT, hpl, hsl, hat, d1, d2, d3, d4, Try.results29]
    exact gc_over hw (oA.upd (Nat.le_refl _) _) (hbn _) (hfin _ (by rw [hce, decide_eq_true c1, decide_eq_false c2, decide_eq_true c3, decide_eq_true c4]; rfl))
  · have d4 : ¬ ((kr l : Nat) : Int) = 16384 := by omega
    simp (maxSteps := 1000000) (disch := (first | omega | (simp only [nx_alloc, nx_upd, len_cons, len_nil, List.length_set, List.length_map, List.length_append] <;> omega) | fail)) only [go_sem, r0, r2, hlv', gA, hT, hpl, hsl, hat, d1, d2, d3, d4, Try.results29]
    exact gc_over hw (oA.upd (Nat.le_refl _) _) (hbn _) (hfin _ (by rw [hce, decide_eq_true c1, decide_eq_false c2, decide_eq_true c3, decide_eq_false c4]; rfl))
end Go.Fw
