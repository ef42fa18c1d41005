import Derived.Test.YtphfkbagjpcmpaaFwVault10
set_option linter.unusedSimpArgs false
set_option linter.unusedVariables false
namespace Go.Fw
open Go.Proofs Go.RowKit
theorem Try.enters47 : Enters Try.prog 47 := enters_of Try.func47 rfl (by kernel_rfl)
theorem Try.enters28 : Enters Try.prog 28 := enters_of Try.func28 rfl (by kernel_rfl)
theorem Try.enters19 : Enters Try.prog 19 := enters_of Try.func19 rfl (by kernel_rfl)
theorem hsq_eql (x y : Operand) (a b : HashT) : abin Try.prog .eql 62 x y (.agg (hsC a).toArray) (.agg (hsC b).toArray) = some (.bool (decide (a = b))) := by
  unfold abin
  simp only [Try.guardHs, Bool.false_eq_true, if_false, hs_eq, Option.map_some]
theorem hsC_cell' (h : HashT) : (hsC h).all cell1 = true := by unfold hsC; rw [List.all_map, List.all_eq_true]; intro x _; rfl
/-- Where a hash stands. -/
def hidxN (l : List HashT) (h : HashT) : Nat → Int
  | i => if hi : i < l.length then (if h = l[i]'hi then (i : Int) else hidxN l h (i + 1)) else -1
termination_by i => l.length - i
theorem hidxN_end {l : List HashT} {h : HashT} {i : Nat} (hi : l.length ≤ i) : hidxN l h i = -1 := by rw [hidxN, dif_neg (by omega)]
theorem hidxN_at {l : List HashT} {h x : HashT} {i : Nat} (hi : l[i]? = some x) : hidxN l h i = if h = x then (i : Int) else hidxN l h (i + 1) := by
  obtain ⟨hlt, rfl⟩ := List.getElem?_eq_some_iff.1 hi
  rw [hidxN, dif_pos hlt]
theorem hidx_mem (l : List HashT) (h : HashT) : ∀ m i, l.length - i ≤ m → (0 ≤ hidxN l h i ↔ h ∈ l.drop i)
  | m, i, hm => by
    by_cases hi : i < l.length
    · have hg : l[i]? = some l[i] := List.getElem?_eq_getElem hi
      rw [hidxN_at hg, List.drop_eq_getElem_cons hi]
      by_cases he : h = l[i]
      · rw [if_pos he]
        exact ⟨fun _ => by rw [he]; exact List.mem_cons_self .., fun _ => by omega⟩
      · rw [if_neg he]
        match m, hm with
        | m + 1, hm =>
          rw [hidx_mem l h m (i + 1) (by omega)]
          exact ⟨fun hh => List.mem_cons_of_mem _ hh, fun hh => by rcases List.mem_cons.1 hh with e | hh; exact absurd e he; exact hh⟩
        | 0, hm => omega
    · rw [hidxN_end (by omega), List.drop_of_length_le (by omega)]
      simp
set_option maxHeartbeats 2000000 in
theorem indexH_ok (w0 : World) (A : St) (l : List HashT) (v : Value) (hv : HsView A l v) (hl : l.length ≤ 1073741824) (h : HashT) :
    ACalls Try.prog w0 47 #[v, .agg (hsC h).toArray] A (fin (.int .i64 (hidxN l h 0)) A) := by
  refine call_E Try.enters47 Try.func47 rfl (Nat.le_of_ble_eq_true rfl) fun hw hbd => ?_
  obtain ⟨A1, hA1⟩ : ∃ A1, A1 = A.alloc (.cells (hsC h) 62 (some 0)) := ⟨_, rfl⟩
  have o1 : Over A A1 := hA1 ▸ (Over.refl A).alloc _
  have g1 : A1.get A.next = some (.cells (hsC h) 62 (some 0)) := by rw [hA1]; exact get_alloc_same ..
  have hv1 : HsView A1 l v := View.over hv o1
  have hlen := View.lenU (e := 62) hv1
  have hld := ldN (e := 62) (m := some 0) (hsC_len h)
  have hlC := hsC_len h
  have htk : (hsC h).take 32 = hsC h := List.take_of_length_le (by omega)
  simp (maxSteps := 1000000) (disch := (first | omega | (simp only [nx_alloc, nx_upd, len_cons, len_nil, List.length_set, List.length_map, List.length_append] <;> omega) | fail)) only [Nat.reduceAdd, Nat.reduceSub, Nat.reduceMul, Nat.reduceLT, Nat.reduceLeDiff, Nat.reduceEqDiff, ↓reduceIte, reduceCtorEq, Int.reduceAdd, Int.reduceSub, Int.reduceMul, Int.reduceLT, Int.reduceLE, Int.reduceEq, Int.reduceNe, Int.reduceToNat, Int.reduceNeg, go_sem, Try.ntmps47, Try.results47]
  rw [← hA1]
  simp (maxSteps := 1000000) (disch := (first | omega | (simp only [nx_alloc, nx_upd, len_cons, len_nil, List.length_set, List.length_map, List.length_append] <;> omega) | fail)) only [Nat.reduceAdd, Nat.reduceSub, Nat.reduceMul, Nat.reduceLT, Nat.reduceLeDiff, Nat.reduceEqDiff, ↓reduceIte, reduceCtorEq, Int.reduceAdd, Int.reduceSub, Int.reduceMul, Int.reduceLT, Int.reduceLE, Int.reduceEq, Int.reduceNe, Int.reduceToNat, Int.reduceNeg, go_sem, hlen]
  refine aw_loop (fun k x A' => ∃ (ρ : Nat → Value) (i : Nat), x = E 19 ρ [] ∧ A' = A1 ∧ k = l.length - i ∧ i ≤ l.length ∧ hidxN l h i = hidxN l h 0 ∧ ρ 0 = v ∧ ρ 3 = .pointer (some ⟨A.next, 0, none⟩) ∧ ρ 7 = .int .i64 l.length ∧ ρ 8 = .int .i64 i) l.length
    ⟨_, 0, rfl, rfl, rfl, Nat.zero_le _, rfl, rfl, rfl, rfl, rfl⟩ ?_
  rintro k x A' ⟨ρ, i, rfl, rfl, hk, hi, hp, g0, g3, g7, g8⟩
  refine aw_of ?_
  by_cases hend : i = l.length
  · have e1 : ¬ ((i : Int) < l.length) := by omega
    have hm : hidxN l h 0 = -1 := by rw [← hp]; exact hidxN_end (by omega)
    rw [hm]
    simp (maxSteps := 1000000) (disch := (first | omega | (simp only [nx_alloc, nx_upd, len_cons, len_nil, List.length_set, List.length_map, List.length_append] <;> omega) | fail)) only [Nat.reduceAdd, Nat.reduceSub, Nat.reduceMul, Nat.reduceLT, Nat.reduceLeDiff, Nat.reduceEqDiff, ↓reduceIte, reduceCtorEq, Int.reduceAdd, Int.reduceSub, Int.reduceMul, Int.reduceLT, Int.reduceLE, Int.reduceEq, Int.reduceNe, Int.reduceToNat, Int.reduceNeg, go_sem, g0, g3, g7, g8, Try.results47]
    exact gc_fin' hw o1 rfl (.int _ _)
  have e1 : ((i : Int) < l.length) := by omega
  obtain ⟨x, hx⟩ : ∃ V, l[i]? = some V := ⟨l[i]'(by omega), List.getElem?_eq_getElem (by omega)⟩
  obtain ⟨b, off, hb1, hb2, hb3, cells, e', m, hb4, hb5, hb6⟩ := View.at (P := Try.prog) (e := 62) hv1 Try.sz62 (i := i) (by omega)
  have hel : ((l.flatMap hsC).drop (i * 32)).take 32 = hsC x := by
    rw [List.flatMap_def]
    exact flat_elem (fun cs hc => by obtain ⟨y, _, rfl⟩ := List.mem_map.1 hc; exact hsC_len y) (by rw [List.getElem?_map, hx]; rfl)
  rw [hel] at hb6
  have hldx := ld_agg (e' := e') (m := m) hb5 hb6
  have hpl := hidxN_at (h := h) hx
  rw [hp] at hpl
  simp (maxSteps := 1000000) (disch := (first | omega | (simp only [nx_alloc, nx_upd, len_cons, len_nil, List.length_set, List.length_map, List.length_append] <;> omega) | fail)) only [Nat.reduceAdd, Nat.reduceSub, Nat.reduceMul, Nat.reduceLT, Nat.reduceLeDiff, Nat.reduceEqDiff, ↓reduceIte, reduceCtorEq, Int.reduceAdd, Int.reduceSub, Int.reduceMul, Int.reduceLT, Int.reduceLE, Int.reduceEq, Int.reduceNe, Int.reduceToNat, Int.reduceNeg, go_sem, g0, g3, g7, g8]
  refine aw_draw2 [⟨false, [], [0]⟩, ⟨false, [], [0]⟩, ⟨false, [], [0]⟩, ⟨false, [1, 2], [0]⟩, ⟨false, [1, 2, 3], [0]⟩, ⟨false, [0, 1, 2, 3, 4], [0]⟩] [A'] 0 (by kernel_rfl) (by kernel_rfl) rfl ?_
  simp (maxSteps := 1000000) (disch := (first | omega | (simp only [nx_alloc, nx_upd, len_cons, len_nil, List.length_set, List.length_map, List.length_append] <;> omega) | fail)) only [Nat.reduceAdd, Nat.reduceSub, Nat.reduceMul, Nat.reduceLT, Nat.reduceLeDiff, Nat.reduceEqDiff, ↓reduceIte, reduceCtorEq, Int.reduceAdd, Int.reduceSub, Int.reduceMul, Int.reduceLT, Int.reduceLE, Int.reduceEq, Int.reduceNe, Int.reduceToNat, Int.reduceNeg, go_sem, g0, g3, g7, g8, g1, hld, htk, hb3, hb4, hldx, hsq_eql]
  by_cases hid : h = x
  · rw [if_pos hid] at hpl
    rw [hpl]
    simp (maxSteps := 1000000) (disch := (first | omega | (simp only [nx_alloc, nx_upd, len_cons, len_nil, List.length_set, List.length_map, List.length_append] <;> omega) | fail)) only [Nat.reduceAdd, Nat.reduceSub, Nat.reduceMul, Nat.reduceLT, Nat.reduceLeDiff, Nat.reduceEqDiff, ↓reduceIte, reduceCtorEq, Int.reduceAdd, Int.reduceSub, Int.reduceMul, Int.reduceLT, Int.reduceLE, Int.reduceEq, Int.reduceNe, Int.reduceToNat, Int.reduceNeg, go_sem, hid, g8, Try.results47]
    exact gc_fin' hw o1 rfl (.int _ _)
  · rw [if_neg hid] at hpl
    simp (maxSteps := 1000000) (disch := (first | omega | (simp only [nx_alloc, nx_upd, len_cons, len_nil, List.length_set, List.length_map, List.length_append] <;> omega) | fail)) only [Nat.reduceAdd, Nat.reduceSub, Nat.reduceMul, Nat.reduceLT, Nat.reduceLeDiff, Nat.reduceEqDiff, ↓reduceIte, reduceCtorEq, Int.reduceAdd, Int.reduceSub, Int.reduceMul, Int.reduceLT, Int.reduceLE, Int.reduceEq, Int.reduceNe, Int.reduceToNat, Int.reduceNeg, go_sem, hid, g8]
    refine ⟨k - 1, by omega, _, i + 1, rfl, by omega, by omega, hpl.symm, ?_, ?_, ?_, ?_⟩
    · simp (maxSteps := 1000000) (disch := (first | omega | (simp only [nx_alloc, nx_upd, len_cons, len_nil, List.length_set, List.length_map, List.length_append] <;> omega) | fail)) only [Nat.reduceAdd, Nat.reduceSub, Nat.reduceMul, Nat.reduceLT, Nat.reduceLeDiff, Nat.reduceEqDiff, ↓reduceIte, reduceCtorEq, Int.reduceAdd, Int.reduceSub, Int.reduceMul, Int.reduceLT, Int.reduceLE, Int.reduceEq, Int.reduceNe, Int.reduceToNat, Int.reduceNeg, go_sem, g0]
    · simp (maxSteps := 1000000) (disch := (first | omega | (simp only [nx_alloc, nx_upd, len_cons, len_nil, List.length_set, List.length_map, List.length_append] <;> omega) | fail)) only [Nat.reduceAdd, Nat.reduceSub, Nat.reduceMul, Nat.reduceLT, Nat.reduceLeDiff, Nat.reduceEqDiff, ↓reduceIte, reduceCtorEq, Int.reduceAdd, Int.reduceSub, Int.reduceMul, Int.reduceLT, Int.reduceLE, Int.reduceEq, Int.reduceNe, Int.reduceToNat, Int.reduceNeg, go_sem, g3]
    · simp (maxSteps := 1000000) (disch := (first | omega | (simp only [nx_alloc, nx_upd, len_cons, len_nil, List.length_set, List.length_map, List.length_append] <;> omega) | fail)) only [Nat.reduceAdd, Nat.reduceSub, Nat.reduceMul, Nat.reduceLT, Nat.reduceLeDiff, Nat.reduceEqDiff, ↓reduceIte, reduceCtorEq, Int.reduceAdd, Int.reduceSub, Int.reduceMul, Int.reduceLT, Int.reduceLE, Int.reduceEq, Int.reduceNe, Int.reduceToNat, Int.reduceNeg, go_sem, g7]
    · simp (maxSteps := 1000000) (disch := (first | omega | (simp only [nx_alloc, nx_upd, len_cons, len_nil, List.length_set, List.length_map, List.length_append] <;> omega) | fail)) only [Nat.reduceAdd, Nat.reduceSub, Nat.reduceMul, Nat.reduceLT, Nat.reduceLeDiff, Nat.reduceEqDiff, ↓reduceIte, reduceCtorEq, Int.reduceAdd, Int.reduceSub, Int.reduceMul, Int.reduceLT, Int.reduceLE, Int.reduceEq, Int.reduceNe, Int.reduceToNat, Int.reduceNeg, go_sem]
      rfl
theorem containsH_ok (w0 : World) (A : St) (l : List HashT) (v : Value) (hv : HsView A l v) (hl : l.length ≤ 1073741824) (h : HashT) : ACalls Try.prog w0 28 #[v, .agg (hsC h).toArray] A (fin (.bool (decide (h ∈ l))) A) := by
  refine call_E Try.enters28 Try.func28 rfl (Nat.le_of_ble_eq_true rfl) fun hw hbd => ?_
  obtain ⟨A1, hA1⟩ : ∃ A1, A1 = A.alloc (.cells (hsC h) 62 (some 0)) := ⟨_, rfl⟩
  have o1 : Over A A1 := hA1 ▸ (Over.refl A).alloc _
  have g1 : A1.get A.next = some (.cells (hsC h) 62 (some 0)) := by rw [hA1]; exact get_alloc_same ..
  have hld := ldN (e := 62) (m := some 0) (hsC_len h)
  have hlC := hsC_len h
  have htk : (hsC h).take 32 = hsC h := List.take_of_length_le (by omega)
  have hmem := hidx_mem l h l.length 0 (by omega)
  rw [List.drop_zero] at hmem
  have hd : decide (hidxN l h 0 ≥ 0) = decide (h ∈ l) := decide_eq_decide.2 hmem
  have hd' : decide (0 ≤ hidxN l h 0) = decide (h ∈ l) := hd
  simp (maxSteps := 1000000) (disch := (first | omega | (simp only [nx_alloc, nx_upd, len_cons, len_nil, List.length_set, List.length_map, List.length_append] <;> omega) | fail)) only [Nat.reduceAdd, Nat.reduceSub, Nat.reduceMul, Nat.reduceLT, Nat.reduceLeDiff, Nat.reduceEqDiff, ↓reduceIte, reduceCtorEq, Int.reduceAdd, Int.reduceSub, Int.reduceMul, Int.reduceLT, Int.reduceLE, Int.reduceEq, Int.reduceNe, Int.reduceToNat, Int.reduceNeg, go_sem, Try.ntmps28, Try.results28]
  rw [← hA1]
  simp (maxSteps := 1000000) (disch := (first | omega | (simp only [nx_alloc, nx_upd, len_cons, len_nil, List.length_set, List.length_map, List.length_append] <;> omega) | fail)) only [Nat.reduceAdd, Nat.reduceSub, Nat.reduceMul, Nat.reduceLT, Nat.reduceLeDiff, Nat.reduceEqDiff, ↓reduceIte, reduceCtorEq, Int.reduceAdd, Int.reduceSub, Int.reduceMul, Int.reduceLT, Int.reduceLE, Int.reduceEq, Int.reduceNe, Int.reduceToNat, Int.reduceNeg, go_sem, g1, hld, htk]
  refine call1 (indexH_ok w0 A1 l v (View.over hv o1) hl h) ?_
  simp (maxSteps := 1000000) (disch := (first | omega | (simp only [nx_alloc, nx_upd, len_cons, len_nil, List.length_set, List.length_map, List.length_append] <;> omega) | fail)) only [Nat.reduceAdd, Nat.reduceSub, Nat.reduceMul, Nat.reduceLT, Nat.reduceLeDiff, Nat.reduceEqDiff, ↓reduceIte, reduceCtorEq, Int.reduceAdd, Int.reduceSub, Int.reduceMul, Int.reduceLT, Int.reduceLE, Int.reduceEq, Int.reduceNe, Int.reduceToNat, Int.reduceNeg, go_sem, hd, hd', Try.results28]
  exact gc_fin' hw o1 rfl (.bool _)
/-- The blocks that are live. -/
def addH (o : List HashT) (h : HashT) : List HashT := if h ∈ o then o else o ++ [h]
def liveL (vs : List VerT) : List HashT := vs.foldl (fun o V => V.blocks.foldl addH o) []
theorem liveL_snoc (vs : List VerT) (V : VerT) : liveL (vs ++ [V]) = V.blocks.foldl addH (liveL vs) := by unfold liveL; rw [List.foldl_append]; rfl
theorem addH_snoc (l : List HashT) (h : HashT) (o : List HashT) : (l ++ [h]).foldl addH o = addH (l.foldl addH o) h := by rw [List.foldl_append]; rfl
theorem addH_len (o : List HashT) (h : HashT) : (addH o h).length ≤ o.length + 1 := by unfold addH; split <;> simp
theorem addHs_len : ∀ (l o : List HashT), (l.foldl addH o).length ≤ o.length + l.length
  | [], o => Nat.le_refl _
  | h :: l, o => by
    have h1 := addHs_len l (addH o h)
    have h2 := addH_len o h
    simp only [List.foldl_cons, List.length_cons]; omega
theorem liveL_len : ∀ (vs : List VerT) (o : List HashT), (∀ V ∈ vs, V.blocks.length ≤ 1000) → (vs.foldl (fun o V => V.blocks.foldl addH o) o).length ≤ o.length + vs.length * 1000
  | [], o, _ => by simp
  | V :: vs, o, h => by
    have h1 := liveL_len vs (V.blocks.foldl addH o) (fun V hV => h V (List.mem_cons_of_mem _ hV))
    have h2 := addHs_len V.blocks o
    have h3 := h V (List.mem_cons_self ..)
    simp only [List.foldl_cons, List.length_cons]; omega
theorem addH_nodup {o : List HashT} (h : o.Nodup) (x : HashT) : (addH o x).Nodup := by
  unfold addH
  split
  · exact h
  · rename_i h1
    rw [List.nodup_append]
    exact ⟨h, by simp, fun a ha b hb => by rw [List.mem_singleton.1 hb]; intro e; exact h1 (e ▸ ha)⟩
theorem addHs_nodup : ∀ (l : List HashT) {o : List HashT}, o.Nodup → (l.foldl addH o).Nodup
  | [], o, h => h
  | x :: l, o, h => addHs_nodup l (addH_nodup h x)
theorem liveL_nodup : ∀ (vs : List VerT) {o : List HashT}, o.Nodup → (vs.foldl (fun o V => V.blocks.foldl addH o) o).Nodup
  | [], o, h => h
  | V :: vs, o, h => liveL_nodup vs (addHs_nodup _ h)
theorem hsL_push {A : St} {lo : Nat} {l : List HashT} {v : Value} (h : HsRow A lo l v) (x : HashT) (hlo : lo ≤ A.next) (hl : l.length ≤ 1048576) :
    ∃ v' A', aappend Try.prog (A.alloc (.cells (hsC x) 62 (some 0))) 24 24 v (.slice (some ⟨A.next, 0, none⟩) 1 1) = some (v', A') ∧ HsRow A' lo (l ++ [x]) v' ∧ A'.next = A.next + 2 ∧ rowB v' = some (A.next + 1) ∧ ∀ b, b < A.next → rowB v ≠ some b → A'.get b = A.get b := by
  obtain ⟨v', A2, hap, hr2, hn2, hrb, hf2⟩ := row_push (A := A) (sp := none) (c := 1) (xs := hsC x) Try.el24 Try.underlying24 (by intro k; exact TypeDesc.noConfusion) Try.sz62 Try.byt62 Try.zero62 rfl h hlo (by omega) (by omega) (hsC_cell' x) (hsC_len x)
  refine ⟨v', A2, hap, ?_, hn2, hrb, hf2⟩
  unfold HsRow
  rw [List.flatMap_append, List.length_append]; simpa using hr2
theorem hs_elem {l : List HashT} {i : Nat} {x : HashT} (hx : l[i]? = some x) : ((l.flatMap hsC).drop (i * 32)).take 32 = hsC x := by
  rw [List.flatMap_def]
  exact flat_elem (fun cs hc => by obtain ⟨y, _, rfl⟩ := List.mem_map.1 hc; exact hsC_len y) (by rw [List.getElem?_map, hx]; rfl)
/-- A hash's variable, newly laid. -/
theorem one_stH (B : St) (h : HashT) : ∃ C, storeC (B.alloc (.cells [.int .u8 0, .int .u8 0, .int .u8 0, .int .u8 0, .int .u8 0, .int .u8 0, .int .u8 0, .int .u8 0, .int .u8 0, .int .u8 0, .int .u8 0, .int .u8 0, .int .u8 0, .int .u8 0, .int .u8 0, .int .u8 0, .int .u8 0, .int .u8 0, .int .u8 0, .int .u8 0, .int .u8 0, .int .u8 0, .int .u8 0, .int .u8 0, .int .u8 0, .int .u8 0, .int .u8 0, .int .u8 0, .int .u8 0, .int .u8 0, .int .u8 0, .int .u8 0] 62 (some 0))) (some 32) (some (.cells [.int .u8 0, .int .u8 0, .int .u8 0, .int .u8 0, .int .u8 0, .int .u8 0, .int .u8 0, .int .u8 0, .int .u8 0, .int .u8 0, .int .u8 0, .int .u8 0, .int .u8 0, .int .u8 0, .int .u8 0, .int .u8 0, .int .u8 0, .int .u8 0, .int .u8 0, .int .u8 0, .int .u8 0, .int .u8 0, .int .u8 0, .int .u8 0, .int .u8 0, .int .u8 0, .int .u8 0, .int .u8 0, .int .u8 0, .int .u8 0, .int .u8 0, .int .u8 0] 62 (some 0))) B.next 0 (.agg (hsC h).toArray) = some C ∧ Over B C ∧ C.next = B.next + 1 ∧ C.get B.next = some (.cells (hsC h) 62 (some 0)) :=
  ⟨_, stN (n := 32) rfl (hsC_len h) (hsC_cell' h), ((Over.refl B).alloc _).upd (Nat.le_refl _) _, rfl, get_upd_same ..⟩
theorem one_stV (B : St) {cs : List Value} (h1 : cs.length = 4) (h2 : cs.all cell1 = true) : ∃ C, storeC (B.alloc (.cells [.int .u32 0, .slice none 0 0, .slice none 0 0, .slice none 0 0] 28 (some 0))) (some 4) (some (.cells [.int .u32 0, .slice none 0 0, .slice none 0 0, .slice none 0 0] 28 (some 0))) B.next 0 (.agg cs.toArray) = some C ∧ Over B C ∧ C.next = B.next + 1 ∧ C.get B.next = some (.cells cs 28 (some 0)) :=
  ⟨_, stN (n := 4) rfl h1 h2, ((Over.refl B).alloc _).upd (Nat.le_refl _) _, rfl, get_upd_same ..⟩
def LivePost (A : St) (vs : List VerT) (e : Ending) (A' : St) : Prop := ∃ v, e = .returned v ∧ Over A A' ∧ HsRow A' A.next (liveL vs) v
set_option maxHeartbeats 8000000 in
theorem live_ok (w0 : World) (A : St) (S : StT) (cs : List Value) (hS : StC A S cs) (h8 : S.vers.length ≤ 8) (hb : ∀ V ∈ S.vers, V.blocks.length ≤ 1000) : ACalls Try.prog w0 19 #[.agg cs.toArray] A (LivePost A S.vers) := by
  obtain ⟨hs22, hsc⟩ := hS.len
  obtain ⟨v, tl, rfl, hv, _⟩ := hS.parts
  refine call_E Try.enters19 Try.func19 rfl (Nat.le_of_ble_eq_true rfl) fun hw hbd => ?_
  obtain ⟨A1, hA1⟩ : ∃ A1, A1 = A.alloc (.cells (v :: tl) 43 (some 0)) := ⟨_, rfl⟩
  have o1 : Over A A1 := hA1 ▸ (Over.refl A).alloc _
  have g1 : A1.get A.next = some (.cells (v :: tl) 43 (some 0)) := by rw [hA1]; exact get_alloc_same ..
  have n1 : A1.next = A.next + 1 := by rw [hA1]; rfl
  have hlen := NV.lenU (e := 28) (hv.ge o1.ge).1
  simp (maxSteps := 1000000) (disch := (first | omega | (simp only [nx_alloc, nx_upd, len_cons, len_nil, List.length_set, List.length_map, List.length_append] <;> omega) | fail)) only [Nat.reduceAdd, Nat.reduceSub, Nat.reduceMul, Nat.reduceLT, Nat.reduceLeDiff, Nat.reduceEqDiff, ↓reduceIte, reduceCtorEq, Int.reduceAdd, Int.reduceSub, Int.reduceMul, Int.reduceLT, Int.reduceLE, Int.reduceEq, Int.reduceNe, Int.reduceToNat, Int.reduceNeg, go_sem, Try.ntmps19, Try.results19]
  rw [← hA1]
  simp (maxSteps := 1000000) (disch := (first | omega | (simp only [nx_alloc, nx_upd, len_cons, len_nil, List.length_set, List.length_map, List.length_append] <;> omega) | fail)) only [Nat.reduceAdd, Nat.reduceSub, Nat.reduceMul, Nat.reduceLT, Nat.reduceLeDiff, Nat.reduceEqDiff, ↓reduceIte, reduceCtorEq, Int.reduceAdd, Int.reduceSub, Int.reduceMul, Int.reduceLT, Int.reduceLE, Int.reduceEq, Int.reduceNe, Int.reduceToNat, Int.reduceNeg, go_sem, g1, hlen]
  refine aw_loop (fun k x A' => ∃ (ρ : Nat → Value) (i : Nat) (u : Value), x = E 32 ρ [] ∧ k = S.vers.length - i ∧ i ≤ S.vers.length ∧ Over A A' ∧ A.next + 1 ≤ A'.next ∧ HsRow A' (A.next + 1) (liveL (S.vers.take i)) u ∧ ρ 2 = u ∧ ρ 8 = v ∧ ρ 9 = .int .i64 S.vers.length ∧ ρ 10 = .int .i64 i) S.vers.length
    ⟨_, 0, _, rfl, rfl, Nat.zero_le _, o1, by omega, Row.nil .., rfl, rfl, rfl, rfl⟩ ?_
  clear hA1 g1 n1 o1 hlen
  rintro k x A' ⟨ρ, i, u, rfl, hk, hi, ho, hlo, hrow, r2, r8, r9, r10⟩
  refine aw_of ?_
  by_cases hend : i = S.vers.length
  · have e1 : ¬ ((i : Int) < S.vers.length) := by omega
    rw [hend, List.take_length] at hrow
    simp (maxSteps := 1000000) (disch := (first | omega | (simp only [nx_alloc, nx_upd, len_cons, len_nil, List.length_set, List.length_map, List.length_append] <;> omega) | fail)) only [Nat.reduceAdd, Nat.reduceSub, Nat.reduceMul, Nat.reduceLT, Nat.reduceLeDiff, Nat.reduceEqDiff, ↓reduceIte, reduceCtorEq, Int.reduceAdd, Int.reduceSub, Int.reduceMul, Int.reduceLT, Int.reduceLE, Int.reduceEq, Int.reduceNe, Int.reduceToNat, Int.reduceNeg, go_sem, r2, r8, r9, r10, Try.results19]
    exact gc_here ⟨u, rfl, ho, Row.keep hrow (Nat.le_refl _) (fun _ _ _ _ => rfl) (by omega)⟩
  have e1 : ((i : Int) < S.vers.length) := by omega
  obtain ⟨V, hV⟩ : ∃ V, S.vers[i]? = some V := ⟨S.vers[i]'(by omega), List.getElem?_eq_getElem (by omega)⟩
  have hVb := hb V (List.mem_of_getElem? hV)
  obtain ⟨b, off, vc, q1, q2, q3, q4, cells, e', m, q5, q6, q7⟩ := hv.1.at (P := Try.prog) (e := 28) Try.sz28 hV
  have q5' : A'.get b = _ := (ho.get b q1).trans q5
  have hld := ld_agg (e' := e') (m := m) q6 q7
  obtain ⟨A2, st4, o2, n2, g4⟩ := one_stV A' q4 q3.cell
  obtain ⟨p, q, w, rfl, hpv, _, _⟩ := q3
  have hp2 : HsView A2 V.blocks p := View.over hpv (ho.trans o2)
  have hlenp := View.lenU (e := 62) hp2
  have hsum := liveL_len (S.vers.take i) [] (fun V hV => hb V (List.mem_of_mem_take hV))
  have htl : (S.vers.take i).length ≤ 8 := by rw [List.length_take]; omega
  have hlive : (liveL (S.vers.take i)).length ≤ 8000 := by have : ([] : List HashT).length = 0 := rfl; unfold liveL; omega
  have htk : S.vers.take (i + 1) = S.vers.take i ++ [V] := by rw [List.take_add_one, hV]; rfl
  simp (maxSteps := 1000000) (disch := (first | omega | (simp only [nx_alloc, nx_upd, len_cons, len_nil, List.length_set, List.length_map, List.length_append] <;> omega) | fail)) only [Nat.reduceAdd, Nat.reduceSub, Nat.reduceMul, Nat.reduceLT, Nat.reduceLeDiff, Nat.reduceEqDiff, ↓reduceIte, reduceCtorEq, Int.reduceAdd, Int.reduceSub, Int.reduceMul, Int.reduceLT, Int.reduceLE, Int.reduceEq, Int.reduceNe, Int.reduceToNat, Int.reduceNeg, go_sem, r2, r8, r9, r10, q2, q5', hld, st4, g4, hlenp]
  obtain ⟨Lv, hLv⟩ : ∃ x, x = liveL (S.vers.take i) := ⟨_, rfl⟩
  rw [← hLv] at hrow hlive
  refine aw_loop (fun k2 y A3 => ∃ (ρ : Nat → Value) (j : Nat) (u : Value), y = E 32 ρ [] ∧ k2 = V.blocks.length - j ∧ j ≤ V.blocks.length ∧ Over A A3 ∧ A2.next ≤ A3.next ∧ HsRow A3 (A.next + 1) ((V.blocks.take j).foldl addH Lv) u ∧ ρ 2 = u ∧ ρ 8 = v ∧ ρ 9 = .int .i64 S.vers.length ∧ ρ 10 = .int .i64 i ∧ ρ 15 = p ∧ ρ 16 = .int .i64 V.blocks.length ∧ ρ 17 = .int .i64 j) V.blocks.length
    ⟨_, 0, u, rfl, rfl, Nat.zero_le _, ho.trans o2, Nat.le_refl _, Row.over hrow o2, r2, r8, r9, r10, rfl, rfl, rfl⟩ ?_
  clear r2 r8 r9 r10 st4 g4 hlenp hp2
  rintro k2 y A3 ⟨ρ, j, u, rfl, hk2, hj, o3, n3, hrow3, r2, r8, r9, r10, r15, r16, r17⟩
  refine aw_of ?_
  have hp3 : HsView A3 V.blocks p := View.over hpv o3
  by_cases hjend : j = V.blocks.length
  · have e2 : ¬ ((j : Int) < V.blocks.length) := by omega
    rw [hjend, List.take_length] at hrow3
    simp (maxSteps := 1000000) (disch := (first | omega | (simp only [nx_alloc, nx_upd, len_cons, len_nil, List.length_set, List.length_map, List.length_append] <;> omega) | fail)) only [Nat.reduceAdd, Nat.reduceSub, Nat.reduceMul, Nat.reduceLT, Nat.reduceLeDiff, Nat.reduceEqDiff, ↓reduceIte, reduceCtorEq, Int.reduceAdd, Int.reduceSub, Int.reduceMul, Int.reduceLT, Int.reduceLE, Int.reduceEq, Int.reduceNe, Int.reduceToNat, Int.reduceNeg, go_sem, r10, r16, r17]
    refine ⟨k - 1, by omega, _, i + 1, u, rfl, by omega, by omega, o3, by omega, by rw [htk, liveL_snoc, ← hLv]; exact hrow3, ?_, ?_, ?_, ?_⟩
    · simp (maxSteps := 1000000) (disch := (first | omega | (simp only [nx_alloc, nx_upd, len_cons, len_nil, List.length_set, List.length_map, List.length_append] <;> omega) | fail)) only [Nat.reduceAdd, Nat.reduceSub, Nat.reduceMul, Nat.reduceLT, Nat.reduceLeDiff, Nat.reduceEqDiff, ↓reduceIte, reduceCtorEq, Int.reduceAdd, Int.reduceSub, Int.reduceMul, Int.reduceLT, Int.reduceLE, Int.reduceEq, Int.reduceNe, Int.reduceToNat, Int.reduceNeg, go_sem, r2]
    · simp (maxSteps := 1000000) (disch := (first | omega | (simp only [nx_alloc, nx_upd, len_cons, len_nil, List.length_set, List.length_map, List.length_append] <;> omega) | fail)) only [Nat.reduceAdd, Nat.reduceSub, Nat.reduceMul, Nat.reduceLT, Nat.reduceLeDiff, Nat.reduceEqDiff, ↓reduceIte, reduceCtorEq, Int.reduceAdd, Int.reduceSub, Int.reduceMul, Int.reduceLT, Int.reduceLE, Int.reduceEq, Int.reduceNe, Int.reduceToNat, Int.reduceNeg, go_sem, r8]
    · simp (maxSteps := 1000000) (disch := (first | omega | (simp only [nx_alloc, nx_upd, len_cons, len_nil, List.length_set, List.length_map, List.length_append] <;> omega) | fail)) only [Nat.reduceAdd, Nat.reduceSub, Nat.reduceMul, Nat.reduceLT, Nat.reduceLeDiff, Nat.reduceEqDiff, ↓reduceIte, reduceCtorEq, Int.reduceAdd, Int.reduceSub, Int.reduceMul, Int.reduceLT, Int.reduceLE, Int.reduceEq, Int.reduceNe, Int.reduceToNat, Int.reduceNeg, go_sem, r9]
    · simp (maxSteps := 1000000) (disch := (first | omega | (simp only [nx_alloc, nx_upd, len_cons, len_nil, List.length_set, List.length_map, List.length_append] <;> omega) | fail)) only [Nat.reduceAdd, Nat.reduceSub, Nat.reduceMul, Nat.reduceLT, Nat.reduceLeDiff, Nat.reduceEqDiff, ↓reduceIte, reduceCtorEq, Int.reduceAdd, Int.reduceSub, Int.reduceMul, Int.reduceLT, Int.reduceLE, Int.reduceEq, Int.reduceNe, Int.reduceToNat, Int.reduceNeg, go_sem]
      rfl
  have e2 : ((j : Int) < V.blocks.length) := by omega
  obtain ⟨h, hh⟩ : ∃ h, V.blocks[j]? = some h := ⟨V.blocks[j]'(by omega), List.getElem?_eq_getElem (by omega)⟩
  obtain ⟨xb, xo, x1, x2, x3, xcl, xe, xm, x4, x5, x6⟩ := View.at (P := Try.prog) (e := 62) hp3 Try.sz62 (i := j) (by omega)
  rw [hs_elem hh] at x6
  have hldx := ld_agg (e' := xe) (m := xm) x5 x6
  obtain ⟨A4, st6, o4, n4, g6⟩ := one_stH A3 h
  have hrow4 : HsRow A4 (A.next + 1) ((V.blocks.take j).foldl addH Lv) u := Row.over hrow3 o4
  have hld6 := ldN (e := 62) (m := some 0) (hsC_len h)
  have htk6 : (hsC h).take 32 = hsC h := List.take_of_length_le (by rw [hsC_len]; omega)
  have hjl := addHs_len (V.blocks.take j) Lv
  have hjt : (V.blocks.take j).length ≤ 1000 := by rw [List.length_take]; omega
  have htkj : V.blocks.take (j + 1) = V.blocks.take j ++ [h] := by rw [List.take_add_one, hh]; rfl
  obtain ⟨O, hO⟩ : ∃ O, O = (V.blocks.take j).foldl addH Lv := ⟨_, rfl⟩
  rw [← hO] at hrow4 hjl
  simp (maxSteps := 1000000) (disch := (first | omega | (simp only [nx_alloc, nx_upd, len_cons, len_nil, List.length_set, List.length_map, List.length_append] <;> omega) | fail)) only [Nat.reduceAdd, Nat.reduceSub, Nat.reduceMul, Nat.reduceLT, Nat.reduceLeDiff, Nat.reduceEqDiff, ↓reduceIte, reduceCtorEq, Int.reduceAdd, Int.reduceSub, Int.reduceMul, Int.reduceLT, Int.reduceLE, Int.reduceEq, Int.reduceNe, Int.reduceToNat, Int.reduceNeg, go_sem, r2, r15, r16, r17, x3, x4, hldx, st6, g6, hld6, htk6]
  refine call1 (containsH_ok w0 A4 O u (Row.view hrow4) (by omega) h) ?_
  by_cases hin : h ∈ O
  · have hadd : (V.blocks.take (j + 1)).foldl addH Lv = O := by rw [htkj, addH_snoc, ← hO]; exact if_pos hin
    simp (maxSteps := 1000000) (disch := (first | omega | (simp only [nx_alloc, nx_upd, len_cons, len_nil, List.length_set, List.length_map, List.length_append] <;> omega) | fail)) only [Nat.reduceAdd, Nat.reduceSub, Nat.reduceMul, Nat.reduceLT, Nat.reduceLeDiff, Nat.reduceEqDiff, ↓reduceIte, reduceCtorEq, Int.reduceAdd, Int.reduceSub, Int.reduceMul, Int.reduceLT, Int.reduceLE, Int.reduceEq, Int.reduceNe, Int.reduceToNat, Int.reduceNeg, go_sem, hin, r17]
    refine ⟨k2 - 1, by omega, _, j + 1, u, rfl, by omega, by omega, o3.trans o4, by omega, by rw [hadd]; exact hrow4, ?_, ?_, ?_, ?_, ?_, ?_, ?_⟩
    · simp (maxSteps := 1000000) (disch := (first | omega | (simp only [nx_alloc, nx_upd, len_cons, len_nil, List.length_set, List.length_map, List.length_append] <;> omega) | fail)) only [Nat.reduceAdd, Nat.reduceSub, Nat.reduceMul, Nat.reduceLT, Nat.reduceLeDiff, Nat.reduceEqDiff, ↓reduceIte, reduceCtorEq, Int.reduceAdd, Int.reduceSub, Int.reduceMul, Int.reduceLT, Int.reduceLE, Int.reduceEq, Int.reduceNe, Int.reduceToNat, Int.reduceNeg, go_sem, r2]
    · simp (maxSteps := 1000000) (disch := (first | omega | (simp only [nx_alloc, nx_upd, len_cons, len_nil, List.length_set, List.length_map, List.length_append] <;> omega) | fail)) only [Nat.reduceAdd, Nat.reduceSub, Nat.reduceMul, Nat.reduceLT, Nat.reduceLeDiff, Nat.reduceEqDiff, ↓reduceIte, reduceCtorEq, Int.reduceAdd, Int.reduceSub, Int.reduceMul, Int.reduceLT, Int.reduceLE, Int.reduceEq, Int.reduceNe, Int.reduceToNat, Int.reduceNeg, go_sem, r8]
    · simp (maxSteps := 1000000) (disch := (first | omega | (simp only [nx_alloc, nx_upd, len_cons, len_nil, List.length_set, List.length_map, List.length_append] <;> omega) | fail)) only [Nat.reduceAdd, Nat.reduceSub, Nat.reduceMul, Nat.reduceLT, Nat.reduceLeDiff, Nat.reduceEqDiff, ↓reduceIte, reduceCtorEq, Int.reduceAdd, Int.reduceSub, Int.reduceMul, Int.reduceLT, Int.reduceLE, Int.reduceEq, Int.reduceNe, Int.reduceToNat, Int.reduceNeg, go_sem, r9]
    · simp (maxSteps := 1000000) (disch := (first | omega | (simp only [nx_alloc, nx_upd, len_cons, len_nil, List.length_set, List.length_map, List.length_append] <;> omega) | fail)) only [Nat.reduceAdd, Nat.reduceSub, Nat.reduceMul, Nat.reduceLT, Nat.reduceLeDiff, Nat.reduceEqDiff, ↓reduceIte, reduceCtorEq, Int.reduceAdd, Int.reduceSub, Int.reduceMul, Int.reduceLT, Int.reduceLE, Int.reduceEq, Int.reduceNe, Int.reduceToNat, Int.reduceNeg, go_sem, r10]
    · simp (maxSteps := 1000000) (disch := (first | omega | (simp only [nx_alloc, nx_upd, len_cons, len_nil, List.length_set, List.length_map, List.length_append] <;> omega) | fail)) only [Nat.reduceAdd, Nat.reduceSub, Nat.reduceMul, Nat.reduceLT, Nat.reduceLeDiff, Nat.reduceEqDiff, ↓reduceIte, reduceCtorEq, Int.reduceAdd, Int.reduceSub, Int.reduceMul, Int.reduceLT, Int.reduceLE, Int.reduceEq, Int.reduceNe, Int.reduceToNat, Int.reduceNeg, go_sem, r15]
    · simp (maxSteps := 1000000) (disch := (first | omega | (simp only [nx_alloc, nx_upd, len_cons, len_nil, List.length_set, List.length_map, List.length_append] <;> omega) | fail)) only [Nat.reduceAdd, Nat.reduceSub, Nat.reduceMul, Nat.reduceLT, Nat.reduceLeDiff, Nat.reduceEqDiff, ↓reduceIte, reduceCtorEq, Int.reduceAdd, Int.reduceSub, Int.reduceMul, Int.reduceLT, Int.reduceLE, Int.reduceEq, Int.reduceNe, Int.reduceToNat, Int.reduceNeg, go_sem, r16]
    · simp (maxSteps := 1000000) (disch := (first | omega | (simp only [nx_alloc, nx_upd, len_cons, len_nil, List.length_set, List.length_map, List.length_append] <;> omega) | fail)) only [Nat.reduceAdd, Nat.reduceSub, Nat.reduceMul, Nat.reduceLT, Nat.reduceLeDiff, Nat.reduceEqDiff, ↓reduceIte, reduceCtorEq, Int.reduceAdd, Int.reduceSub, Int.reduceMul, Int.reduceLT, Int.reduceLE, Int.reduceEq, Int.reduceNe, Int.reduceToNat, Int.reduceNeg, go_sem]
      rfl
  · have hadd : (V.blocks.take (j + 1)).foldl addH Lv = O ++ [h] := by rw [htkj, addH_snoc, ← hO]; exact if_neg hin
    obtain ⟨u', A5, hpush, hrow5, n5, hrb5, k5⟩ := hsL_push hrow4 h (by omega) (by omega)
    have hset := set_all [.int .u8 0, .int .u8 0, .int .u8 0, .int .u8 0, .int .u8 0, .int .u8 0, .int .u8 0, .int .u8 0, .int .u8 0, .int .u8 0, .int .u8 0, .int .u8 0, .int .u8 0, .int .u8 0, .int .u8 0, .int .u8 0, .int .u8 0, .int .u8 0, .int .u8 0, .int .u8 0, .int .u8 0, .int .u8 0, .int .u8 0, .int .u8 0, .int .u8 0, .int .u8 0, .int .u8 0, .int .u8 0, .int .u8 0, .int .u8 0, .int .u8 0, .int .u8 0] (hsC h) (by rw [hsC_len]; rfl)
    have hlen32 := hsC_len h
    simp (maxSteps := 1000000) (disch := (first | omega | (simp only [nx_alloc, nx_upd, len_cons, len_nil, List.length_set, List.length_map, List.length_append] <;> omega) | fail)) only [Nat.reduceAdd, Nat.reduceSub, Nat.reduceMul, Nat.reduceLT, Nat.reduceLeDiff, Nat.reduceEqDiff, ↓reduceIte, reduceCtorEq, Int.reduceAdd, Int.reduceSub, Int.reduceMul, Int.reduceLT, Int.reduceLE, Int.reduceEq, Int.reduceNe, Int.reduceToNat, Int.reduceNeg, go_sem, hin, r2, g6, hld6, htk6, hset]
    rw [hpush]
    simp (maxSteps := 1000000) (disch := (first | omega | (simp only [nx_alloc, nx_upd, len_cons, len_nil, List.length_set, List.length_map, List.length_append] <;> omega) | fail)) only [Nat.reduceAdd, Nat.reduceSub, Nat.reduceMul, Nat.reduceLT, Nat.reduceLeDiff, Nat.reduceEqDiff, ↓reduceIte, reduceCtorEq, Int.reduceAdd, Int.reduceSub, Int.reduceMul, Int.reduceLT, Int.reduceLE, Int.reduceEq, Int.reduceNe, Int.reduceToNat, Int.reduceNeg, go_sem, r17]
    have o05 : Over A A5 := Row.push_over (A0 := A) (by omega) (fun b hb => by have := (Row.rb hrow4 b hb).1; omega) (by omega) k5 (o3.trans o4) (Nat.le_refl _)
    refine ⟨k2 - 1, by omega, _, j + 1, u', rfl, by omega, by omega, o05, by omega, by rw [hadd]; exact hrow5, ?_, ?_, ?_, ?_, ?_, ?_, ?_⟩
    · simp (maxSteps := 1000000) (disch := (first | omega | (simp only [nx_alloc, nx_upd, len_cons, len_nil, List.length_set, List.length_map, List.length_append] <;> omega) | fail)) only [Nat.reduceAdd, Nat.reduceSub, Nat.reduceMul, Nat.reduceLT, Nat.reduceLeDiff, Nat.reduceEqDiff, ↓reduceIte, reduceCtorEq, Int.reduceAdd, Int.reduceSub, Int.reduceMul, Int.reduceLT, Int.reduceLE, Int.reduceEq, Int.reduceNe, Int.reduceToNat, Int.reduceNeg, go_sem]
    · simp (maxSteps := 1000000) (disch := (first | omega | (simp only [nx_alloc, nx_upd, len_cons, len_nil, List.length_set, List.length_map, List.length_append] <;> omega) | fail)) only [Nat.reduceAdd, Nat.reduceSub, Nat.reduceMul, Nat.reduceLT, Nat.reduceLeDiff, Nat.reduceEqDiff, ↓reduceIte, reduceCtorEq, Int.reduceAdd, Int.reduceSub, Int.reduceMul, Int.reduceLT, Int.reduceLE, Int.reduceEq, Int.reduceNe, Int.reduceToNat, Int.reduceNeg, go_sem, r8]
    · simp (maxSteps := 1000000) (disch := (first | omega | (simp only [nx_alloc, nx_upd, len_cons, len_nil, List.length_set, List.length_map, List.length_append] <;> omega) | fail)) only [Nat.reduceAdd, Nat.reduceSub, Nat.reduceMul, Nat.reduceLT, Nat.reduceLeDiff, Nat.reduceEqDiff, ↓reduceIte, reduceCtorEq, Int.reduceAdd, Int.reduceSub, Int.reduceMul, Int.reduceLT, Int.reduceLE, Int.reduceEq, Int.reduceNe, Int.reduceToNat, Int.reduceNeg, go_sem, r9]
    · simp (maxSteps := 1000000) (disch := (first | omega | (simp only [nx_alloc, nx_upd, len_cons, len_nil, List.length_set, List.length_map, List.length_append] <;> omega) | fail)) only [Nat.reduceAdd, Nat.reduceSub, Nat.reduceMul, Nat.reduceLT, Nat.reduceLeDiff, Nat.reduceEqDiff, ↓reduceIte, reduceCtorEq, Int.reduceAdd, Int.reduceSub, Int.reduceMul, Int.reduceLT, Int.reduceLE, Int.reduceEq, Int.reduceNe, Int.reduceToNat, Int.reduceNeg, go_sem, r10]
    · simp (maxSteps := 1000000) (disch := (first | omega | (simp only [nx_alloc, nx_upd, len_cons, len_nil, List.length_set, List.length_map, List.length_append] <;> omega) | fail)) only [Nat.reduceAdd, Nat.reduceSub, Nat.reduceMul, Nat.reduceLT, Nat.reduceLeDiff, Nat.reduceEqDiff, ↓reduceIte, reduceCtorEq, Int.reduceAdd, Int.reduceSub, Int.reduceMul, Int.reduceLT, Int.reduceLE, Int.reduceEq, Int.reduceNe, Int.reduceToNat, Int.reduceNeg, go_sem, r15]
    · simp (maxSteps := 1000000) (disch := (first | omega | (simp only [nx_alloc, nx_upd, len_cons, len_nil, List.length_set, List.length_map, List.length_append] <;> omega) | fail)) only [Nat.reduceAdd, Nat.reduceSub, Nat.reduceMul, Nat.reduceLT, Nat.reduceLeDiff, Nat.reduceEqDiff, ↓reduceIte, reduceCtorEq, Int.reduceAdd, Int.reduceSub, Int.reduceMul, Int.reduceLT, Int.reduceLE, Int.reduceEq, Int.reduceNe, Int.reduceToNat, Int.reduceNeg, go_sem, r16]
    · simp (maxSteps := 1000000) (disch := (first | omega | (simp only [nx_alloc, nx_upd, len_cons, len_nil, List.length_set, List.length_map, List.length_append] <;> omega) | fail)) only [Nat.reduceAdd, Nat.reduceSub, Nat.reduceMul, Nat.reduceLT, Nat.reduceLeDiff, Nat.reduceEqDiff, ↓reduceIte, reduceCtorEq, Int.reduceAdd, Int.reduceSub, Int.reduceMul, Int.reduceLT, Int.reduceLE, Int.reduceEq, Int.reduceNe, Int.reduceToNat, Int.reduceNeg, go_sem]
      rfl
theorem placeN_cs (l : List VerT) (id : Int) : ∀ m i, l.length - i ≤ m → (placeN l id i = -1 ∧ ∀ k V, i ≤ k → l[k]? = some V → V.id ≠ id) ∨ ∃ (j : Nat) (V : VerT), i ≤ j ∧ l[j]? = some V ∧ V.id = id ∧ placeN l id i = j ∧ ∀ k V', i ≤ k → k < j → l[k]? = some V' → V'.id ≠ id
  | m, i, hm => by
    by_cases hi : i < l.length
    · have hg : l[i]? = some l[i] := List.getElem?_eq_getElem hi
      rw [placeN_at hg]
      by_cases he : l[i].id = id
      · rw [if_pos he]
        exact .inr ⟨i, _, Nat.le_refl _, hg, he, rfl, fun k V' h1 h2 => by omega⟩
      · rw [if_neg he]
        match m, hm with
        | m + 1, hm =>
          rcases placeN_cs l id m (i + 1) (by omega) with ⟨h1, h2⟩ | ⟨j, V, h1, h2, h3, h4, h5⟩
          · refine .inl ⟨h1, fun k V hk hV => ?_⟩
            by_cases hki : k = i
            · subst hki; rw [hg] at hV; cases hV; exact he
            · exact h2 k V (by omega) hV
          · refine .inr ⟨j, V, by omega, h2, h3, h4, fun k V' hk hkj hV => ?_⟩
            by_cases hki : k = i
            · subst hki; rw [hg] at hV; cases hV; exact he
            · exact h5 k V' (by omega) hkj hV
        | 0, hm => omega
    · exact .inl ⟨placeN_end (by omega), fun k V hk hV => by have := (List.getElem?_eq_some_iff.1 hV).1; omega⟩
theorem nd_inj {α : Type} {B : List α} (h : B.Nodup) {i : α} {j k : Nat} (h1 : B[j]? = some i) (h2 : B[k]? = some i) : j = k := by
  obtain ⟨hj, e1⟩ := List.getElem?_eq_some_iff.1 h1
  obtain ⟨hk, e2⟩ := List.getElem?_eq_some_iff.1 h2
  exact (List.getElem_inj h).1 (e1.trans e2.symm)
/-- What is known of a vault's versions. -/
def goodV (l : List VerT) : Prop := l.length ≤ 8 ∧ (l.map (·.id)).Nodup ∧ ∀ V ∈ l, mayB V = true
theorem placeL_neg {l : List VerT} {id : Int} (h : ¬ 0 ≤ placeL l id) : ∀ V ∈ l, V.id ≠ id := by
  rcases placeN_cs l id l.length 0 (by omega) with ⟨_, h2⟩ | ⟨j, V, _, _, _, h4, _⟩
  · intro V hV
    obtain ⟨k, hk⟩ := List.getElem?_of_mem hV
    exact h2 k V (Nat.zero_le _) hk
  · exact absurd (by show 0 ≤ placeL l id; unfold placeL; rw [h4]; omega) h
theorem doL_good {l : List VerT} (o : VOp) (h : goodV l) : goodV (doL l o).1 ∧ ∀ V ∈ (doL l o).1, V ∈ l ∨ V = o.v := by
  refine ⟨⟨doL_len o h.1, ?_, ?_⟩, ?_⟩
  all_goals
    unfold doL
    obtain ⟨h1, h2, h3⟩ := h
    split
    · split
      · first | exact h2 | exact h3 | exact fun V hV => .inl hV
      split
      · first | exact h2 | exact h3 | exact fun V hV => .inl hV
      split
      · first | exact h2 | exact h3 | exact fun V hV => .inl hV
      · rename_i hm hp _
        have hp' := placeL_neg hp
        first
        | (show ((l ++ [o.v]).map (·.id)).Nodup
           rw [List.map_append, List.nodup_append]
           refine ⟨h2, by simp, fun a ha b hb => ?_⟩
           obtain ⟨V, hV, rfl⟩ := List.mem_map.1 ha
           rw [List.map_singleton, List.mem_singleton] at hb
           subst hb
           exact hp' V hV)
        | (intro V hV
           rcases List.mem_append.1 hV with hV | hV
           · exact h3 V hV
           · rw [List.mem_singleton.1 hV]; simpa using hm)
        | (intro V hV
           rcases List.mem_append.1 hV with hV | hV
           · exact .inl hV
           · exact .inr (List.mem_singleton.1 hV))
    split
    · split
      · first | exact h2 | exact h3 | exact fun V hV => .inl hV
      · first
        | exact h2.sublist ((List.eraseIdx_sublist ..).map _)
        | exact fun V hV => h3 V (List.mem_of_mem_eraseIdx hV)
        | exact fun V hV => .inl (List.mem_of_mem_eraseIdx hV)
    split
    · first
      | exact h2.sublist ((List.drop_sublist ..).map _)
      | exact fun V hV => h3 V (List.mem_of_mem_drop hV)
      | exact fun V hV => .inl (List.mem_of_mem_drop hV)
    split
    · first | exact h2 | exact h3 | exact fun V hV => .inl hV
    split
    · split
      · first | exact h2 | exact h3 | exact fun V hV => .inl hV
      · first | exact h2 | exact h3 | exact fun V hV => .inl hV
    · first | exact h2 | exact h3 | exact fun V hV => .inl hV
theorem applyS_good' {S : StT} (r : ReqT) (h : goodV S.vers) : goodV (applyS S r).1.vers ∧ ∀ V ∈ (applyS S r).1.vers, V ∈ S.vers ∨ V = r.op.v := by
  unfold applyS
  split
  · exact ⟨h, fun V hV => .inl hV⟩
  split
  · exact ⟨h, fun V hV => .inl hV⟩
  split
  · exact ⟨h, fun V hV => .inl hV⟩
  · exact doL_good r.op h
theorem allS_good : ∀ (l : List ReqT), goodV (allS l).1.vers ∧ ∀ V ∈ (allS l).1.vers, ∃ r ∈ l, V = r.op.v := by
  intro l
  generalize hn : l.length = n
  induction n generalizing l with
  | zero =>
    rw [List.eq_nil_of_length_eq_zero hn]
    exact ⟨⟨Nat.zero_le _, List.nodup_nil, fun V h => by cases h⟩, fun V h => by cases h⟩
  | succ n ih =>
    obtain ⟨m, r, rfl⟩ : ∃ m r, l = m ++ [r] := ⟨l.dropLast, l.getLast (by intro e; subst e; simp at hn), (List.dropLast_concat_getLast _).symm⟩
    have hm : m.length = n := by simp at hn; exact hn
    obtain ⟨i1, i2⟩ := ih m hm
    rw [allS_snoc]
    obtain ⟨a1, a2⟩ := applyS_good' r i1
    refine ⟨a1, fun V hV => ?_⟩
    rcases a2 V hV with hV | rfl
    · obtain ⟨q, hq, e⟩ := i2 V hV
      exact ⟨q, List.mem_append_left _ hq, e⟩
    · exact ⟨r, List.mem_append_right _ (List.mem_singleton.2 rfl), rfl⟩
theorem hvyL_blocks {l : List ReqT} (h : hvyL l = false) : ∀ r ∈ l, r.op.v.blocks.length ≤ 40 := by
  unfold hvyL at h
  rw [Bool.or_eq_false_iff] at h
  intro r hr
  have := List.any_eq_false.1 h.2 r hr
  unfold hvV at this
  simp only [Bool.not_eq_true, Bool.or_eq_false_iff, decide_eq_false_iff_not] at this
  omega
end Go.Fw
