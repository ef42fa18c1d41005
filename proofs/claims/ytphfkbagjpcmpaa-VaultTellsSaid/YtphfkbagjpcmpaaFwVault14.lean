import Derived.Test.YtphfkbagjpcmpaaFwVault13
set_option linter.unusedSimpArgs false
set_option linter.unusedVariables false
namespace Go.Fw
open Go.Proofs Go.RowKit
theorem Try.enters23 : Enters Try.prog 23 := enters_of Try.func23 rfl (by kernel_rfl)
abbrev zH : List Value := [.int .u8 0, .int .u8 0, .int .u8 0, .int .u8 0, .int .u8 0, .int .u8 0, .int .u8 0, .int .u8 0, .int .u8 0, .int .u8 0, .int .u8 0, .int .u8 0, .int .u8 0, .int .u8 0, .int .u8 0, .int .u8 0, .int .u8 0, .int .u8 0, .int .u8 0, .int .u8 0, .int .u8 0, .int .u8 0, .int .u8 0, .int .u8 0, .int .u8 0, .int .u8 0, .int .u8 0, .int .u8 0, .int .u8 0, .int .u8 0, .int .u8 0, .int .u8 0]
/-- One hash, told again or for the first time: heap, row, hashes. -/
noncomputable def stepI (s : St × Value × List HashT) (h : HashT) : St × Value × List HashT :=
  if h ∈ s.2.2 then ((s.1.alloc (.cells zH 62 (some 0))).upd s.1.next (some (.cells (hsC h) 62 (some 0))), s.2.1, s.2.2)
  else match aappend Try.prog (((s.1.alloc (.cells zH 62 (some 0))).upd s.1.next (some (.cells (hsC h) 62 (some 0)))).alloc (.cells (hsC h) 62 (some 0))) 24 24 s.2.1 (.slice (some ⟨s.1.next + 1, 0, none⟩) 1 1) with
    | some (v', A') => (A', v', s.2.2 ++ [h])
    | none => s
def liveI (A0 : St) (s : St × Value × List HashT) : Prop := Over A0 s.1 ∧ HsRow s.1 A0.next s.2.2 s.2.1
theorem stepI_ok {A0 : St} {s : St × Value × List HashT} (hs : liveI A0 s) (hl : s.2.2.length ≤ 1048576) (h : HashT) : liveI A0 (stepI s h) ∧ (stepI s h).2.2 = addH s.2.2 h ∧
    (h ∈ s.2.2 → stepI s h = ((s.1.alloc (.cells zH 62 (some 0))).upd s.1.next (some (.cells (hsC h) 62 (some 0))), s.2.1, s.2.2)) ∧
    (h ∉ s.2.2 → aappend Try.prog (((s.1.alloc (.cells zH 62 (some 0))).upd s.1.next (some (.cells (hsC h) 62 (some 0)))).alloc (.cells (hsC h) 62 (some 0))) 24 24 s.2.1 (.slice (some ⟨s.1.next + 1, 0, none⟩) 1 1) = some ((stepI s h).2.1, (stepI s h).1)) := by
  obtain ⟨o1, r1⟩ := hs
  have n1 := o1.next
  have o2 : Over s.1 ((s.1.alloc (.cells zH 62 (some 0))).upd s.1.next (some (.cells (hsC h) 62 (some 0)))) := ((Over.refl _).alloc _).upd (Nat.le_refl _) _
  by_cases hin : h ∈ s.2.2
  · have e : stepI s h = ((s.1.alloc (.cells zH 62 (some 0))).upd s.1.next (some (.cells (hsC h) 62 (some 0))), s.2.1, s.2.2) := if_pos hin
    rw [e]
    refine ⟨⟨o1.trans o2, Row.over r1 o2⟩, (if_pos hin).symm, fun _ => rfl, fun hn => absurd hin hn⟩
  · obtain ⟨v', A', hp, hr, hn, hrb, hk⟩ := hsL_push (Row.over r1 o2) h (by have := o2.next; omega) hl
    have hp' : aappend Try.prog (((s.1.alloc (.cells zH 62 (some 0))).upd s.1.next (some (.cells (hsC h) 62 (some 0)))).alloc (.cells (hsC h) 62 (some 0))) 24 24 s.2.1 (.slice (some ⟨s.1.next + 1, 0, none⟩) 1 1) = some (v', A') := hp
    have e : stepI s h = (A', v', s.2.2 ++ [h]) := by unfold stepI; rw [if_neg hin, hp']
    rw [e]
    have o3 : Over A0 A' := Row.push_over (A0 := A0) (by have := o2.next; omega) (fun b hb => (Row.rb (Row.over r1 o2) b hb).1) (by omega) hk (o1.trans o2) (by omega)
    exact ⟨⟨o3, hr⟩, (if_neg hin).symm, fun hn => absurd hn hin, fun _ => hp'⟩
theorem foldI_ok {A0 : St} : ∀ (l : List HashT) {s : St × Value × List HashT}, liveI A0 s → s.2.2.length + l.length ≤ 1048576 → liveI A0 (l.foldl stepI s) ∧ (l.foldl stepI s).2.2 = l.foldl addH s.2.2
  | [], s, h, _ => ⟨h, rfl⟩
  | x :: l, s, h, hl => by
    have hl' : s.2.2.length + (l.length + 1) ≤ 1048576 := hl
    obtain ⟨h1, h2, _, _⟩ := stepI_ok h (by omega) x
    have h3 := addH_len s.2.2 x
    obtain ⟨h4, h5⟩ := foldI_ok l h1 (by rw [h2]; omega)
    exact ⟨h4, by rw [List.foldl_cons, h5, h2]; rfl⟩
abbrev zV4 : List Value := [.int .u32 0, .slice none 0 0, .slice none 0 0, .slice none 0 0]
/-- One version's hashes, behind its variable. -/
noncomputable def stepO (s : St × Value × List HashT) (V : VerT × List Value) : St × Value × List HashT := V.1.blocks.foldl stepI ((s.1.alloc (.cells zV4 28 (some 0))).upd s.1.next (some (.cells V.2 28 (some 0))), s.2.1, s.2.2)
theorem stepO_ok {A0 : St} {s : St × Value × List HashT} (hs : liveI A0 s) (V : VerT × List Value) (hl : s.2.2.length + V.1.blocks.length ≤ 1048576) : liveI A0 (stepO s V) ∧ (stepO s V).2.2 = V.1.blocks.foldl addH s.2.2 := by
  obtain ⟨o1, r1⟩ := hs
  have n1 := o1.next
  have o2 : Over s.1 ((s.1.alloc (.cells zV4 28 (some 0))).upd s.1.next (some (.cells V.2 28 (some 0)))) := ((Over.refl _).alloc _).upd (Nat.le_refl _) _
  exact foldI_ok V.1.blocks (s := ((s.1.alloc (.cells zV4 28 (some 0))).upd s.1.next (some (.cells V.2 28 (some 0))), s.2.1, s.2.2)) ⟨o1.trans o2, Row.over r1 o2⟩ hl
theorem foldO_ok {A0 : St} : ∀ (l : List (VerT × List Value)) {s : St × Value × List HashT}, liveI A0 s → (∀ V ∈ l, V.1.blocks.length ≤ 1000) → s.2.2.length + l.length * 1000 ≤ 1048576 → liveI A0 (l.foldl stepO s) ∧ (l.foldl stepO s).2.2 = (l.map (·.1)).foldl (fun o V => V.blocks.foldl addH o) s.2.2
  | [], s, h, _, _ => ⟨h, rfl⟩
  | V :: l, s, h, hb, hl => by
    have hV := hb V (List.mem_cons_self ..)
    rw [List.length_cons] at hl
    obtain ⟨h1, h2⟩ := stepO_ok h V (by omega)
    have h3 := addHs_len V.1.blocks s.2.2
    obtain ⟨h4, h5⟩ := foldO_ok l h1 (fun V hV => hb V (List.mem_cons_of_mem _ hV)) (by rw [h2]; omega)
    exact ⟨h4, by rw [List.foldl_cons, h5, h2]; rfl⟩
theorem foldl_take {α β : Type} (f : β → α → β) (b : β) {l : List α} {i : Nat} {x : α} (h : l[i]? = some x) : (l.take (i + 1)).foldl f b = f ((l.take i).foldl f b) x := by
  rw [List.take_add_one, h, List.foldl_append]; rfl
set_option maxHeartbeats 8000000 in
/-- Live, with its own heap. -/
theorem live_ex (w0 : World) (A : St) (S : StT) (cs : List Value) (hS : StC A S cs) (h8 : S.vers.length ≤ 8) (hb : ∀ V ∈ S.vers, V.blocks.length ≤ 1000) : ∃ v A', ACalls Try.prog w0 19 #[.agg cs.toArray] A (fin v A') ∧ Over A A' ∧ HsRow A' A.next (liveL S.vers) v := by
  obtain ⟨hs22, hsc⟩ := hS.len
  obtain ⟨v, tl, rfl, hv, _⟩ := hS.parts
  obtain ⟨css, ha, hcl, hview⟩ := hv.1
  have hcn := ha.length
  obtain ⟨A1, hA1⟩ : ∃ A1, A1 = A.alloc (.cells (v :: tl) 43 (some 0)) := ⟨_, rfl⟩
  have o1 : Over A A1 := hA1 ▸ (Over.refl A).alloc _
  have g1 : A1.get A.next = some (.cells (v :: tl) 43 (some 0)) := by rw [hA1]; exact get_alloc_same ..
  have n1 : A1.next = A.next + 1 := by rw [hA1]; rfl
  obtain ⟨zs, hzs⟩ : ∃ zs, zs = S.vers.zip css := ⟨_, rfl⟩
  have hzl : zs.length = S.vers.length := by rw [hzs, List.length_zip]; omega
  have hz1 : zs.map (·.1) = S.vers := by rw [hzs]; exact List.map_fst_zip (by omega)
  obtain ⟨s0, hs0⟩ : ∃ s0 : St × Value × List HashT, s0 = (A1, .slice none 0 0, []) := ⟨_, rfl⟩
  have i0 : liveI A1 s0 := by rw [hs0]; exact ⟨Over.refl _, Row.nil ..⟩
  have hbz : ∀ V ∈ zs, V.1.blocks.length ≤ 1000 := fun V hV => hb V.1 (by rw [← hz1]; exact List.mem_map_of_mem hV)
  have finv : ∀ i, i ≤ zs.length → liveI A1 ((zs.take i).foldl stepO s0) ∧ ((zs.take i).foldl stepO s0).2.2 = liveL (S.vers.take i) := fun i hi => by
    obtain ⟨h1, h2⟩ := foldO_ok (zs.take i) i0 (fun V hV => hbz V (List.mem_of_mem_take hV)) (by rw [hs0, List.length_take]; show 0 + _ ≤ _; omega)
    refine ⟨h1, ?_⟩
    rw [h2, hs0, List.map_take, hz1]; rfl
  refine ⟨(zs.foldl stepO s0).2.1, (zs.foldl stepO s0).1, ?_, ?_, ?_⟩
  rotate_left
  · have := (finv zs.length (Nat.le_refl _)).1.1; rw [List.take_length] at this; exact o1.trans this
  · obtain ⟨⟨_, hr⟩, he⟩ := finv zs.length (Nat.le_refl _)
    rw [he, List.take_length, List.take_of_length_le (by omega)] at hr
    exact Row.keep hr (Nat.le_refl _) (fun _ _ _ _ => rfl) (by omega)
  refine call_E Try.enters19 Try.func19 rfl (Nat.le_of_ble_eq_true rfl) fun hw hbd => ?_
  have hlen := NV.lenU (e := 28) (hv.ge o1.ge).1
  simp (maxSteps := 1000000) (disch := (first | omega | (simp only [nx_alloc, nx_upd, len_cons, len_nil, List.length_set, List.length_map, List.length_append] <;> omega) | fail)) only [Nat.reduceAdd, Nat.reduceSub, Nat.reduceMul, Nat.reduceLT, Nat.reduceLeDiff, Nat.reduceEqDiff, ↓reduceIte, reduceCtorEq, Int.reduceAdd, Int.reduceSub, Int.reduceMul, Int.reduceLT, Int.reduceLE, Int.reduceEq, Int.reduceNe, Int.reduceToNat, Int.reduceNeg, go_sem, Try.ntmps19, Try.results19]
  rw [← hA1]
  simp (maxSteps := 1000000) (disch := (first | omega | (simp only [nx_alloc, nx_upd, len_cons, len_nil, List.length_set, List.length_map, List.length_append] <;> omega) | fail)) only [Nat.reduceAdd, Nat.reduceSub, Nat.reduceMul, Nat.reduceLT, Nat.reduceLeDiff, Nat.reduceEqDiff, ↓reduceIte, reduceCtorEq, Int.reduceAdd, Int.reduceSub, Int.reduceMul, Int.reduceLT, Int.reduceLE, Int.reduceEq, Int.reduceNe, Int.reduceToNat, Int.reduceNeg, go_sem, g1, hlen]
  refine aw_loop (fun k x A' => ∃ (ρ : Nat → Value) (i : Nat), x = E 32 ρ [] ∧ k = S.vers.length - i ∧ i ≤ S.vers.length ∧ A' = ((zs.take i).foldl stepO s0).1 ∧ ρ 2 = ((zs.take i).foldl stepO s0).2.1 ∧ ρ 8 = v ∧ ρ 9 = .int .i64 S.vers.length ∧ ρ 10 = .int .i64 i) S.vers.length
    ⟨_, 0, rfl, rfl, Nat.zero_le _, by rw [hs0]; rfl, by rw [hs0]; rfl, rfl, rfl, rfl⟩ ?_
  clear hA1 g1 hlen
  rintro k x A' ⟨ρ, i, rfl, hk, hi, hA', r2, r8, r9, r10⟩
  refine aw_of ?_
  by_cases hend : i = S.vers.length
  · have e1 : ¬ ((i : Int) < S.vers.length) := by omega
    rw [hend, ← hzl, List.take_length] at hA' r2
    simp (maxSteps := 1000000) (disch := (first | omega | (simp only [nx_alloc, nx_upd, len_cons, len_nil, List.length_set, List.length_map, List.length_append] <;> omega) | fail)) only [Nat.reduceAdd, Nat.reduceSub, Nat.reduceMul, Nat.reduceLT, Nat.reduceLeDiff, Nat.reduceEqDiff, ↓reduceIte, reduceCtorEq, Int.reduceAdd, Int.reduceSub, Int.reduceMul, Int.reduceLT, Int.reduceLE, Int.reduceEq, Int.reduceNe, Int.reduceToNat, Int.reduceNeg, go_sem, r2, r8, r9, r10, Try.results19]
    exact gc_here ⟨rfl, hA'⟩
  have e1 : ((i : Int) < S.vers.length) := by omega
  obtain ⟨⟨ho1, hrow⟩, hlv⟩ := finv i (by omega)
  have ho := o1.trans ho1
  obtain ⟨V, hV⟩ : ∃ V, S.vers[i]? = some V := ⟨S.vers[i]'(by omega), List.getElem?_eq_getElem (by omega)⟩
  have hVb := hb V (List.mem_of_getElem? hV)
  obtain ⟨vc, hvc, q3⟩ := ha.get hV
  have hzi : zs[i]? = some (V, vc) := by rw [hzs, List.getElem?_zip_eq_some]; exact ⟨hV, hvc⟩
  have hstep := foldl_take stepO s0 hzi
  generalize (zs.take i).foldl stepO s0 = s at *
  obtain ⟨sA, su, sl⟩ := s
  simp only at hA' r2 ho ho1 hrow hlv hstep
  subst hA'
  have q4 := hcl vc (List.mem_of_getElem? hvc)
  obtain ⟨b, off, q1, q0, q2, cells, e', m, q5, q6, q7⟩ := (View.over hview ho).at (P := Try.prog) (e := 28) Try.sz28 (i := i) (by omega)
  rw [flat_elem hcl hvc] at q7
  have hld := ld_agg (e' := e') (m := m) q6 q7
  have st4 := stN (n := 4) (X := A'.alloc (.cells zV4 28 (some 0))) (b := A'.next) (z := zV4) (e := 28) rfl q4 q3.cell
  obtain ⟨p, q, w, rfl, hpv, _, _⟩ := q3
  obtain ⟨A2, hA2⟩ : ∃ A2, A2 = (A'.alloc (.cells zV4 28 (some 0))).upd A'.next (some (.cells [.int .u32 V.id, p, q, w] 28 (some 0))) := ⟨_, rfl⟩
  have o2 : Over A' A2 := hA2 ▸ ((Over.refl _).alloc _).upd (Nat.le_refl _) _
  have g4 : A2.get A'.next = some (.cells [.int .u32 V.id, p, q, w] 28 (some 0)) := by rw [hA2, get_upd_same]
  have n2 : A2.next = A'.next + 1 := by rw [hA2]; rfl
  have hso : stepO (A', su, sl) (V, [.int .u32 V.id, p, q, w]) = V.blocks.foldl stepI (A2, su, sl) := by rw [hA2]; rfl
  rw [hso] at hstep
  unfold zV4 at st4 hA2
  have hp2 : HsView A2 V.blocks p := View.over hpv (ho.trans o2)
  have hlenp := View.lenU (e := 62) hp2
  have hsum := liveL_len (S.vers.take i) [] (fun V hV => hb V (List.mem_of_mem_take hV))
  have htl : (S.vers.take i).length ≤ 8 := by rw [List.length_take]; omega
  have hlive : sl.length ≤ 8000 := by have : ([] : List HashT).length = 0 := rfl; rw [hlv]; unfold liveL; omega
  have i2 : liveI A1 (A2, su, sl) := ⟨ho1.trans o2, Row.over hrow o2⟩
  simp (maxSteps := 1000000) (disch := (first | omega | (simp only [nx_alloc, nx_upd, len_cons, len_nil, List.length_set, List.length_map, List.length_append] <;> omega) | fail)) only [Nat.reduceAdd, Nat.reduceSub, Nat.reduceMul, Nat.reduceLT, Nat.reduceLeDiff, Nat.reduceEqDiff, ↓reduceIte, reduceCtorEq, Int.reduceAdd, Int.reduceSub, Int.reduceMul, Int.reduceLT, Int.reduceLE, Int.reduceEq, Int.reduceNe, Int.reduceToNat, Int.reduceNeg, go_sem, r2, r8, r9, r10, q2, q5, hld, st4]
  rw [← hA2]
  simp (maxSteps := 1000000) (disch := (first | omega | (simp only [nx_alloc, nx_upd, len_cons, len_nil, List.length_set, List.length_map, List.length_append] <;> omega) | fail)) only [Nat.reduceAdd, Nat.reduceSub, Nat.reduceMul, Nat.reduceLT, Nat.reduceLeDiff, Nat.reduceEqDiff, ↓reduceIte, reduceCtorEq, Int.reduceAdd, Int.reduceSub, Int.reduceMul, Int.reduceLT, Int.reduceLE, Int.reduceEq, Int.reduceNe, Int.reduceToNat, Int.reduceNeg, go_sem, g4, hlenp]
  refine aw_loop (fun k2 y A3 => ∃ (ρ : Nat → Value) (j : Nat), y = E 32 ρ [] ∧ k2 = V.blocks.length - j ∧ j ≤ V.blocks.length ∧ A3 = ((V.blocks.take j).foldl stepI (A2, su, sl)).1 ∧ ρ 2 = ((V.blocks.take j).foldl stepI (A2, su, sl)).2.1 ∧ ρ 8 = v ∧ ρ 9 = .int .i64 S.vers.length ∧ ρ 10 = .int .i64 i ∧ ρ 15 = p ∧ ρ 16 = .int .i64 V.blocks.length ∧ ρ 17 = .int .i64 j) V.blocks.length
    ⟨_, 0, rfl, rfl, Nat.zero_le _, rfl, r2, r8, r9, r10, rfl, rfl, rfl⟩ ?_
  clear r2 r8 r9 r10 st4 g4 hlenp hp2
  rintro k2 y A3 ⟨ρ, j, rfl, hk2, hj, hA3, r2, r8, r9, r10, r15, r16, r17⟩
  refine aw_of ?_
  by_cases hjend : j = V.blocks.length
  · have e2 : ¬ ((j : Int) < V.blocks.length) := by omega
    rw [hjend, List.take_length] at hA3 r2
    simp (maxSteps := 1000000) (disch := (first | omega | (simp only [nx_alloc, nx_upd, len_cons, len_nil, List.length_set, List.length_map, List.length_append] <;> omega) | fail)) only [Nat.reduceAdd, Nat.reduceSub, Nat.reduceMul, Nat.reduceLT, Nat.reduceLeDiff, Nat.reduceEqDiff, ↓reduceIte, reduceCtorEq, Int.reduceAdd, Int.reduceSub, Int.reduceMul, Int.reduceLT, Int.reduceLE, Int.reduceEq, Int.reduceNe, Int.reduceToNat, Int.reduceNeg, go_sem, r10, r16, r17]
    refine ⟨k - 1, by omega, _, i + 1, rfl, by omega, by omega, by rw [hstep]; exact hA3, ?_, ?_, ?_, ?_⟩
    · simp (maxSteps := 1000000) (disch := (first | omega | (simp only [nx_alloc, nx_upd, len_cons, len_nil, List.length_set, List.length_map, List.length_append] <;> omega) | fail)) only [Nat.reduceAdd, Nat.reduceSub, Nat.reduceMul, Nat.reduceLT, Nat.reduceLeDiff, Nat.reduceEqDiff, ↓reduceIte, reduceCtorEq, Int.reduceAdd, Int.reduceSub, Int.reduceMul, Int.reduceLT, Int.reduceLE, Int.reduceEq, Int.reduceNe, Int.reduceToNat, Int.reduceNeg, go_sem, r2]
      rw [hstep]
    · simp (maxSteps := 1000000) (disch := (first | omega | (simp only [nx_alloc, nx_upd, len_cons, len_nil, List.length_set, List.length_map, List.length_append] <;> omega) | fail)) only [Nat.reduceAdd, Nat.reduceSub, Nat.reduceMul, Nat.reduceLT, Nat.reduceLeDiff, Nat.reduceEqDiff, ↓reduceIte, reduceCtorEq, Int.reduceAdd, Int.reduceSub, Int.reduceMul, Int.reduceLT, Int.reduceLE, Int.reduceEq, Int.reduceNe, Int.reduceToNat, Int.reduceNeg, go_sem, r8]
    · simp (maxSteps := 1000000) (disch := (first | omega | (simp only [nx_alloc, nx_upd, len_cons, len_nil, List.length_set, List.length_map, List.length_append] <;> omega) | fail)) only [Nat.reduceAdd, Nat.reduceSub, Nat.reduceMul, Nat.reduceLT, Nat.reduceLeDiff, Nat.reduceEqDiff, ↓reduceIte, reduceCtorEq, Int.reduceAdd, Int.reduceSub, Int.reduceMul, Int.reduceLT, Int.reduceLE, Int.reduceEq, Int.reduceNe, Int.reduceToNat, Int.reduceNeg, go_sem, r9]
    · simp (maxSteps := 1000000) (disch := (first | omega | (simp only [nx_alloc, nx_upd, len_cons, len_nil, List.length_set, List.length_map, List.length_append] <;> omega) | fail)) only [Nat.reduceAdd, Nat.reduceSub, Nat.reduceMul, Nat.reduceLT, Nat.reduceLeDiff, Nat.reduceEqDiff, ↓reduceIte, reduceCtorEq, Int.reduceAdd, Int.reduceSub, Int.reduceMul, Int.reduceLT, Int.reduceLE, Int.reduceEq, Int.reduceNe, Int.reduceToNat, Int.reduceNeg, go_sem]
      rfl
  have e2 : ((j : Int) < V.blocks.length) := by omega
  obtain ⟨h, hh⟩ : ∃ h, V.blocks[j]? = some h := ⟨V.blocks[j]'(by omega), List.getElem?_eq_getElem (by omega)⟩
  have hjt : (V.blocks.take j).length ≤ 1000 := by rw [List.length_take]; omega
  obtain ⟨i3, hl3⟩ := foldI_ok (V.blocks.take j) i2 (by simp only; omega)
  have hjl := addHs_len (V.blocks.take j) sl
  have hst3 := foldl_take stepI (A2, su, sl) hh
  simp only at hl3
  generalize (V.blocks.take j).foldl stepI (A2, su, sl) = s3 at *
  obtain ⟨sA, su3, sl3⟩ := s3
  simp only at hA3 r2 hl3
  subst hA3
  obtain ⟨_, _, hadd, hnot⟩ := stepI_ok i3 (by show sl3.length ≤ _; rw [hl3]; omega) h
  obtain ⟨o3, hrow3⟩ := i3
  simp only at o3 hrow3 hadd hnot
  have hp3 : HsView A3 V.blocks p := View.over hpv (o1.trans o3)
  obtain ⟨xb, xo, x1, x2, x3, xcl, xe, xm, x4, x5, x6⟩ := View.at (P := Try.prog) (e := 62) hp3 Try.sz62 (i := j) (by omega)
  rw [hs_elem hh] at x6
  have hldx := ld_agg (e' := xe) (m := xm) x5 x6
  have st6 := stN (n := 32) (X := A3.alloc (.cells zH 62 (some 0))) (b := A3.next) (z := zH) (e := 62) rfl (hsC_len h) (hsC_cell' h)
  obtain ⟨A4, hA4⟩ : ∃ A4, A4 = (A3.alloc (.cells zH 62 (some 0))).upd A3.next (some (.cells (hsC h) 62 (some 0))) := ⟨_, rfl⟩
  have o4 : Over A3 A4 := hA4 ▸ ((Over.refl _).alloc _).upd (Nat.le_refl _) _
  have g6 : A4.get A3.next = some (.cells (hsC h) 62 (some 0)) := by rw [hA4, get_upd_same]
  have n4 : A4.next = A3.next + 1 := by rw [hA4]; rfl
  rw [← hA4] at hadd hnot
  unfold zH at st6 hA4
  have hld6 := ldN (e := 62) (m := some 0) (hsC_len h)
  have htk6 : (hsC h).take 32 = hsC h := List.take_of_length_le (by rw [hsC_len]; omega)
  simp (maxSteps := 1000000) (disch := (first | omega | (simp only [nx_alloc, nx_upd, len_cons, len_nil, List.length_set, List.length_map, List.length_append] <;> omega) | fail)) only [Nat.reduceAdd, Nat.reduceSub, Nat.reduceMul, Nat.reduceLT, Nat.reduceLeDiff, Nat.reduceEqDiff, ↓reduceIte, reduceCtorEq, Int.reduceAdd, Int.reduceSub, Int.reduceMul, Int.reduceLT, Int.reduceLE, Int.reduceEq, Int.reduceNe, Int.reduceToNat, Int.reduceNeg, go_sem, r2, r15, r16, r17, x3, x4, hldx, st6]
  rw [← hA4]
  simp (maxSteps := 1000000) (disch := (first | omega | (simp only [nx_alloc, nx_upd, len_cons, len_nil, List.length_set, List.length_map, List.length_append] <;> omega) | fail)) only [Nat.reduceAdd, Nat.reduceSub, Nat.reduceMul, Nat.reduceLT, Nat.reduceLeDiff, Nat.reduceEqDiff, ↓reduceIte, reduceCtorEq, Int.reduceAdd, Int.reduceSub, Int.reduceMul, Int.reduceLT, Int.reduceLE, Int.reduceEq, Int.reduceNe, Int.reduceToNat, Int.reduceNeg, go_sem, g6, hld6, htk6]
  refine call1 (containsH_ok w0 A4 sl3 su3 (Row.view (Row.over hrow3 o4)) (by rw [hl3]; omega) h) ?_
  by_cases hin : h ∈ sl3
  · have hst4 := hst3.trans (hadd hin)
    simp (maxSteps := 1000000) (disch := (first | omega | (simp only [nx_alloc, nx_upd, len_cons, len_nil, List.length_set, List.length_map, List.length_append] <;> omega) | fail)) only [Nat.reduceAdd, Nat.reduceSub, Nat.reduceMul, Nat.reduceLT, Nat.reduceLeDiff, Nat.reduceEqDiff, ↓reduceIte, reduceCtorEq, Int.reduceAdd, Int.reduceSub, Int.reduceMul, Int.reduceLT, Int.reduceLE, Int.reduceEq, Int.reduceNe, Int.reduceToNat, Int.reduceNeg, go_sem, hin, r17]
    refine ⟨k2 - 1, by omega, _, j + 1, rfl, by omega, by omega, by rw [hst4], ?_, ?_, ?_, ?_, ?_, ?_, ?_⟩
    · simp (maxSteps := 1000000) (disch := (first | omega | (simp only [nx_alloc, nx_upd, len_cons, len_nil, List.length_set, List.length_map, List.length_append] <;> omega) | fail)) only [Nat.reduceAdd, Nat.reduceSub, Nat.reduceMul, Nat.reduceLT, Nat.reduceLeDiff, Nat.reduceEqDiff, ↓reduceIte, reduceCtorEq, Int.reduceAdd, Int.reduceSub, Int.reduceMul, Int.reduceLT, Int.reduceLE, Int.reduceEq, Int.reduceNe, Int.reduceToNat, Int.reduceNeg, go_sem, r2]
      rw [hst4]
    · simp (maxSteps := 1000000) (disch := (first | omega | (simp only [nx_alloc, nx_upd, len_cons, len_nil, List.length_set, List.length_map, List.length_append] <;> omega) | fail)) only [Nat.reduceAdd, Nat.reduceSub, Nat.reduceMul, Nat.reduceLT, Nat.reduceLeDiff, Nat.reduceEqDiff, ↓reduceIte, reduceCtorEq, Int.reduceAdd, Int.reduceSub, Int.reduceMul, Int.reduceLT, Int.reduceLE, Int.reduceEq, Int.reduceNe, Int.reduceToNat, Int.reduceNeg, go_sem, r8]
    · simp (maxSteps := 1000000) (disch := (first | omega | (simp only [nx_alloc, nx_upd, len_cons, len_nil, List.length_set, List.length_map, List.length_append] <;> omega) | fail)) only [Nat.reduceAdd, Nat.reduceSub, Nat.reduceMul, Nat.reduceLT, Nat.reduceLeDiff, Nat.reduceEqDiff, ↓reduceIte, reduceCtorEq, Int.reduceAdd, Int.reduceSub, Int.reduceMul, Int.reduceLT, Int.reduceLE, Int.reduceEq, Int.reduceNe, Int.reduceToNat, Int.reduceNeg, go_sem, r9]
    · simp (maxSteps := 1000000) (disch := (first | omega | (simp only [nx_alloc, nx_upd, len_cons, len_nil, List.length_set, List.length_map, List.length_append] <;> omega) | fail)) only [Nat.reduceAdd, Nat.reduceSub, Nat.reduceMul, Nat.reduceLT, Nat.reduceLeDiff, Nat.reduceEqDiff, ↓reduceIte, reduceCtorEq, Int.reduceAdd, Int.reduceSub, Int.reduceMul, Int.reduceLT, Int.reduceLE, Int.reduceEq, Int.reduceNe, Int.reduceToNat, Int.reduceNeg, go_sem, r10]
    · simp (maxSteps := 1000000) (disch := (first | omega | (simp only [nx_alloc, nx_upd, len_cons, len_nil, List.length_set, List.length_map, List.length_append] <;> omega) | fail)) only [Nat.reduceAdd, Nat.reduceSub, Nat.reduceMul, Nat.reduceLT, Nat.reduceLeDiff, Nat.reduceEqDiff, ↓reduceIte, reduceCtorEq, Int.reduceAdd, Int.reduceSub, Int.reduceMul, Int.reduceLT, Int.reduceLE, Int.reduceEq, Int.reduceNe, Int.reduceToNat, Int.reduceNeg, go_sem, r15]
    · simp (maxSteps := 1000000) (disch := (first | omega | (simp only [nx_alloc, nx_upd, len_cons, len_nil, List.length_set, List.length_map, List.length_append] <;> omega) | fail)) only [Nat.reduceAdd, Nat.reduceSub, Nat.reduceMul, Nat.reduceLT, Nat.reduceLeDiff, Nat.reduceEqDiff, ↓reduceIte, reduceCtorEq, Int.reduceAdd, Int.reduceSub, Int.reduceMul, Int.reduceLT, Int.reduceLE, Int.reduceEq, Int.reduceNe, Int.reduceToNat, Int.reduceNeg, go_sem, r16]
    · simp (maxSteps := 1000000) (disch := (first | omega | (simp only [nx_alloc, nx_upd, len_cons, len_nil, List.length_set, List.length_map, List.length_append] <;> omega) | fail)) only [Nat.reduceAdd, Nat.reduceSub, Nat.reduceMul, Nat.reduceLT, Nat.reduceLeDiff, Nat.reduceEqDiff, ↓reduceIte, reduceCtorEq, Int.reduceAdd, Int.reduceSub, Int.reduceMul, Int.reduceLT, Int.reduceLE, Int.reduceEq, Int.reduceNe, Int.reduceToNat, Int.reduceNeg, go_sem]
      rfl
  · have hpush := hnot hin
    rw [← n4] at hpush
    have hset := set_all [.int .u8 0, .int .u8 0, .int .u8 0, .int .u8 0, .int .u8 0, .int .u8 0, .int .u8 0, .int .u8 0, .int .u8 0, .int .u8 0, .int .u8 0, .int .u8 0, .int .u8 0, .int .u8 0, .int .u8 0, .int .u8 0, .int .u8 0, .int .u8 0, .int .u8 0, .int .u8 0, .int .u8 0, .int .u8 0, .int .u8 0, .int .u8 0, .int .u8 0, .int .u8 0, .int .u8 0, .int .u8 0, .int .u8 0, .int .u8 0, .int .u8 0, .int .u8 0] (hsC h) (by rw [hsC_len]; rfl)
    have hlen32 := hsC_len h
    simp (maxSteps := 1000000) (disch := (first | omega | (simp only [nx_alloc, nx_upd, len_cons, len_nil, List.length_set, List.length_map, List.length_append] <;> omega) | fail)) only [Nat.reduceAdd, Nat.reduceSub, Nat.reduceMul, Nat.reduceLT, Nat.reduceLeDiff, Nat.reduceEqDiff, ↓reduceIte, reduceCtorEq, Int.reduceAdd, Int.reduceSub, Int.reduceMul, Int.reduceLT, Int.reduceLE, Int.reduceEq, Int.reduceNe, Int.reduceToNat, Int.reduceNeg, go_sem, hin, r2, g6, hld6, htk6, hset]
    rw [hpush]
    simp (maxSteps := 1000000) (disch := (first | omega | (simp only [nx_alloc, nx_upd, len_cons, len_nil, List.length_set, List.length_map, List.length_append] <;> omega) | fail)) only [Nat.reduceAdd, Nat.reduceSub, Nat.reduceMul, Nat.reduceLT, Nat.reduceLeDiff, Nat.reduceEqDiff, ↓reduceIte, reduceCtorEq, Int.reduceAdd, Int.reduceSub, Int.reduceMul, Int.reduceLT, Int.reduceLE, Int.reduceEq, Int.reduceNe, Int.reduceToNat, Int.reduceNeg, go_sem, r17]
    refine ⟨k2 - 1, by omega, _, j + 1, rfl, by omega, by omega, by rw [hst3], ?_, ?_, ?_, ?_, ?_, ?_, ?_⟩
    · simp (maxSteps := 1000000) (disch := (first | omega | (simp only [nx_alloc, nx_upd, len_cons, len_nil, List.length_set, List.length_map, List.length_append] <;> omega) | fail)) only [Nat.reduceAdd, Nat.reduceSub, Nat.reduceMul, Nat.reduceLT, Nat.reduceLeDiff, Nat.reduceEqDiff, ↓reduceIte, reduceCtorEq, Int.reduceAdd, Int.reduceSub, Int.reduceMul, Int.reduceLT, Int.reduceLE, Int.reduceEq, Int.reduceNe, Int.reduceToNat, Int.reduceNeg, go_sem]
      rw [hst3]
    · simp (maxSteps := 1000000) (disch := (first | omega | (simp only [nx_alloc, nx_upd, len_cons, len_nil, List.length_set, List.length_map, List.length_append] <;> omega) | fail)) only [Nat.reduceAdd, Nat.reduceSub, Nat.reduceMul, Nat.reduceLT, Nat.reduceLeDiff, Nat.reduceEqDiff, ↓reduceIte, reduceCtorEq, Int.reduceAdd, Int.reduceSub, Int.reduceMul, Int.reduceLT, Int.reduceLE, Int.reduceEq, Int.reduceNe, Int.reduceToNat, Int.reduceNeg, go_sem, r8]
    · simp (maxSteps := 1000000) (disch := (first | omega | (simp only [nx_alloc, nx_upd, len_cons, len_nil, List.length_set, List.length_map, List.length_append] <;> omega) | fail)) only [Nat.reduceAdd, Nat.reduceSub, Nat.reduceMul, Nat.reduceLT, Nat.reduceLeDiff, Nat.reduceEqDiff, ↓reduceIte, reduceCtorEq, Int.reduceAdd, Int.reduceSub, Int.reduceMul, Int.reduceLT, Int.reduceLE, Int.reduceEq, Int.reduceNe, Int.reduceToNat, Int.reduceNeg, go_sem, r9]
    · simp (maxSteps := 1000000) (disch := (first | omega | (simp only [nx_alloc, nx_upd, len_cons, len_nil, List.length_set, List.length_map, List.length_append] <;> omega) | fail)) only [Nat.reduceAdd, Nat.reduceSub, Nat.reduceMul, Nat.reduceLT, Nat.reduceLeDiff, Nat.reduceEqDiff, ↓reduceIte, reduceCtorEq, Int.reduceAdd, Int.reduceSub, Int.reduceMul, Int.reduceLT, Int.reduceLE, Int.reduceEq, Int.reduceNe, Int.reduceToNat, Int.reduceNeg, go_sem, r10]
    · simp (maxSteps := 1000000) (disch := (first | omega | (simp only [nx_alloc, nx_upd, len_cons, len_nil, List.length_set, List.length_map, List.length_append] <;> omega) | fail)) only [Nat.reduceAdd, Nat.reduceSub, Nat.reduceMul, Nat.reduceLT, Nat.reduceLeDiff, Nat.reduceEqDiff, ↓reduceIte, reduceCtorEq, Int.reduceAdd, Int.reduceSub, Int.reduceMul, Int.reduceLT, Int.reduceLE, Int.reduceEq, Int.reduceNe, Int.reduceToNat, Int.reduceNeg, go_sem, r15]
    · simp (maxSteps := 1000000) (disch := (first | omega | (simp only [nx_alloc, nx_upd, len_cons, len_nil, List.length_set, List.length_map, List.length_append] <;> omega) | fail)) only [Nat.reduceAdd, Nat.reduceSub, Nat.reduceMul, Nat.reduceLT, Nat.reduceLeDiff, Nat.reduceEqDiff, ↓reduceIte, reduceCtorEq, Int.reduceAdd, Int.reduceSub, Int.reduceMul, Int.reduceLT, Int.reduceLE, Int.reduceEq, Int.reduceNe, Int.reduceToNat, Int.reduceNeg, go_sem, r16]
    · simp (maxSteps := 1000000) (disch := (first | omega | (simp only [nx_alloc, nx_upd, len_cons, len_nil, List.length_set, List.length_map, List.length_append] <;> omega) | fail)) only [Nat.reduceAdd, Nat.reduceSub, Nat.reduceMul, Nat.reduceLT, Nat.reduceLeDiff, Nat.reduceEqDiff, ↓reduceIte, reduceCtorEq, Int.reduceAdd, Int.reduceSub, Int.reduceMul, Int.reduceLT, Int.reduceLE, Int.reduceEq, Int.reduceNe, Int.reduceToNat, Int.reduceNeg, go_sem]
      rfl
end Go.Fw
