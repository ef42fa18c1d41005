import Derived.Test.YtphfkbagjpcmpaaFwVault3
set_option linter.unusedSimpArgs false
set_option linter.unusedVariables false
namespace Go.Fw
open Go.Proofs Go.RowKit
theorem Try.enters26 : Enters Try.prog 26 := enters_of Try.func26 rfl (by kernel_rfl)
theorem Try.enters16 : Enters Try.prog 16 := enters_of Try.func16 rfl (by kernel_rfl)
def fnV (c : Nat) (k : Int) : Value :=
  if k = 1 then .func (.func 36) #[] #[.pointer (some ⟨c, 0, none⟩)] else if k = 2 then .func (.func 40) #[] #[.pointer (some ⟨c, 0, none⟩)] else
  if k = 3 then .func (.func 43) #[] #[] else if k = 4 then .func (.func 45) #[] #[] else .func (.func 46) #[] #[.pointer (some ⟨c, 0, none⟩)]
def actsL (c : Nat) : List Value := [.nilFunc, fnV c 1, fnV c 2, fnV c 3, fnV c 4, fnV c 5]
theorem buildActs (p : Value) : abuild Try.prog 73 #[(1, .func (.func 36) #[] #[p]), (2, .func (.func 40) #[] #[p]), (3, .func (.func 43) #[] #[]), (4, .func (.func 45) #[] #[]), (5, .func (.func 46) #[] #[p])] = some (.agg #[.nilFunc, .func (.func 36) #[] #[p], .func (.func 40) #[] #[p], .func (.func 43) #[] #[], .func (.func 45) #[] #[], .func (.func 46) #[] #[p]]) := by kernel_rfl
set_option maxHeartbeats 1000000 in
theorem acts_ok (w0 : World) (A : St) : ∃ A', ACalls Try.prog w0 26 #[] A (fin (.agg (actsL (A.next + 1)).toArray) A') ∧ Over A A' ∧ A'.next = A.next + 2 ∧ A'.get (A.next + 1) = some wrongBk := by
  refine ⟨(((A.alloc (.cells [.nilFunc, .nilFunc, .nilFunc, .nilFunc, .nilFunc, .nilFunc] 73 (some 0))).alloc (.cells [.nilFunc] 83 (some 0))).upd (A.next + 1) (some wrongBk)).upd A.next (some (.cells (actsL (A.next + 1)) 73 (some 0))), ?_, (((Over.refl A).alloc _).alloc _ |>.upd (by omega) _).upd (Nat.le_refl _) _, rfl, ?_⟩
  rotate_left
  · rw [St.get_upd, if_neg (by omega), get_upd_same]
  refine call_E Try.enters26 Try.func26 rfl (Nat.le_of_ble_eq_true rfl) fun hw hbd => ?_
  unfold actsL fnV wrongBk
  simp only [if_true, if_neg (show ¬ (2 : Int) = 1 by decide), if_neg (show ¬ (3 : Int) = 1 by decide), if_neg (show ¬ (3 : Int) = 2 by decide), if_neg (show ¬ (4 : Int) = 1 by decide), if_neg (show ¬ (4 : Int) = 2 by decide), if_neg (show ¬ (4 : Int) = 3 by decide), if_neg (show ¬ (5 : Int) = 1 by decide), if_neg (show ¬ (5 : Int) = 2 by decide), if_neg (show ¬ (5 : Int) = 3 by decide), if_neg (show ¬ (5 : Int) = 4 by decide)]
  simp (maxSteps := 1000000) (disch := (first | omega | (simp only [nx_alloc, nx_upd, len_cons, len_nil, List.length_set, List.length_map, List.length_append] <;> omega) | fail)) only [Nat.reduceAdd, Nat.reduceSub, Nat.reduceMul, Nat.reduceLT, Nat.reduceLeDiff, Nat.reduceEqDiff, ↓reduceIte, reduceCtorEq, Int.reduceAdd, Int.reduceSub, Int.reduceMul, Int.reduceLT, Int.reduceLE, Int.reduceEq, Int.reduceNe, Int.reduceToNat, Int.reduceNeg, go_sem, Try.ntmps26, Try.results26, buildActs]
  exact gc_here ⟨rfl, rfl⟩
/-- Each act, behind its value. -/
theorem act_ok (w0 : World) (A : St) (L : List Nat) (hL : ∀ b ∈ L, b < A.next) (l : List VerT) (v : Value) (o : VOp) (oc : List Value) (hv : VsV (A.hide L) l v) (ho : VOpC (A.hide L) o oc) (hl : l.length ≤ 1000000) (hk : 1 ≤ o.kind ∧ o.kind ≤ 5) (hid : 0 ≤ o.id ∧ o.id < 4294967296) (hsm : o.v.small) (c : Nat) (hf : A.get c = some wrongBk) (hc : c < A.next) :
    ∃ v' rc A', ACallV Try.prog w0 (fnV c o.kind) #[v, .agg oc.toArray] A (fin (.tuple #[v', .agg rc.toArray]) A') ∧ Over A A' ∧ VsV (A'.hide L) (doL l o).1 v' ∧ RepC (A'.hide L) (doL l o).2 rc := by
  have hk' : o.kind = 1 ∨ o.kind = 2 ∨ o.kind = 3 ∨ o.kind = 4 ∨ o.kind = 5 := by omega
  rcases hk' with h | h | h | h | h
  · obtain ⟨v', rc, A', h1, h2⟩ := act1_ok w0 A L hL l v o oc hv ho hl h hsm c hf hc
    exact ⟨v', rc, A', by rw [h]; exact h1, h2⟩
  · obtain ⟨v', rc, A', h1, h2⟩ := act2_ok w0 A L hL l v o oc hv ho hl h c hf hc
    exact ⟨v', rc, A', by rw [h]; exact h1, h2⟩
  · obtain ⟨v', rc, A', h1, h2⟩ := act3_ok w0 A L hL l v o oc hv ho hl h hid
    exact ⟨v', rc, A', by rw [h]; exact h1, h2⟩
  · obtain ⟨v', rc, A', h1, h2⟩ := act4_ok w0 A L hL l v o oc hv ho hl h
    exact ⟨v', rc, A', by rw [h]; exact h1, h2⟩
  · obtain ⟨v', rc, A', h1, h2⟩ := act5_ok w0 A L hL l v o oc hv ho hl h c hf hc
    exact ⟨v', rc, A', by rw [h]; exact h1, h2⟩
theorem ldN {n : Nat} {cs : List Value} {e : TypeId} {m : Option Nat} (h : cs.length = n) : loadC (some true) (some n) (some (.cells cs e m)) 0 = some (.agg cs.toArray) := by
  rw [loadC_agg _ _ _ _ _ (by omega), List.drop_zero, ← h, List.take_length]
theorem stN {n : Nat} {X : St} {b : Nat} {z cs : List Value} {e : TypeId} (hz : z.length = n) (h : cs.length = n) (hc : cs.all cell1 = true) : storeC X (some n) (some (.cells z e (some 0))) b 0 (.agg cs.toArray) = some (X.upd b (some (.cells cs e (some 0)))) := by
  rw [storeC_aggS _ _ _ _ _ _ _ h.symm (Nat.le_refl _) (by omega), hc, guardO_true, set_all _ _ (by omega)]
theorem cellOf1 {v : Value} (h : one1 v = true) : cell1 v = true := by cases v <;> first | rfl | (simp [one1] at h)
def DoPost (A : St) (L : List Nat) (l : List VerT) (o : VOp) (tl : List Value) (e : Ending) (A' : St) : Prop := ∃ v' rc, e = .returned (.tuple #[.agg (v' :: tl).toArray, .agg rc.toArray]) ∧ Over A A' ∧ VsV (A'.hide L) (doL l o).1 v' ∧ RepC (A'.hide L) (doL l o).2 rc
theorem idx_acts (c : Nat) {k : Int} (hk : 1 ≤ k ∧ k ≤ 5) : (actsL c)[k.toNat]? = some (fnV c k) := by
  have hk' : k = 1 ∨ k = 2 ∨ k = 3 ∨ k = 4 ∨ k = 5 := by omega
  rcases hk' with rfl | rfl | rfl | rfl | rfl <;> rfl
theorem ld_at {a b : List Value} {n off : Nat} {cs : List Value} {e : TypeId} {m : Option Nat} (ha : a.length = off) (h : cs.length = n) : loadC (some true) (some n) (some (.cells (a ++ (cs ++ b)) e m)) off = some (.agg cs.toArray) := by
  rw [loadC_agg _ _ _ _ _ (by rw [List.length_append, List.length_append]; omega), ← ha, List.drop_left, ← h, List.take_left]
set_option maxHeartbeats 8000000 in
theorem do_ok (w0 : World) (A : St) (L : List Nat) (hL : ∀ b ∈ L, b < A.next) (l : List VerT) (v : Value) (tl : List Value) (o : VOp) (oc : List Value) (hv : VsV (A.hide L) l v) (ho : VOpC (A.hide L) o oc) (hl : l.length ≤ 1000000) (htl : tl.length = 21) (hcl : tl.all cell1 = true) (hid : 0 ≤ o.id ∧ o.id < 4294967296) (hsm : o.v.small) :
    ACalls Try.prog w0 16 #[.agg (v :: tl).toArray, .agg oc.toArray] A (DoPost A L l o tl) := by
  have hv1 : one1 v = true := by obtain ⟨ad, c, rfl⟩ := hv.sl; rfl
  have hvc := cellOf1 hv1
  have hS22 : (v :: tl).length = 22 := by rw [List.length_cons, htl]
  have hSc : (v :: tl).all cell1 = true := by rw [List.all_cons, hvc, hcl]; rfl
  have ho0 := ho
  have hoc : oc.length = 6 ∧ oc.all cell1 = true := by
    obtain ⟨vs, rfl, h⟩ := ho
    exact ⟨by rw [List.length_cons, List.length_cons, h.len], by rw [List.all_cons, List.all_cons, h.cell]; rfl⟩
  obtain ⟨vs, rfl, hvs⟩ := ho
  have hvl := hvs.len
  have htk : tl.take 21 = tl := List.take_of_length_le (by omega)
  have hvtk : vs.take 4 = vs := List.take_of_length_le (by omega)
  generalize hB : (((A.alloc (.cells (v :: tl) 43 (some 0))).alloc (.cells (.int .i64 o.kind :: .int .u32 o.id :: vs) 30 (some 0))).alloc (.cells [.slice none 0 0, .int .u32 0, .int .u32 0, .int .u32 0, .int .i64 0, .slice none 0 0, .int .u32 0, .slice none 0 0, .slice none 0 0, .slice none 0 0, .int .i64 0, .slice none 0 0, .int .u32 0, .slice none 0 0, .slice none 0 0, .slice none 0 0, .int .i64 0, .slice none 0 0, .int .u32 0, .slice none 0 0, .slice none 0 0, .slice none 0 0] 43 (some 0))).alloc (.cells (errC 0) 40 (some 0)) = B
  have oB : Over A B := by rw [← hB]; exact (((Over.refl A).alloc _).alloc _).alloc _ |>.alloc _
  have nB : B.next = A.next + 4 := by rw [← hB]; rfl
  have b0 : B.get A.next = some (.cells (v :: tl) 43 (some 0)) := by rw [← hB]; simp (disch := (first | omega | (simp only [nx_alloc, nx_upd, len_cons, len_nil, List.length_set, List.length_map, List.length_append] <;> omega) | fail)) only [St.get_upd, St.get_alloc, St.next_alloc, St.next_upd, ↓reduceIte, natF_lt, natF_gt, natF_ne, Nat.add_assoc, Nat.reduceAdd, Nat.reduceEqDiff, Nat.add_left_cancel_iff]
  have b1 : B.get (A.next + 1) = some (.cells (.int .i64 o.kind :: .int .u32 o.id :: vs) 30 (some 0)) := by rw [← hB]; simp (disch := (first | omega | (simp only [nx_alloc, nx_upd, len_cons, len_nil, List.length_set, List.length_map, List.length_append] <;> omega) | fail)) only [St.get_upd, St.get_alloc, St.next_alloc, St.next_upd, ↓reduceIte, natF_lt, natF_gt, natF_ne, Nat.add_assoc, Nat.reduceAdd, Nat.reduceEqDiff, Nat.add_left_cancel_iff]
  have b2 : B.get (A.next + 2) = some (.cells [.slice none 0 0, .int .u32 0, .int .u32 0, .int .u32 0, .int .i64 0, .slice none 0 0, .int .u32 0, .slice none 0 0, .slice none 0 0, .slice none 0 0, .int .i64 0, .slice none 0 0, .int .u32 0, .slice none 0 0, .slice none 0 0, .slice none 0 0, .int .i64 0, .slice none 0 0, .int .u32 0, .slice none 0 0, .slice none 0 0, .slice none 0 0] 43 (some 0)) := by rw [← hB]; simp (disch := (first | omega | (simp only [nx_alloc, nx_upd, len_cons, len_nil, List.length_set, List.length_map, List.length_append] <;> omega) | fail)) only [St.get_upd, St.get_alloc, St.next_alloc, St.next_upd, ↓reduceIte, natF_lt, natF_gt, natF_ne, Nat.add_assoc, Nat.reduceAdd, Nat.reduceEqDiff, Nat.add_left_cancel_iff]
  have b3 : B.get (A.next + 3) = some (.cells (errC 0) 40 (some 0)) := by rw [← hB]; simp (disch := (first | omega | (simp only [nx_alloc, nx_upd, len_cons, len_nil, List.length_set, List.length_map, List.length_append] <;> omega) | fail)) only [St.get_upd, St.get_alloc, St.next_alloc, St.next_upd, ↓reduceIte, natF_lt, natF_gt, natF_ne, Nat.add_assoc, Nat.reduceAdd, Nat.reduceEqDiff, Nat.add_left_cancel_iff]
  unfold errC at hB b3
  refine call_E Try.enters16 Try.func16 rfl (Nat.le_of_ble_eq_true rfl) fun hw hbd => ?_
  by_cases hk : 1 ≤ o.kind ∧ o.kind ≤ 5
  rotate_left
  · have hd : doL l o = (l, errR 180) := by
      unfold doL
      rw [if_neg (by omega), if_neg (by omega), if_neg (by omega), if_neg (by omega), if_neg (by omega)]
    have hldS := fun m => ldN (e := 43) (m := m) hS22
    have hstS : ∀ X z, z.length = 22 → storeC X (some 22) (some (.cells z 43 (some 0))) (A.next + 2) 0 (.agg (v :: tl).toArray) = some (X.upd (A.next + 2) (some (.cells (v :: tl) 43 (some 0)))) := fun X z hz => stN hz hS22 hSc
    have fin1 : ∀ A', A' = (B.upd (A.next + 2) (some (.cells (v :: tl) 43 (some 0)))).upd (A.next + 3) (some (.cells (errC 180) 40 (some 0))) → GcE A (DoPost A L l o tl) (.returned (.tuple #[.agg (v :: tl).toArray, .agg (errC 180).toArray])) A' := by
      rintro A' rfl
      have o5 : Over A ((B.upd (A.next + 2) (some (.cells (v :: tl) 43 (some 0)))).upd (A.next + 3) (some (.cells (errC 180) 40 (some 0)))) := (oB.upd (by omega) _).upd (by omega) _
      refine gc_here ⟨v, errC 180, rfl, o5, ?_⟩
      rw [hd]
      exact ⟨hv.ge (hide_over o5 L), errC_rep _ _⟩
    unfold errC at fin1
    by_cases hk1 : o.kind < 1
    · simp (maxSteps := 1000000) (disch := (first | omega | (simp only [nx_alloc, nx_upd, len_cons, len_nil, List.length_set, List.length_map, List.length_append] <;> omega) | fail)) only [Nat.reduceAdd, Nat.reduceSub, Nat.reduceMul, Nat.reduceLT, Nat.reduceLeDiff, Nat.reduceEqDiff, ↓reduceIte, reduceCtorEq, Int.reduceAdd, Int.reduceSub, Int.reduceMul, Int.reduceLT, Int.reduceLE, Int.reduceEq, Int.reduceNe, Int.reduceToNat, Int.reduceNeg, go_sem, Try.ntmps16, Try.results16]
      rw [hB]
      simp (maxSteps := 1000000) (disch := (first | omega | (simp only [nx_alloc, nx_upd, len_cons, len_nil, List.length_set, List.length_map, List.length_append] <;> omega) | fail)) only [Nat.reduceAdd, Nat.reduceSub, Nat.reduceMul, Nat.reduceLT, Nat.reduceLeDiff, Nat.reduceEqDiff, ↓reduceIte, reduceCtorEq, Int.reduceAdd, Int.reduceSub, Int.reduceMul, Int.reduceLT, Int.reduceLE, Int.reduceEq, Int.reduceNe, Int.reduceToNat, Int.reduceNeg, go_sem, b0, b1, b2, b3, htk, hldS, hstS, Try.results16]
      exact fin1 _ rfl
    · have hk2 : o.kind > 5 := by omega
      simp (maxSteps := 1000000) (disch := (first | omega | (simp only [nx_alloc, nx_upd, len_cons, len_nil, List.length_set, List.length_map, List.length_append] <;> omega) | fail)) only [Nat.reduceAdd, Nat.reduceSub, Nat.reduceMul, Nat.reduceLT, Nat.reduceLeDiff, Nat.reduceEqDiff, ↓reduceIte, reduceCtorEq, Int.reduceAdd, Int.reduceSub, Int.reduceMul, Int.reduceLT, Int.reduceLE, Int.reduceEq, Int.reduceNe, Int.reduceToNat, Int.reduceNeg, go_sem, Try.ntmps16, Try.results16]
      rw [hB]
      simp (maxSteps := 1000000) (disch := (first | omega | (simp only [nx_alloc, nx_upd, len_cons, len_nil, List.length_set, List.length_map, List.length_append] <;> omega) | fail)) only [Nat.reduceAdd, Nat.reduceSub, Nat.reduceMul, Nat.reduceLT, Nat.reduceLeDiff, Nat.reduceEqDiff, ↓reduceIte, reduceCtorEq, Int.reduceAdd, Int.reduceSub, Int.reduceMul, Int.reduceLT, Int.reduceLE, Int.reduceEq, Int.reduceNe, Int.reduceToNat, Int.reduceNeg, go_sem, b0, b1, b2, b3, htk, hldS, hstS, Try.results16]
      exact fin1 _ rfl
  · have hk1 : ¬ (o.kind < 1) := by omega
    have hk2 : ¬ (o.kind > 5) := by omega
    simp (maxSteps := 1000000) (disch := (first | omega | (simp only [nx_alloc, nx_upd, len_cons, len_nil, List.length_set, List.length_map, List.length_append] <;> omega) | fail)) only [Nat.reduceAdd, Nat.reduceSub, Nat.reduceMul, Nat.reduceLT, Nat.reduceLeDiff, Nat.reduceEqDiff, ↓reduceIte, reduceCtorEq, Int.reduceAdd, Int.reduceSub, Int.reduceMul, Int.reduceLT, Int.reduceLE, Int.reduceEq, Int.reduceNe, Int.reduceToNat, Int.reduceNeg, go_sem, Try.ntmps16, Try.results16]
    rw [hB]
    have hvB : VsV (B.hide ((A.next + 3) :: (A.next + 2) :: A.next :: L)) l v := hv.ge (Ge.hide oB.next (fun b hb hbL => ⟨by simp only [List.mem_cons, not_or]; exact ⟨by omega, by omega, by omega, hbL⟩, oB.get b hb⟩))
    have hoB : VOpC (B.hide ((A.next + 3) :: (A.next + 2) :: A.next :: L)) o (.int .i64 o.kind :: .int .u32 o.id :: vs) := ho0.ge (Ge.hide oB.next (fun b hb hbL => ⟨by simp only [List.mem_cons, not_or]; exact ⟨by omega, by omega, by omega, hbL⟩, oB.get b hb⟩))
    have hLB : ∀ b ∈ (A.next + 3) :: (A.next + 2) :: A.next :: L, b < B.next := by
      intro b hb
      simp only [List.mem_cons] at hb
      rcases hb with rfl | rfl | rfl | hb
      · omega
      · omega
      · omega
      · have := hL b hb; omega
    generalize hLd : (A.next + 3) :: (A.next + 2) :: A.next :: L = L2 at *
    have hidx := fun c => idx_acts c hk
    refine AW.mono (Q := fun e a A9 => e = .normal ∧ ∃ ρ' cb v' rc, a = E 33 ρ' [] ∧ ρ' 2 = .pointer (some ⟨A.next, 0, none⟩) ∧ ρ' 4 = .pointer (some ⟨A.next + 2, 0, none⟩) ∧ ρ' 5 = .pointer (some ⟨A.next + 3, 0, none⟩) ∧ ρ' 6 = v' ∧ ρ' 7 = .pointer (some ⟨cb, 0, none⟩) ∧ B.next ≤ cb ∧ cb < A9.next ∧ A9.get cb = some (.cells rc 40 (some 0)) ∧ Over B A9 ∧ VsV (A9.hide (cb :: L2)) (doL l o).1 v' ∧ RepC (A9.hide (cb :: L2)) (doL l o).2 rc) ?_ ?_
    · refine aw_drawS (by kernel_rfl) ?_
      refine Ords.split 11 0 rfl ?_ ?_
      · -- the reply's variable first
        have o1 : Over B (B.alloc (.cells (errC 0) 40 (some 0))) := (Over.refl B).alloc _
        obtain ⟨B2, ha, o2, n2, f2⟩ := acts_ok w0 (B.alloc (.cells (errC 0) 40 (some 0)))
        simp only [nx_alloc] at n2 f2 ha
        have o12 := o1.trans o2
        have hg : Ge (B.hide L2) (B2.hide (B.next :: L2)) := Ge.hide o12.next (fun b hb hbL => ⟨by simp only [List.mem_cons, not_or]; exact ⟨by omega, hbL⟩, o12.get b hb⟩)
        obtain ⟨v', rc, B3, hact, o3, hv3, hr3⟩ := act_ok w0 B2 (B.next :: L2) (fun b hb => by rcases List.mem_cons.1 hb with rfl | hb; omega; have := hLB b hb; omega) l v o _ (hvB.ge hg) (hoB.ge hg) hl hk hid hsm (B.next + 2) (by rw [← f2]) (by omega)
        have c1 : B2.get A.next = some (.cells (v :: tl) 43 (some 0)) := by rw [o12.get _ (by omega)]; exact b0
        have c2 : B2.get (A.next + 1) = some (.cells (.int .i64 o.kind :: .int .u32 o.id :: vs) 30 (some 0)) := by rw [o12.get _ (by omega)]; exact b1
        have n3 := o3.next
        have c3 : B3.get B.next = some (.cells (errC 0) 40 (some 0)) := by rw [o3.get _ (by omega), o2.get _ (by simp only [nx_alloc]; omega), get_alloc_same]
        unfold errC at c3 ha o1 o2 o12
        have oF : Over B (B3.upd (B.next) (some (.cells rc 40 (some 0)))) := (o12.trans o3).upd (by omega) _
        have gF : Ge (B3.hide ((B.next) :: L2)) ((B3.upd (B.next) (some (.cells rc 40 (some 0)))).hide ((B.next) :: L2)) := Ge.hide (Nat.le_refl _) (fun b hb hbL => ⟨hbL, by rw [St.get_upd, if_neg (fun e => hbL (by rw [e]; exact List.mem_cons_self ..))]⟩)
        refine Ords.run [⟨true, [11], [1]⟩, ⟨false, [], [0, 1, 2]⟩, ⟨false, [1], [0, 1, 2]⟩, ⟨false, [0, 2, 11, 1], [2]⟩, ⟨false, [], [0, 1, 2]⟩, ⟨false, [4], [0, 1, 2]⟩, ⟨false, [], [0, 1, 2]⟩, ⟨true, [3, 5, 6, 0, 2, 4, 11, 1], [2]⟩, ⟨false, [7, 3, 5, 6, 0, 2, 4, 11, 1], [3]⟩, ⟨false, [8, 7, 3, 5, 6, 0, 2, 4, 11, 1], [3]⟩, ⟨false, [8, 7, 3, 5, 6, 0, 2, 4, 11, 1], [3]⟩, ⟨true, [], [0]⟩, ⟨false, [9, 7, 0, 1, 2, 3, 4, 5, 6, 8, 11], [3]⟩, ⟨true, [11, 10, 12, 0, 1, 2, 3, 4, 5, 6, 7, 8, 9], [3]⟩] [B, B.alloc (.cells [.int .i64 0, .slice none 0 0, .int .u32 0, .slice none 0 0, .slice none 0 0, .slice none 0 0] 40 (some 0)), B2, B3, B3.upd B.next (some (.cells rc 40 (some 0)))] 4 (by kernel_rfl) (by kernel_rfl) rfl ?_
        simp (maxSteps := 1000000) (disch := (first | omega | (simp only [nx_alloc, nx_upd, len_cons, len_nil, List.length_set, List.length_map, List.length_append] <;> omega) | fail)) only [Nat.reduceAdd, Nat.reduceSub, Nat.reduceMul, Nat.reduceLT, Nat.reduceLeDiff, Nat.reduceEqDiff, ↓reduceIte, reduceCtorEq, Int.reduceAdd, Int.reduceSub, Int.reduceMul, Int.reduceLT, Int.reduceLE, Int.reduceEq, Int.reduceNe, Int.reduceToNat, Int.reduceNeg, go_sem, b0, b1, c1, c2]
        refine ⟨_, ha, ?_⟩
        simp (maxSteps := 1000000) (disch := (first | omega | (simp only [nx_alloc, nx_upd, len_cons, len_nil, List.length_set, List.length_map, List.length_append] <;> omega) | fail)) only [Nat.reduceAdd, Nat.reduceSub, Nat.reduceMul, Nat.reduceLT, Nat.reduceLeDiff, Nat.reduceEqDiff, ↓reduceIte, reduceCtorEq, Int.reduceAdd, Int.reduceSub, Int.reduceMul, Int.reduceLT, Int.reduceLE, Int.reduceEq, Int.reduceNe, Int.reduceToNat, Int.reduceNeg, go_sem, b0, b1, c1, c2, hidx, hvtk]
        refine ⟨_, hact, ?_⟩
        have hst := stN (n := 6) (X := B3) (b := B.next) (z := [.int .i64 0, .slice none 0 0, .int .u32 0, .slice none 0 0, .slice none 0 0, .slice none 0 0]) (e := 40) rfl hr3.len hr3.cell
        simp (maxSteps := 1000000) (disch := (first | omega | (simp only [nx_alloc, nx_upd, len_cons, len_nil, List.length_set, List.length_map, List.length_append] <;> omega) | fail)) only [Nat.reduceAdd, Nat.reduceSub, Nat.reduceMul, Nat.reduceLT, Nat.reduceLeDiff, Nat.reduceEqDiff, ↓reduceIte, reduceCtorEq, Int.reduceAdd, Int.reduceSub, Int.reduceMul, Int.reduceLT, Int.reduceLE, Int.reduceEq, Int.reduceNe, Int.reduceToNat, Int.reduceNeg, go_sem, c3, hst]
        refine ⟨_, B.next, v', rc, rfl, ?_, ?_, ?_, ?_, ?_, (by omega), ?_, get_upd_same .., ?_, ?_, ?_⟩
        · simp (maxSteps := 1000000) (disch := (first | omega | (simp only [nx_alloc, nx_upd, len_cons, len_nil, List.length_set, List.length_map, List.length_append] <;> omega) | fail)) only [Nat.reduceAdd, Nat.reduceSub, Nat.reduceMul, Nat.reduceLT, Nat.reduceLeDiff, Nat.reduceEqDiff, ↓reduceIte, reduceCtorEq, Int.reduceAdd, Int.reduceSub, Int.reduceMul, Int.reduceLT, Int.reduceLE, Int.reduceEq, Int.reduceNe, Int.reduceToNat, Int.reduceNeg, go_sem]
        · simp (maxSteps := 1000000) (disch := (first | omega | (simp only [nx_alloc, nx_upd, len_cons, len_nil, List.length_set, List.length_map, List.length_append] <;> omega) | fail)) only [Nat.reduceAdd, Nat.reduceSub, Nat.reduceMul, Nat.reduceLT, Nat.reduceLeDiff, Nat.reduceEqDiff, ↓reduceIte, reduceCtorEq, Int.reduceAdd, Int.reduceSub, Int.reduceMul, Int.reduceLT, Int.reduceLE, Int.reduceEq, Int.reduceNe, Int.reduceToNat, Int.reduceNeg, go_sem]
        · simp (maxSteps := 1000000) (disch := (first | omega | (simp only [nx_alloc, nx_upd, len_cons, len_nil, List.length_set, List.length_map, List.length_append] <;> omega) | fail)) only [Nat.reduceAdd, Nat.reduceSub, Nat.reduceMul, Nat.reduceLT, Nat.reduceLeDiff, Nat.reduceEqDiff, ↓reduceIte, reduceCtorEq, Int.reduceAdd, Int.reduceSub, Int.reduceMul, Int.reduceLT, Int.reduceLE, Int.reduceEq, Int.reduceNe, Int.reduceToNat, Int.reduceNeg, go_sem]
        · simp (maxSteps := 1000000) (disch := (first | omega | (simp only [nx_alloc, nx_upd, len_cons, len_nil, List.length_set, List.length_map, List.length_append] <;> omega) | fail)) only [Nat.reduceAdd, Nat.reduceSub, Nat.reduceMul, Nat.reduceLT, Nat.reduceLeDiff, Nat.reduceEqDiff, ↓reduceIte, reduceCtorEq, Int.reduceAdd, Int.reduceSub, Int.reduceMul, Int.reduceLT, Int.reduceLE, Int.reduceEq, Int.reduceNe, Int.reduceToNat, Int.reduceNeg, go_sem]
        · simp (maxSteps := 1000000) (disch := (first | omega | (simp only [nx_alloc, nx_upd, len_cons, len_nil, List.length_set, List.length_map, List.length_append] <;> omega) | fail)) only [Nat.reduceAdd, Nat.reduceSub, Nat.reduceMul, Nat.reduceLT, Nat.reduceLeDiff, Nat.reduceEqDiff, ↓reduceIte, reduceCtorEq, Int.reduceAdd, Int.reduceSub, Int.reduceMul, Int.reduceLT, Int.reduceLE, Int.reduceEq, Int.reduceNe, Int.reduceToNat, Int.reduceNeg, go_sem]
        · (try simp only [nx_upd]); omega
        · exact oF
        · exact hv3.ge gF
        · exact hr3.ge gF
      · refine Ords.split 11 7 rfl ?_ ?_
        · -- between
          obtain ⟨B1, ha, o1, n1, f1⟩ := acts_ok w0 B
          have o2 : Over B1 (B1.alloc (.cells (errC 0) 40 (some 0))) := (Over.refl B1).alloc _
          have o12 := o1.trans o2
          have hg : Ge (B.hide L2) ((B1.alloc (.cells (errC 0) 40 (some 0))).hide (B1.next :: L2)) := Ge.hide o12.next (fun b hb hbL => ⟨by simp only [List.mem_cons, not_or]; exact ⟨by omega, hbL⟩, o12.get b hb⟩)
          obtain ⟨v', rc, B3, hact, o3, hv3, hr3⟩ := act_ok w0 (B1.alloc (.cells (errC 0) 40 (some 0))) (B1.next :: L2) (fun b hb => by simp only [nx_alloc]; rcases List.mem_cons.1 hb with rfl | hb; omega; have := hLB b hb; omega) l v o _ (hvB.ge hg) (hoB.ge hg) hl hk hid hsm (B.next + 1) (by rw [o2.get _ (by omega)]; exact f1) (by simp only [nx_alloc]; omega)
          have c1 : B1.get A.next = some (.cells (v :: tl) 43 (some 0)) := by rw [o1.get _ (by omega)]; exact b0
          have c2 : B1.get (A.next + 1) = some (.cells (.int .i64 o.kind :: .int .u32 o.id :: vs) 30 (some 0)) := by rw [o1.get _ (by omega)]; exact b1
          have n3 := o3.next
          simp only [nx_alloc] at n3
          have c3 : B3.get B1.next = some (.cells (errC 0) 40 (some 0)) := by rw [o3.get _ (by simp only [nx_alloc]; omega), get_alloc_same]
          unfold errC at c3 hact o2 o12 o3
          have oF : Over B (B3.upd (B1.next) (some (.cells rc 40 (some 0)))) := (o12.trans o3).upd (by omega) _
          have gF : Ge (B3.hide ((B1.next) :: L2)) ((B3.upd (B1.next) (some (.cells rc 40 (some 0)))).hide ((B1.next) :: L2)) := Ge.hide (Nat.le_refl _) (fun b hb hbL => ⟨hbL, by rw [St.get_upd, if_neg (fun e => hbL (by rw [e]; exact List.mem_cons_self ..))]⟩)
          refine Ords.run [⟨true, [], [0]⟩, ⟨false, [], [0, 1, 2]⟩, ⟨false, [1], [0, 1, 2]⟩, ⟨false, [0, 2, 1], [1, 2]⟩, ⟨false, [], [0, 1, 2]⟩, ⟨false, [4], [0, 1, 2]⟩, ⟨false, [], [0, 1, 2]⟩, ⟨true, [3, 5, 6, 0, 11, 2, 4, 1], [2]⟩, ⟨false, [7, 3, 5, 6, 0, 11, 2, 4, 1], [3]⟩, ⟨false, [8, 7, 3, 5, 6, 0, 11, 2, 4, 1], [3]⟩, ⟨false, [8, 7, 3, 5, 6, 0, 11, 2, 4, 1], [3]⟩, ⟨true, [0], [1]⟩, ⟨false, [9, 7, 0, 1, 2, 3, 4, 5, 6, 8, 11], [3]⟩, ⟨true, [11, 10, 12, 0, 1, 2, 3, 4, 5, 6, 7, 8, 9], [3]⟩] [B, B1, B1.alloc (.cells [.int .i64 0, .slice none 0 0, .int .u32 0, .slice none 0 0, .slice none 0 0, .slice none 0 0] 40 (some 0)), B3, B3.upd B1.next (some (.cells rc 40 (some 0)))] 4 (by kernel_rfl) (by kernel_rfl) rfl ?_
          simp (maxSteps := 1000000) (disch := (first | omega | (simp only [nx_alloc, nx_upd, len_cons, len_nil, List.length_set, List.length_map, List.length_append] <;> omega) | fail)) only [Nat.reduceAdd, Nat.reduceSub, Nat.reduceMul, Nat.reduceLT, Nat.reduceLeDiff, Nat.reduceEqDiff, ↓reduceIte, reduceCtorEq, Int.reduceAdd, Int.reduceSub, Int.reduceMul, Int.reduceLT, Int.reduceLE, Int.reduceEq, Int.reduceNe, Int.reduceToNat, Int.reduceNeg, go_sem, b0, b1, c1, c2]
          refine ⟨_, ha, ?_⟩
          simp (maxSteps := 1000000) (disch := (first | omega | (simp only [nx_alloc, nx_upd, len_cons, len_nil, List.length_set, List.length_map, List.length_append] <;> omega) | fail)) only [Nat.reduceAdd, Nat.reduceSub, Nat.reduceMul, Nat.reduceLT, Nat.reduceLeDiff, Nat.reduceEqDiff, ↓reduceIte, reduceCtorEq, Int.reduceAdd, Int.reduceSub, Int.reduceMul, Int.reduceLT, Int.reduceLE, Int.reduceEq, Int.reduceNe, Int.reduceToNat, Int.reduceNeg, go_sem, b0, b1, c1, c2, hidx, hvtk]
          refine ⟨_, hact, ?_⟩
          have hst := stN (n := 6) (X := B3) (b := B1.next) (z := [.int .i64 0, .slice none 0 0, .int .u32 0, .slice none 0 0, .slice none 0 0, .slice none 0 0]) (e := 40) rfl hr3.len hr3.cell
          simp (maxSteps := 1000000) (disch := (first | omega | (simp only [nx_alloc, nx_upd, len_cons, len_nil, List.length_set, List.length_map, List.length_append] <;> omega) | fail)) only [Nat.reduceAdd, Nat.reduceSub, Nat.reduceMul, Nat.reduceLT, Nat.reduceLeDiff, Nat.reduceEqDiff, ↓reduceIte, reduceCtorEq, Int.reduceAdd, Int.reduceSub, Int.reduceMul, Int.reduceLT, Int.reduceLE, Int.reduceEq, Int.reduceNe, Int.reduceToNat, Int.reduceNeg, go_sem, c3, hst]
          refine ⟨_, B1.next, v', rc, rfl, ?_, ?_, ?_, ?_, ?_, (by omega), ?_, get_upd_same .., ?_, ?_, ?_⟩
          · simp (maxSteps := 1000000) (disch := (first | omega | (simp only [nx_alloc, nx_upd, len_cons, len_nil, List.length_set, List.length_map, List.length_append] <;> omega) | fail)) only [Nat.reduceAdd, Nat.reduceSub, Nat.reduceMul, Nat.reduceLT, Nat.reduceLeDiff, Nat.reduceEqDiff, ↓reduceIte, reduceCtorEq, Int.reduceAdd, Int.reduceSub, Int.reduceMul, Int.reduceLT, Int.reduceLE, Int.reduceEq, Int.reduceNe, Int.reduceToNat, Int.reduceNeg, go_sem]
          · simp (maxSteps := 1000000) (disch := (first | omega | (simp only [nx_alloc, nx_upd, len_cons, len_nil, List.length_set, List.length_map, List.length_append] <;> omega) | fail)) only [Nat.reduceAdd, Nat.reduceSub, Nat.reduceMul, Nat.reduceLT, Nat.reduceLeDiff, Nat.reduceEqDiff, ↓reduceIte, reduceCtorEq, Int.reduceAdd, Int.reduceSub, Int.reduceMul, Int.reduceLT, Int.reduceLE, Int.reduceEq, Int.reduceNe, Int.reduceToNat, Int.reduceNeg, go_sem]
          · simp (maxSteps := 1000000) (disch := (first | omega | (simp only [nx_alloc, nx_upd, len_cons, len_nil, List.length_set, List.length_map, List.length_append] <;> omega) | fail)) only [Nat.reduceAdd, Nat.reduceSub, Nat.reduceMul, Nat.reduceLT, Nat.reduceLeDiff, Nat.reduceEqDiff, ↓reduceIte, reduceCtorEq, Int.reduceAdd, Int.reduceSub, Int.reduceMul, Int.reduceLT, Int.reduceLE, Int.reduceEq, Int.reduceNe, Int.reduceToNat, Int.reduceNeg, go_sem]
          · simp (maxSteps := 1000000) (disch := (first | omega | (simp only [nx_alloc, nx_upd, len_cons, len_nil, List.length_set, List.length_map, List.length_append] <;> omega) | fail)) only [Nat.reduceAdd, Nat.reduceSub, Nat.reduceMul, Nat.reduceLT, Nat.reduceLeDiff, Nat.reduceEqDiff, ↓reduceIte, reduceCtorEq, Int.reduceAdd, Int.reduceSub, Int.reduceMul, Int.reduceLT, Int.reduceLE, Int.reduceEq, Int.reduceNe, Int.reduceToNat, Int.reduceNeg, go_sem]
          · simp (maxSteps := 1000000) (disch := (first | omega | (simp only [nx_alloc, nx_upd, len_cons, len_nil, List.length_set, List.length_map, List.length_append] <;> omega) | fail)) only [Nat.reduceAdd, Nat.reduceSub, Nat.reduceMul, Nat.reduceLT, Nat.reduceLeDiff, Nat.reduceEqDiff, ↓reduceIte, reduceCtorEq, Int.reduceAdd, Int.reduceSub, Int.reduceMul, Int.reduceLT, Int.reduceLE, Int.reduceEq, Int.reduceNe, Int.reduceToNat, Int.reduceNeg, go_sem]
          · (try simp only [nx_upd]); omega
          · exact oF
          · exact hv3.ge gF
          · exact hr3.ge gF
        · -- last
          obtain ⟨B1, ha, o1, n1, f1⟩ := acts_ok w0 B
          have hg : Ge (B.hide L2) (B1.hide L2) := hide_over o1 L2
          obtain ⟨v', rc, B2, hact, o2, hv2, hr2⟩ := act_ok w0 B1 L2 (fun b hb => by have := hLB b hb; omega) l v o _ (hvB.ge hg) (hoB.ge hg) hl hk hid hsm (B.next + 1) f1 (by omega)
          have c1 : B1.get A.next = some (.cells (v :: tl) 43 (some 0)) := by rw [o1.get _ (by omega)]; exact b0
          have c2 : B1.get (A.next + 1) = some (.cells (.int .i64 o.kind :: .int .u32 o.id :: vs) 30 (some 0)) := by rw [o1.get _ (by omega)]; exact b1
          have n2 := o2.next
          have o12 := o1.trans o2
          have o3 : Over B2 (B2.alloc (.cells (errC 0) 40 (some 0))) := (Over.refl B2).alloc _
          have hg3 : Ge (B2.hide L2) ((B2.alloc (.cells (errC 0) 40 (some 0))).hide (B2.next :: L2)) := Ge.hide o3.next (fun b hb hbL => ⟨by simp only [List.mem_cons, not_or]; exact ⟨by omega, hbL⟩, o3.get b hb⟩)
          have hv3 := hv2.ge hg3
          have hr3 := hr2.ge hg3
          have c3 : (B2.alloc (.cells (errC 0) 40 (some 0))).get B2.next = some (.cells (errC 0) 40 (some 0)) := get_alloc_same ..
          have n3 : (B2.alloc (.cells (errC 0) 40 (some 0))).next = B2.next + 1 := rfl
          unfold errC at c3 o3 hv3 hr3 n3
          obtain ⟨B3, hB3⟩ : ∃ B3, B3 = B2.alloc (.cells [.int .i64 0, .slice none 0 0, .int .u32 0, .slice none 0 0, .slice none 0 0, .slice none 0 0] 40 (some 0)) := ⟨_, rfl⟩
          rw [← hB3] at c3 o3 hv3 hr3 n3
          have oF : Over B (B3.upd (B2.next) (some (.cells rc 40 (some 0)))) := (o12.trans o3).upd (by omega) _
          have gF : Ge (B3.hide ((B2.next) :: L2)) ((B3.upd (B2.next) (some (.cells rc 40 (some 0)))).hide ((B2.next) :: L2)) := Ge.hide (Nat.le_refl _) (fun b hb hbL => ⟨hbL, by rw [St.get_upd, if_neg (fun e => hbL (by rw [e]; exact List.mem_cons_self ..))]⟩)
          refine Ords.run [⟨true, [], [0]⟩, ⟨false, [], [0, 1]⟩, ⟨false, [1], [0, 1]⟩, ⟨false, [0, 2, 1], [1]⟩, ⟨false, [], [0, 1]⟩, ⟨false, [4], [0, 1]⟩, ⟨false, [], [0, 1]⟩, ⟨true, [3, 5, 6, 0, 2, 4, 1], [1]⟩, ⟨false, [7, 3, 5, 6, 0, 2, 4, 1], [2, 3]⟩, ⟨false, [8, 7, 3, 5, 6, 0, 2, 4, 1], [2, 3]⟩, ⟨false, [8, 7, 3, 5, 6, 0, 2, 4, 1], [2, 3]⟩, ⟨true, [0, 7, 3, 5, 6, 2, 4, 1], [2]⟩, ⟨false, [9, 7, 0, 1, 2, 3, 4, 5, 6, 8, 11], [3]⟩, ⟨true, [11, 10, 12, 0, 1, 2, 3, 4, 5, 6, 7, 8, 9], [3]⟩] [B, B1, B2, B3, B3.upd B2.next (some (.cells rc 40 (some 0)))] 4 (by kernel_rfl) (by kernel_rfl) rfl ?_
          simp (maxSteps := 1000000) (disch := (first | omega | (simp only [nx_alloc, nx_upd, len_cons, len_nil, List.length_set, List.length_map, List.length_append] <;> omega) | fail)) only [Nat.reduceAdd, Nat.reduceSub, Nat.reduceMul, Nat.reduceLT, Nat.reduceLeDiff, Nat.reduceEqDiff, ↓reduceIte, reduceCtorEq, Int.reduceAdd, Int.reduceSub, Int.reduceMul, Int.reduceLT, Int.reduceLE, Int.reduceEq, Int.reduceNe, Int.reduceToNat, Int.reduceNeg, go_sem, b0, b1, c1, c2]
          refine ⟨_, ha, ?_⟩
          simp (maxSteps := 1000000) (disch := (first | omega | (simp only [nx_alloc, nx_upd, len_cons, len_nil, List.length_set, List.length_map, List.length_append] <;> omega) | fail)) only [Nat.reduceAdd, Nat.reduceSub, Nat.reduceMul, Nat.reduceLT, Nat.reduceLeDiff, Nat.reduceEqDiff, ↓reduceIte, reduceCtorEq, Int.reduceAdd, Int.reduceSub, Int.reduceMul, Int.reduceLT, Int.reduceLE, Int.reduceEq, Int.reduceNe, Int.reduceToNat, Int.reduceNeg, go_sem, b0, b1, c1, c2, hidx, hvtk]
          refine ⟨_, hact, ?_⟩
          have hst := stN (n := 6) (X := B3) (b := B2.next) (z := [.int .i64 0, .slice none 0 0, .int .u32 0, .slice none 0 0, .slice none 0 0, .slice none 0 0]) (e := 40) rfl hr3.len hr3.cell
          simp (maxSteps := 1000000) (disch := (first | omega | (simp only [nx_alloc, nx_upd, len_cons, len_nil, List.length_set, List.length_map, List.length_append] <;> omega) | fail)) only [Nat.reduceAdd, Nat.reduceSub, Nat.reduceMul, Nat.reduceLT, Nat.reduceLeDiff, Nat.reduceEqDiff, ↓reduceIte, reduceCtorEq, Int.reduceAdd, Int.reduceSub, Int.reduceMul, Int.reduceLT, Int.reduceLE, Int.reduceEq, Int.reduceNe, Int.reduceToNat, Int.reduceNeg, go_sem, ← hB3, c3, hst]
          refine ⟨_, B2.next, v', rc, rfl, ?_, ?_, ?_, ?_, ?_, (by omega), ?_, get_upd_same .., ?_, ?_, ?_⟩
          · simp (maxSteps := 1000000) (disch := (first | omega | (simp only [nx_alloc, nx_upd, len_cons, len_nil, List.length_set, List.length_map, List.length_append] <;> omega) | fail)) only [Nat.reduceAdd, Nat.reduceSub, Nat.reduceMul, Nat.reduceLT, Nat.reduceLeDiff, Nat.reduceEqDiff, ↓reduceIte, reduceCtorEq, Int.reduceAdd, Int.reduceSub, Int.reduceMul, Int.reduceLT, Int.reduceLE, Int.reduceEq, Int.reduceNe, Int.reduceToNat, Int.reduceNeg, go_sem]
          · simp (maxSteps := 1000000) (disch := (first | omega | (simp only [nx_alloc, nx_upd, len_cons, len_nil, List.length_set, List.length_map, List.length_append] <;> omega) | fail)) only [Nat.reduceAdd, Nat.reduceSub, Nat.reduceMul, Nat.reduceLT, Nat.reduceLeDiff, Nat.reduceEqDiff, ↓reduceIte, reduceCtorEq, Int.reduceAdd, Int.reduceSub, Int.reduceMul, Int.reduceLT, Int.reduceLE, Int.reduceEq, Int.reduceNe, Int.reduceToNat, Int.reduceNeg, go_sem]
          · simp (maxSteps := 1000000) (disch := (first | omega | (simp only [nx_alloc, nx_upd, len_cons, len_nil, List.length_set, List.length_map, List.length_append] <;> omega) | fail)) only [Nat.reduceAdd, Nat.reduceSub, Nat.reduceMul, Nat.reduceLT, Nat.reduceLeDiff, Nat.reduceEqDiff, ↓reduceIte, reduceCtorEq, Int.reduceAdd, Int.reduceSub, Int.reduceMul, Int.reduceLT, Int.reduceLE, Int.reduceEq, Int.reduceNe, Int.reduceToNat, Int.reduceNeg, go_sem]
          · simp (maxSteps := 1000000) (disch := (first | omega | (simp only [nx_alloc, nx_upd, len_cons, len_nil, List.length_set, List.length_map, List.length_append] <;> omega) | fail)) only [Nat.reduceAdd, Nat.reduceSub, Nat.reduceMul, Nat.reduceLT, Nat.reduceLeDiff, Nat.reduceEqDiff, ↓reduceIte, reduceCtorEq, Int.reduceAdd, Int.reduceSub, Int.reduceMul, Int.reduceLT, Int.reduceLE, Int.reduceEq, Int.reduceNe, Int.reduceToNat, Int.reduceNeg, go_sem]
          · simp (maxSteps := 1000000) (disch := (first | omega | (simp only [nx_alloc, nx_upd, len_cons, len_nil, List.length_set, List.length_map, List.length_append] <;> omega) | fail)) only [Nat.reduceAdd, Nat.reduceSub, Nat.reduceMul, Nat.reduceLT, Nat.reduceLeDiff, Nat.reduceEqDiff, ↓reduceIte, reduceCtorEq, Int.reduceAdd, Int.reduceSub, Int.reduceMul, Int.reduceLT, Int.reduceLE, Int.reduceEq, Int.reduceNe, Int.reduceToNat, Int.reduceNeg, go_sem]
          · (try simp only [nx_upd]); omega
          · exact oF
          · exact hv3.ge gF
          · exact hr3.ge gF
    · rintro e a A9 ⟨rfl, ρ', cb, v', rc, rfl, r2, r4, r5, r6, r7, hcb1, hcb2, gcb, o9, hv9, hr9⟩
      have d0 : A9.get A.next = some (.cells (v :: tl) 43 (some 0)) := by rw [o9.get _ (by omega)]; exact b0
      have d2 : A9.get (A.next + 2) = some (.cells [.slice none 0 0, .int .u32 0, .int .u32 0, .int .u32 0, .int .i64 0, .slice none 0 0, .int .u32 0, .slice none 0 0, .slice none 0 0, .slice none 0 0, .int .i64 0, .slice none 0 0, .int .u32 0, .slice none 0 0, .slice none 0 0, .slice none 0 0, .int .i64 0, .slice none 0 0, .int .u32 0, .slice none 0 0, .slice none 0 0, .slice none 0 0] 43 (some 0)) := by rw [o9.get _ (by omega)]; exact b2
      have d3 : A9.get (A.next + 3) = some (.cells [.int .i64 0, .slice none 0 0, .int .u32 0, .slice none 0 0, .slice none 0 0, .slice none 0 0] 40 (some 0)) := by rw [o9.get _ (by omega)]; exact b3
      have hv9' : one1 v' = true := by obtain ⟨ad, c, rfl⟩ := hv9.sl; rfl
      have hS22' : (v' :: tl).length = 22 := by rw [List.length_cons, htl]
      have hSc' : (v' :: tl).all cell1 = true := by rw [List.all_cons, cellOf1 hv9', hcl]; rfl
      have n9 := o9.next
      simp (maxSteps := 1000000) (disch := (first | omega | (simp only [nx_alloc, nx_upd, len_cons, len_nil, List.length_set, List.length_map, List.length_append] <;> omega) | fail)) only [Nat.reduceAdd, Nat.reduceSub, Nat.reduceMul, Nat.reduceLT, Nat.reduceLeDiff, Nat.reduceEqDiff, ↓reduceIte, reduceCtorEq, Int.reduceAdd, Int.reduceSub, Int.reduceMul, Int.reduceLT, Int.reduceLE, Int.reduceEq, Int.reduceNe, Int.reduceToNat, Int.reduceNeg, go_sem, r2, r6, d0]
      rw [storeC_val hv9']
      simp (maxSteps := 1000000) (disch := (first | omega | (simp only [nx_alloc, nx_upd, len_cons, len_nil, List.length_set, List.length_map, List.length_append] <;> omega) | fail)) only [Nat.reduceAdd, Nat.reduceSub, Nat.reduceMul, Nat.reduceLT, Nat.reduceLeDiff, Nat.reduceEqDiff, ↓reduceIte, reduceCtorEq, Int.reduceAdd, Int.reduceSub, Int.reduceMul, Int.reduceLT, Int.reduceLE, Int.reduceEq, Int.reduceNe, Int.reduceToNat, Int.reduceNeg, go_sem]
      have q1 : Over A (A9.upd A.next (some (.cells (v' :: tl) 43 (some 0)))) := (oB.trans o9).upd (Nat.le_refl _) _
      have q2 : Over A ((A9.upd A.next (some (.cells (v' :: tl) 43 (some 0)))).upd (A.next + 2) (some (.cells (v' :: tl) 43 (some 0)))) := q1.upd (by omega) _
      have q3 : Over A (((A9.upd A.next (some (.cells (v' :: tl) 43 (some 0)))).upd (A.next + 2) (some (.cells (v' :: tl) 43 (some 0)))).upd (A.next + 3) (some (.cells rc 40 (some 0)))) := q2.upd (by omega) _
      have hst2 := stN (n := 22) (X := A9.upd A.next (some (.cells (v' :: tl) 43 (some 0)))) (b := A.next + 2) (z := [.slice none 0 0, .int .u32 0, .int .u32 0, .int .u32 0, .int .i64 0, .slice none 0 0, .int .u32 0, .slice none 0 0, .slice none 0 0, .slice none 0 0, .int .i64 0, .slice none 0 0, .int .u32 0, .slice none 0 0, .slice none 0 0, .slice none 0 0, .int .i64 0, .slice none 0 0, .int .u32 0, .slice none 0 0, .slice none 0 0, .slice none 0 0]) (e := 43) rfl hS22' hSc'
      have hst3 := stN (n := 6) (X := (A9.upd A.next (some (.cells (v' :: tl) 43 (some 0)))).upd (A.next + 2) (some (.cells (v' :: tl) 43 (some 0)))) (b := A.next + 3) (z := [.int .i64 0, .slice none 0 0, .int .u32 0, .slice none 0 0, .slice none 0 0, .slice none 0 0]) (e := 40) rfl hr9.len hr9.cell
      have hldr := ldN (n := 6) (e := 40) (m := some 0) hr9.len
      refine aw_draw2 [⟨false, [], [0]⟩, ⟨false, [], [0, 1]⟩, ⟨true, [0], [0]⟩, ⟨true, [0, 1, 2], [1]⟩] [A9.upd A.next (some (.cells (v' :: tl) 43 (some 0))), (A9.upd A.next (some (.cells (v' :: tl) 43 (some 0)))).upd (A.next + 2) (some (.cells (v' :: tl) 43 (some 0))), ((A9.upd A.next (some (.cells (v' :: tl) 43 (some 0)))).upd (A.next + 2) (some (.cells (v' :: tl) 43 (some 0)))).upd (A.next + 3) (some (.cells rc 40 (some 0)))] 2 (by kernel_rfl) (by kernel_rfl) rfl ?_
      simp (maxSteps := 1000000) (disch := (first | omega | (simp only [nx_alloc, nx_upd, len_cons, len_nil, List.length_set, List.length_map, List.length_append] <;> omega) | fail)) only [Nat.reduceAdd, Nat.reduceSub, Nat.reduceMul, Nat.reduceLT, Nat.reduceLeDiff, Nat.reduceEqDiff, ↓reduceIte, reduceCtorEq, Int.reduceAdd, Int.reduceSub, Int.reduceMul, Int.reduceLT, Int.reduceLE, Int.reduceEq, Int.reduceNe, Int.reduceToNat, Int.reduceNeg, go_sem, r2, r4, r5, r7, d2, d3, gcb, htk, hst2, hst3, hldr, Try.results16]
      have gE : Ge (A9.hide (cb :: L2)) ((((A9.upd A.next (some (.cells (v' :: tl) 43 (some 0)))).upd (A.next + 2) (some (.cells (v' :: tl) 43 (some 0)))).upd (A.next + 3) (some (.cells rc 40 (some 0)))).hide L) := by
        refine Ge.hide (Nat.le_refl _) (fun b hb hbL => ?_)
        rw [← hLd] at hbL
        simp only [List.mem_cons, not_or] at hbL
        obtain ⟨_, e3, e2, e0, eL⟩ := hbL
        exact ⟨eL, by rw [St.get_upd, if_neg e3, St.get_upd, if_neg e2, St.get_upd, if_neg e0]⟩
      exact gc_here ⟨v', rc, rfl, q3, hv9.ge gE, hr9.ge gE⟩
end Go.Fw
