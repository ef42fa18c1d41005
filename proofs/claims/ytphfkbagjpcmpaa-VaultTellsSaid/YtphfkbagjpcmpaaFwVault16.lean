import Derived.Test.YtphfkbagjpcmpaaFwVault15
set_option linter.unusedSimpArgs false
set_option linter.unusedVariables false
namespace Go.Fw
open Go.Proofs Go.RowKit
theorem Try.enters21 : Enters Try.prog 21 := enters_of Try.func21 rfl (by kernel_rfl)
set_option maxHeartbeats 16000000 in
theorem rall_ok (w0 : World) (A : St) (l : List ReqT) (v : Value) (hv : RqV A l v) (hok : ∀ r ∈ l, r.ok) (hl : l.length ≤ 100000) :
    ACalls Try.prog w0 21 #[v] A (AllPost A [] l) := by
  refine call_E Try.enters21 Try.func21 rfl (Nat.le_of_ble_eq_true rfl) fun hw hbd => ?_
  have hlen := NV.lenU (e := 32) hv
  obtain ⟨b4, hb4⟩ : ∃ b, b = A.next + 1 := ⟨_, rfl⟩
  obtain ⟨A0, hA0⟩ : ∃ A0, A0 = A.alloc (.cells [.slice none 0 0, .int .u32 0, .int .u32 0, .int .u32 0, .int .i64 0, .slice none 0 0, .int .u32 0, .slice none 0 0, .slice none 0 0, .slice none 0 0, .int .i64 0, .slice none 0 0, .int .u32 0, .slice none 0 0, .slice none 0 0, .slice none 0 0, .int .i64 0, .slice none 0 0, .int .u32 0, .slice none 0 0, .slice none 0 0, .slice none 0 0] 50 (some 0)) := ⟨_, rfl⟩
  have n0 : A0.next = A.next + 1 := by rw [hA0]; rfl
  have o0 : Over A A0 := hA0 ▸ (Over.refl A).alloc _
  have g0 : A0.get A.next = some (.cells [.slice none 0 0, .int .u32 0, .int .u32 0, .int .u32 0, .int .i64 0, .slice none 0 0, .int .u32 0, .slice none 0 0, .slice none 0 0, .slice none 0 0, .int .i64 0, .slice none 0 0, .int .u32 0, .slice none 0 0, .slice none 0 0, .slice none 0 0, .int .i64 0, .slice none 0 0, .int .u32 0, .slice none 0 0, .slice none 0 0, .slice none 0 0] 50 (some 0)) := by rw [hA0]; exact get_alloc_same ..
  have st1 := stN (n := 22) (X := A0.alloc (.cells [.slice none 0 0, .int .u32 0, .int .u32 0, .int .u32 0, .int .i64 0, .slice none 0 0, .int .u32 0, .slice none 0 0, .slice none 0 0, .slice none 0 0, .int .i64 0, .slice none 0 0, .int .u32 0, .slice none 0 0, .slice none 0 0, .slice none 0 0, .int .i64 0, .slice none 0 0, .int .u32 0, .slice none 0 0, .slice none 0 0, .slice none 0 0] 50 (some 0))) (b := A.next + 1) (z := [.slice none 0 0, .int .u32 0, .int .u32 0, .int .u32 0, .int .i64 0, .slice none 0 0, .int .u32 0, .slice none 0 0, .slice none 0 0, .slice none 0 0, .int .i64 0, .slice none 0 0, .int .u32 0, .slice none 0 0, .slice none 0 0, .slice none 0 0, .int .i64 0, .slice none 0 0, .int .u32 0, .slice none 0 0, .slice none 0 0, .slice none 0 0]) (cs := [.slice none 0 0, .int .u32 0, .int .u32 0, .int .u32 0, .int .i64 0, .slice none 0 0, .int .u32 0, .slice none 0 0, .slice none 0 0, .slice none 0 0, .int .i64 0, .slice none 0 0, .int .u32 0, .slice none 0 0, .slice none 0 0, .slice none 0 0, .int .i64 0, .slice none 0 0, .int .u32 0, .slice none 0 0, .slice none 0 0, .slice none 0 0]) (e := 50) rfl rfl rfl
  obtain ⟨A1, hA1⟩ : ∃ A1, A1 = (A0.alloc (.cells [.slice none 0 0, .int .u32 0, .int .u32 0, .int .u32 0, .int .i64 0, .slice none 0 0, .int .u32 0, .slice none 0 0, .slice none 0 0, .slice none 0 0, .int .i64 0, .slice none 0 0, .int .u32 0, .slice none 0 0, .slice none 0 0, .slice none 0 0, .int .i64 0, .slice none 0 0, .int .u32 0, .slice none 0 0, .slice none 0 0, .slice none 0 0] 50 (some 0))).upd (A.next + 1) (some (.cells [.slice none 0 0, .int .u32 0, .int .u32 0, .int .u32 0, .int .i64 0, .slice none 0 0, .int .u32 0, .slice none 0 0, .slice none 0 0, .slice none 0 0, .int .i64 0, .slice none 0 0, .int .u32 0, .slice none 0 0, .slice none 0 0, .slice none 0 0, .int .i64 0, .slice none 0 0, .int .u32 0, .slice none 0 0, .slice none 0 0, .slice none 0 0] 50 (some 0))) := ⟨_, rfl⟩
  have n1 : A1.next = A.next + 2 := by rw [hA1, nx_upd, nx_alloc, n0]
  have o1 : Over A0 A1 := hA1 ▸ ((Over.refl A0).alloc _).upd (by omega) _
  have g1 : A1.get (A.next + 1) = some (.cells [.slice none 0 0, .int .u32 0, .int .u32 0, .int .u32 0, .int .i64 0, .slice none 0 0, .int .u32 0, .slice none 0 0, .slice none 0 0, .slice none 0 0, .int .i64 0, .slice none 0 0, .int .u32 0, .slice none 0 0, .slice none 0 0, .slice none 0 0, .int .i64 0, .slice none 0 0, .int .u32 0, .slice none 0 0, .slice none 0 0, .slice none 0 0] 50 (some 0)) := by rw [hA1, get_upd_same]
  have bs0 : ∀ X : St, abuildSlice Try.prog X 44 0 #[] = some (.slice (some ⟨X.next, 0, none⟩) 0 0, X.alloc (.cells [] 40 (some 0))) := fun X => buildSlice_zero Try.el44 Try.sz40 Try.zero40 (by decide)
  obtain ⟨A2, hA2⟩ : ∃ A2, A2 = A1.alloc (.cells [] 40 (some 0)) := ⟨_, rfl⟩
  have n2 : A2.next = A.next + 3 := by rw [hA2, nx_alloc, n1]
  have o2 : Over A1 A2 := hA2 ▸ (Over.refl A1).alloc _
  have hr0 : RpRow A2 (A.next + 2) [] (.slice (some ⟨A.next + 2, 0, none⟩) 0 0) := ⟨rfl, .inr ⟨A.next + 2, none, rfl, .inl rfl, Nat.le_refl _, by omega, by rw [hA2, ← n1]; exact get_alloc_same ..⟩⟩
  have g2 : A2.get b4 = some (.cells [.slice none 0 0, .int .u32 0, .int .u32 0, .int .u32 0, .int .i64 0, .slice none 0 0, .int .u32 0, .slice none 0 0, .slice none 0 0, .slice none 0 0, .int .i64 0, .slice none 0 0, .int .u32 0, .slice none 0 0, .slice none 0 0, .slice none 0 0, .int .i64 0, .slice none 0 0, .int .u32 0, .slice none 0 0, .slice none 0 0, .slice none 0 0] 50 (some 0)) := by rw [hb4, o2.get _ (by omega)]; exact g1
  have g2' : A2.get A.next = some (.cells [.slice none 0 0, .int .u32 0, .int .u32 0, .int .u32 0, .int .i64 0, .slice none 0 0, .int .u32 0, .slice none 0 0, .slice none 0 0, .slice none 0 0, .int .i64 0, .slice none 0 0, .int .u32 0, .slice none 0 0, .slice none 0 0, .slice none 0 0, .int .i64 0, .slice none 0 0, .int .u32 0, .slice none 0 0, .slice none 0 0, .slice none 0 0] 50 (some 0)) := by rw [o2.get _ (by omega), o1.get _ (by omega)]; exact g0
  have inv0 : StC (A2.hide (A.next :: b4 :: rbL (.slice (some ⟨A.next + 2, 0, none⟩) 0 0))) S0 [.slice none 0 0, .int .u32 0, .int .u32 0, .int .u32 0, .int .i64 0, .slice none 0 0, .int .u32 0, .slice none 0 0, .slice none 0 0, .slice none 0 0, .int .i64 0, .slice none 0 0, .int .u32 0, .slice none 0 0, .slice none 0 0, .slice none 0 0, .int .i64 0, .slice none 0 0, .int .u32 0, .slice none 0 0, .slice none 0 0, .slice none 0 0] := S0_c _
  simp (maxSteps := 1000000) (disch := (first | omega | (simp only [nx_alloc, nx_upd, len_cons, len_nil, List.length_set, List.length_map, List.length_append] <;> omega) | fail)) only [Nat.reduceAdd, Nat.reduceSub, Nat.reduceMul, Nat.reduceLT, Nat.reduceLeDiff, Nat.reduceEqDiff, ↓reduceIte, reduceCtorEq, Int.reduceAdd, Int.reduceSub, Int.reduceMul, Int.reduceLT, Int.reduceLE, Int.reduceEq, Int.reduceNe, Int.reduceToNat, Int.reduceNeg, go_sem, Try.ntmps21, Try.results21, bs0]
  rw [← hA0]
  rw [← hA1]
  rw [← hA2]
  refine aw_loop (fun k x A' => ∃ (ρ : Nat → Value) (i : Nat) (cs : List Value) (css : List (List Value)) (u : Value), x = E 33 ρ [] ∧ k = l.length - i ∧ i ≤ l.length ∧ Over A0 A' ∧ A.next + 3 ≤ A'.next ∧ A'.get b4 = some (.cells cs 50 (some 0)) ∧ StC (A'.hide (A.next :: b4 :: rbL u)) (allS (l.take i)).1 cs ∧ All2 (RepC (A'.hide (A.next :: b4 :: rbL u))) (allS (l.take i)).2 css ∧ RpRow A' (A.next + 2) css u ∧
      ρ 0 = v ∧ ρ 2 = .pointer (some ⟨A.next, 0, none⟩) ∧ ρ 4 = .pointer (some ⟨b4, 0, none⟩) ∧ ρ 5 = u ∧ ρ 6 = .int .i64 i) l.length
    ⟨_, 0, _, [], _, rfl, rfl, Nat.zero_le _, o1.trans o2, by omega, g2, inv0, .nil, hr0, rfl, rfl, by rw [hb4]; rfl, rfl, rfl⟩ ?_
  clear inv0 hr0 g2 g2' g1 st1 n1 n2 o1 o2 hA1 hA2
  rintro k x A' ⟨ρ, i, cs, css, u, rfl, hk, hi, ho0, hlo, hg, hS, hR, hrow, r0, r2, r4, r5, r6⟩
  refine aw_of ?_
  have ho := o0.trans ho0
  have hcsl := hR.length
  rw [(allS_len _).2, List.length_take, Nat.min_eq_left hi] at hcsl
  obtain ⟨hs22, hsc⟩ := hS.len
  have htk : cs.take 22 = cs := List.take_of_length_le (by omega)
  have hlda := ldN (e := 50) (m := some 0) hs22
  have hrbu : ∀ b, rowB u = some b → A.next + 2 ≤ b ∧ b < A'.next := fun b hb => Row.rb hrow b hb
  have hlq := NV.lenU (e := 32) (hv.ge ho.ge)
  have g2 : A'.get A.next = some (.cells [.slice none 0 0, .int .u32 0, .int .u32 0, .int .u32 0, .int .i64 0, .slice none 0 0, .int .u32 0, .slice none 0 0, .slice none 0 0, .slice none 0 0, .int .i64 0, .slice none 0 0, .int .u32 0, .slice none 0 0, .slice none 0 0, .slice none 0 0, .int .i64 0, .slice none 0 0, .int .u32 0, .slice none 0 0, .slice none 0 0, .slice none 0 0] 50 (some 0)) := (ho0.get _ (by omega)).trans g0
  by_cases hend : i = l.length
  · have e1 : ¬ ((i : Int) < l.length) := by omega
    have hst := stN (n := 22) (X := A') (b := A.next) (z := [.slice none 0 0, .int .u32 0, .int .u32 0, .int .u32 0, .int .i64 0, .slice none 0 0, .int .u32 0, .slice none 0 0, .slice none 0 0, .slice none 0 0, .int .i64 0, .slice none 0 0, .int .u32 0, .slice none 0 0, .slice none 0 0, .slice none 0 0, .int .i64 0, .slice none 0 0, .int .u32 0, .slice none 0 0, .slice none 0 0, .slice none 0 0]) (e := 50) rfl hs22 hsc
    rw [hend, List.take_length] at hS hR
    simp (maxSteps := 1000000) (disch := (first | omega | (simp only [nx_alloc, nx_upd, len_cons, len_nil, List.length_set, List.length_map, List.length_append] <;> omega) | fail)) only [Nat.reduceAdd, Nat.reduceSub, Nat.reduceMul, Nat.reduceLT, Nat.reduceLeDiff, Nat.reduceEqDiff, ↓reduceIte, reduceCtorEq, Int.reduceAdd, Int.reduceSub, Int.reduceMul, Int.reduceLT, Int.reduceLE, Int.reduceEq, Int.reduceNe, Int.reduceToNat, Int.reduceNeg, go_sem, r0, r2, r4, r5, r6, hlq, hg, g2, htk, hlda, hst, Try.results21]
    have gF : Ge (A'.hide (A.next :: b4 :: rbL u)) ((A'.upd A.next (some (.cells cs 50 (some 0)))).hide []) := Ge.hide (Nat.le_refl _) (fun b hb hbL => by
      simp only [List.mem_cons, not_or] at hbL
      exact ⟨by simp, by rw [St.get_upd, if_neg hbL.1]⟩)
    have r5' : RpRow (A'.upd A.next (some (.cells cs 50 (some 0)))) (A.next + 2) css u := Row.keep hrow (Nat.le_refl _) (fun b _ h1 _ => by rw [St.get_upd, if_neg (by omega)]) (Nat.le_refl _)
    refine gc_here ⟨cs, u, rfl, ho.upd (Nat.le_refl _) _, hS.ge gF, css, hR.imp (fun _ _ h => h.ge gF), (reps_cell hR).2, ?_⟩
    rw [hR.length]
    exact Row.view r5'
  have e1 : ((i : Int) < l.length) := by omega
  obtain ⟨r, hr⟩ : ∃ r, l[i]? = some r := ⟨l[i]'(by omega), List.getElem?_eq_getElem (by omega)⟩
  have hrok := hok r (List.mem_of_getElem? hr)
  obtain ⟨b, off, qc, q1, q2, q3, q4, cells, e', m, q5, q6, q7⟩ := hv.at (P := Try.prog) (e := 32) Try.sz32 hr
  have hqb : A'.get b = some (.cells cells e' m) := (ho.get b q1).trans q5
  have hldq := ld_agg (e' := e') (m := m) q6 q7
  have hgA : Ge A (A'.hide (A.next :: b4 :: rbL u)) := ⟨by rw [hide_next]; exact ho.next, fun b B h1 h2 => by
    rw [hide_get, if_neg (fun hm => by
      simp only [List.mem_cons] at hm
      rcases hm with rfl | rfl | hm
      · omega
      · omega
      · have := (hrbu b (mem_rbL.1 hm)).1; omega)]
    exact ho.ge.get b B h1 h2⟩
  have hrq : ReqC (A'.hide (A.next :: b4 :: rbL u)) r qc := q3.ge hgA
  have h8 : (allS (l.take i)).1.vers.length ≤ 1000 := by have := (allS_len (l.take i)).1; omega
  have hLB : ∀ b ∈ A.next :: b4 :: rbL u, b < A'.next := fun b hb => by
    simp only [List.mem_cons] at hb
    rcases hb with rfl | rfl | hb
    · omega
    · omega
    · exact (hrbu b (mem_rbL.1 hb)).2
  have c4 : b4 < A'.next := by omega
  have cq : b < A'.next := by have := ho.next; omega
  simp (maxSteps := 1000000) (disch := (first | omega | (simp only [nx_alloc, nx_upd, len_cons, len_nil, List.length_set, List.length_map, List.length_append] <;> omega) | fail)) only [Nat.reduceAdd, Nat.reduceSub, Nat.reduceMul, Nat.reduceLT, Nat.reduceLeDiff, Nat.reduceEqDiff, ↓reduceIte, reduceCtorEq, Int.reduceAdd, Int.reduceSub, Int.reduceMul, Int.reduceLT, Int.reduceLE, Int.reduceEq, Int.reduceNe, Int.reduceToNat, Int.reduceNeg, go_sem, r0, r6, hlq]
  refine AW.mono (Q := fun e a A9 => e = .normal ∧ ∃ ρ' b7 b8 cs' rc', a = E 33 ρ' [] ∧ ρ' 0 = v ∧ ρ' 2 = .pointer (some ⟨A.next, 0, none⟩) ∧ ρ' 4 = .pointer (some ⟨b4, 0, none⟩) ∧ ρ' 5 = u ∧ ρ' 6 = .int .i64 i ∧ ρ' 7 = .pointer (some ⟨b7, 0, none⟩) ∧ ρ' 8 = .pointer (some ⟨b8, 0, none⟩) ∧ A'.next ≤ b7 ∧ A'.next ≤ b8 ∧ b7 ≠ b8 ∧ A9.get b7 = some (.cells cs' 50 (some 0)) ∧ A9.get b8 = some (.cells rc' 40 (some 0)) ∧ Over A' A9 ∧ StC (A9.hide (b8 :: b7 :: A.next :: b4 :: rbL u)) (applyS (allS (l.take i)).1 r).1 cs' ∧ RepC (A9.hide (b8 :: b7 :: A.next :: b4 :: rbL u)) (applyS (allS (l.take i)).1 r).2 rc') ?_ ?_
  · refine aw_drawS (by kernel_rfl) ?_
    refine Ords.split 5 9 rfl ?_ ?_
    · refine Ords.split 5 10 rfl ?_ ?_
      · refine Ords.split 9 10 rfl ?_ ?_
        · have oD : Over A' A' := Over.refl _
          have nD : A'.next = A'.next + 0 := rfl
          have gD : Ge (A'.hide (A.next :: b4 :: rbL u)) (A'.hide (A.next :: b4 :: rbL u)) := Ge.refl _
          have hap := rapply_ok w0 A' (A.next :: b4 :: rbL u) (fun b hb => hLB b hb) (allS (l.take i)).1 cs r qc (hS.ge gD) (hrq.ge gD) hrok h8
          refine Ords.cut [0, 1, 2, 3, 4] [6, 7, 8, 9, 10, 11, 12] 5 (by kernel_rfl) ?_
          refine Ords.run [⟨false, [], [0]⟩, ⟨false, [], [0]⟩, ⟨false, [], [0]⟩, ⟨false, [1, 2], [0]⟩, ⟨false, [3, 1, 2], [0]⟩] [A'] 0 (by kernel_rfl) (by kernel_rfl) rfl ?_
          simp (maxSteps := 1000000) (disch := (first | omega | (simp only [nx_alloc, nx_upd, len_cons, len_nil, List.length_set, List.length_map, List.length_append] <;> omega) | fail)) only [Nat.reduceAdd, Nat.reduceSub, Nat.reduceMul, Nat.reduceLT, Nat.reduceLeDiff, Nat.reduceEqDiff, ↓reduceIte, reduceCtorEq, Int.reduceAdd, Int.reduceSub, Int.reduceMul, Int.reduceLT, Int.reduceLE, Int.reduceEq, Int.reduceNe, Int.reduceToNat, Int.reduceNeg, go_sem, subOps_toList, getD_arr0, getD_arrS, reO_mk, reO_mkG, ixOf, Option.bind_none, Option.map_none, thenN_normal, after_ret, r0, r4, r6, hg, htk, hlda, q2, hqb, hldq]
          refine hap.mono ?_
          rintro _ A2 ⟨cs', rc', rfl, o2, hS2, hR2⟩
          have n2 := o2.next
          have hxl := hS2.len.1
          have hxc := hS2.len.2
          have hyl := hR2.len
          have hyc := hR2.cell
          obtain ⟨G1, hG1⟩ : ∃ G, G = A2.alloc (.cells [.slice none 0 0, .int .u32 0, .int .u32 0, .int .u32 0, .int .i64 0, .slice none 0 0, .int .u32 0, .slice none 0 0, .slice none 0 0, .slice none 0 0, .int .i64 0, .slice none 0 0, .int .u32 0, .slice none 0 0, .slice none 0 0, .slice none 0 0, .int .i64 0, .slice none 0 0, .int .u32 0, .slice none 0 0, .slice none 0 0, .slice none 0 0] 50 (some 0)) := ⟨_, rfl⟩
          have oT1 : Over A2 G1 := hG1 ▸ (Over.refl _).alloc _
          have nG1 : G1.next = A2.next + 1 := by rw [hG1, nx_alloc]
          obtain ⟨G2, hG2⟩ : ∃ G, G = G1.alloc (.cells [.int .i64 0, .slice none 0 0, .int .u32 0, .slice none 0 0, .slice none 0 0, .slice none 0 0] 40 (some 0)) := ⟨_, rfl⟩
          have oT2 : Over G1 G2 := hG2 ▸ (Over.refl _).alloc _
          have nG2 : G2.next = A2.next + 2 := by rw [hG2, nx_alloc, nG1]
          obtain ⟨G, hGG⟩ : ∃ G, G = G2 := ⟨_, rfl⟩
          have oG : Over A2 G := hGG ▸ oT1.trans oT2
          have nG : G.next = A2.next + 2 := hGG ▸ nG2
          have gx : G.get A2.next = some (.cells [.slice none 0 0, .int .u32 0, .int .u32 0, .int .u32 0, .int .i64 0, .slice none 0 0, .int .u32 0, .slice none 0 0, .slice none 0 0, .slice none 0 0, .int .i64 0, .slice none 0 0, .int .u32 0, .slice none 0 0, .slice none 0 0, .slice none 0 0, .int .i64 0, .slice none 0 0, .int .u32 0, .slice none 0 0, .slice none 0 0, .slice none 0 0] 50 (some 0)) := by rw [hGG]; rw [oT2.get _ (by omega)]; rw [hG1]; exact get_alloc_same ..
          have gy : G.get (A2.next + 1) = some (.cells [.int .i64 0, .slice none 0 0, .int .u32 0, .slice none 0 0, .slice none 0 0, .slice none 0 0] 40 (some 0)) := by rw [hGG]; rw [hG2, show A2.next + 1 = G1.next by omega]; exact get_alloc_same ..
          have st1 := stN (n := 22) (X := G) (b := A2.next) (z := [.slice none 0 0, .int .u32 0, .int .u32 0, .int .u32 0, .int .i64 0, .slice none 0 0, .int .u32 0, .slice none 0 0, .slice none 0 0, .slice none 0 0, .int .i64 0, .slice none 0 0, .int .u32 0, .slice none 0 0, .slice none 0 0, .slice none 0 0, .int .i64 0, .slice none 0 0, .int .u32 0, .slice none 0 0, .slice none 0 0, .slice none 0 0]) (e := 50) rfl hxl hxc
          have st2 := stN (n := 6) (X := G.upd A2.next (some (.cells cs' 50 (some 0)))) (b := (A2.next + 1)) (z := [.int .i64 0, .slice none 0 0, .int .u32 0, .slice none 0 0, .slice none 0 0, .slice none 0 0]) (e := 40) rfl hyl hyc
          have gy2 : (G.upd A2.next (some (.cells cs' 50 (some 0)))).get (A2.next + 1) = some (.cells [.int .i64 0, .slice none 0 0, .int .u32 0, .slice none 0 0, .slice none 0 0, .slice none 0 0] 40 (some 0)) := by rw [St.get_upd, if_neg (by omega)]; exact gy
          rw [hGG] at gx gy gy2 st1 st2 oG nG
          simp (maxSteps := 1000000) (disch := (first | omega | (simp only [nx_alloc, nx_upd, len_cons, len_nil, List.length_set, List.length_map, List.length_append] <;> omega) | fail)) only [Nat.reduceAdd, Nat.reduceSub, Nat.reduceMul, Nat.reduceLT, Nat.reduceLeDiff, Nat.reduceEqDiff, ↓reduceIte, reduceCtorEq, Int.reduceAdd, Int.reduceSub, Int.reduceMul, Int.reduceLT, Int.reduceLE, Int.reduceEq, Int.reduceNe, Int.reduceToNat, Int.reduceNeg, go_sem]
          refine Ords.run [⟨false, [], [0, 1, 2]⟩, ⟨false, [0], [0, 1, 2]⟩, ⟨false, [0], [0, 1, 2, 3]⟩, ⟨true, [], [0]⟩, ⟨true, [3], [1]⟩, ⟨true, [3, 1, 0, 4], [2]⟩, ⟨true, [4, 2, 5, 0, 1, 3], [3]⟩] [A2, G1, G2, G2.upd A2.next (some (.cells cs' 50 (some 0))), (G2.upd A2.next (some (.cells cs' 50 (some 0)))).upd (A2.next + 1) (some (.cells rc' 40 (some 0)))] 4 (by kernel_rfl) (by kernel_rfl) rfl ?_
          simp (maxSteps := 1000000) (disch := (first | omega | (simp only [nx_alloc, nx_upd, len_cons, len_nil, List.length_set, List.length_map, List.length_append] <;> omega) | fail)) only [Nat.reduceAdd, Nat.reduceSub, Nat.reduceMul, Nat.reduceLT, Nat.reduceLeDiff, Nat.reduceEqDiff, ↓reduceIte, reduceCtorEq, Int.reduceAdd, Int.reduceSub, Int.reduceMul, Int.reduceLT, Int.reduceLE, Int.reduceEq, Int.reduceNe, Int.reduceToNat, Int.reduceNeg, go_sem, subOps_toList, getD_arr0, getD_arrS, reO_mk, reO_mkG, ixOf, Option.bind_none, Option.map_none, thenN_normal, after_ret, gx, gy, gy2, st1, st2, nG1, nG2, ← hG1, ← hG2]
          have oE : Over A' ((G2.upd A2.next (some (.cells cs' 50 (some 0)))).upd (A2.next + 1) (some (.cells rc' 40 (some 0)))) := by refine ⟨by (try simp only [nx_upd]); omega, fun b hb => ?_⟩; rw [St.get_upd, if_neg (by omega), St.get_upd, if_neg (by omega), oG.get b (by omega), o2.get b (by omega), oD.get b hb]
          have gE : Ge (A2.hide (A.next :: b4 :: rbL u)) (((G2.upd A2.next (some (.cells cs' 50 (some 0)))).upd (A2.next + 1) (some (.cells rc' 40 (some 0)))).hide ((A2.next + 1) :: A2.next :: A.next :: b4 :: rbL u)) := Ge.hide (by (try simp only [nx_upd]); omega) (fun b hb hbL => by
            have e1 : b ≠ A2.next := by omega
            have e2 : b ≠ (A2.next + 1) := by omega
            refine ⟨?_, by rw [St.get_upd, if_neg e2, St.get_upd, if_neg e1, oG.get b hb]⟩
            simp only [List.mem_cons, not_or] at hbL ⊢
            exact ⟨e2, e1, hbL⟩)
          refine ⟨_, A2.next, (A2.next + 1), cs', rc', rfl, ?_, ?_, ?_, ?_, ?_, ?_, ?_, (by omega), (by omega), (by omega), ?_, get_upd_same .., oE, hS2.ge gE, hR2.ge gE⟩
          · simp (maxSteps := 1000000) (disch := (first | omega | (simp only [nx_alloc, nx_upd, len_cons, len_nil, List.length_set, List.length_map, List.length_append] <;> omega) | fail)) only [Nat.reduceAdd, Nat.reduceSub, Nat.reduceMul, Nat.reduceLT, Nat.reduceLeDiff, Nat.reduceEqDiff, ↓reduceIte, reduceCtorEq, Int.reduceAdd, Int.reduceSub, Int.reduceMul, Int.reduceLT, Int.reduceLE, Int.reduceEq, Int.reduceNe, Int.reduceToNat, Int.reduceNeg, go_sem, r0]
          · simp (maxSteps := 1000000) (disch := (first | omega | (simp only [nx_alloc, nx_upd, len_cons, len_nil, List.length_set, List.length_map, List.length_append] <;> omega) | fail)) only [Nat.reduceAdd, Nat.reduceSub, Nat.reduceMul, Nat.reduceLT, Nat.reduceLeDiff, Nat.reduceEqDiff, ↓reduceIte, reduceCtorEq, Int.reduceAdd, Int.reduceSub, Int.reduceMul, Int.reduceLT, Int.reduceLE, Int.reduceEq, Int.reduceNe, Int.reduceToNat, Int.reduceNeg, go_sem, r2]
          · simp (maxSteps := 1000000) (disch := (first | omega | (simp only [nx_alloc, nx_upd, len_cons, len_nil, List.length_set, List.length_map, List.length_append] <;> omega) | fail)) only [Nat.reduceAdd, Nat.reduceSub, Nat.reduceMul, Nat.reduceLT, Nat.reduceLeDiff, Nat.reduceEqDiff, ↓reduceIte, reduceCtorEq, Int.reduceAdd, Int.reduceSub, Int.reduceMul, Int.reduceLT, Int.reduceLE, Int.reduceEq, Int.reduceNe, Int.reduceToNat, Int.reduceNeg, go_sem, r4]
          · simp (maxSteps := 1000000) (disch := (first | omega | (simp only [nx_alloc, nx_upd, len_cons, len_nil, List.length_set, List.length_map, List.length_append] <;> omega) | fail)) only [Nat.reduceAdd, Nat.reduceSub, Nat.reduceMul, Nat.reduceLT, Nat.reduceLeDiff, Nat.reduceEqDiff, ↓reduceIte, reduceCtorEq, Int.reduceAdd, Int.reduceSub, Int.reduceMul, Int.reduceLT, Int.reduceLE, Int.reduceEq, Int.reduceNe, Int.reduceToNat, Int.reduceNeg, go_sem, r5]
          · simp (maxSteps := 1000000) (disch := (first | omega | (simp only [nx_alloc, nx_upd, len_cons, len_nil, List.length_set, List.length_map, List.length_append] <;> omega) | fail)) only [Nat.reduceAdd, Nat.reduceSub, Nat.reduceMul, Nat.reduceLT, Nat.reduceLeDiff, Nat.reduceEqDiff, ↓reduceIte, reduceCtorEq, Int.reduceAdd, Int.reduceSub, Int.reduceMul, Int.reduceLT, Int.reduceLE, Int.reduceEq, Int.reduceNe, Int.reduceToNat, Int.reduceNeg, go_sem, r6]
          · simp (maxSteps := 1000000) (disch := (first | omega | (simp only [nx_alloc, nx_upd, len_cons, len_nil, List.length_set, List.length_map, List.length_append] <;> omega) | fail)) only [Nat.reduceAdd, Nat.reduceSub, Nat.reduceMul, Nat.reduceLT, Nat.reduceLeDiff, Nat.reduceEqDiff, ↓reduceIte, reduceCtorEq, Int.reduceAdd, Int.reduceSub, Int.reduceMul, Int.reduceLT, Int.reduceLE, Int.reduceEq, Int.reduceNe, Int.reduceToNat, Int.reduceNeg, go_sem]
          · simp (maxSteps := 1000000) (disch := (first | omega | (simp only [nx_alloc, nx_upd, len_cons, len_nil, List.length_set, List.length_map, List.length_append] <;> omega) | fail)) only [Nat.reduceAdd, Nat.reduceSub, Nat.reduceMul, Nat.reduceLT, Nat.reduceLeDiff, Nat.reduceEqDiff, ↓reduceIte, reduceCtorEq, Int.reduceAdd, Int.reduceSub, Int.reduceMul, Int.reduceLT, Int.reduceLE, Int.reduceEq, Int.reduceNe, Int.reduceToNat, Int.reduceNeg, go_sem]
          · rw [St.get_upd, if_neg (by omega), get_upd_same]
        · have oD : Over A' A' := Over.refl _
          have nD : A'.next = A'.next + 0 := rfl
          have gD : Ge (A'.hide (A.next :: b4 :: rbL u)) (A'.hide (A.next :: b4 :: rbL u)) := Ge.refl _
          have hap := rapply_ok w0 A' (A.next :: b4 :: rbL u) (fun b hb => hLB b hb) (allS (l.take i)).1 cs r qc (hS.ge gD) (hrq.ge gD) hrok h8
          refine Ords.cut [0, 1, 2, 3, 4] [6, 7, 8, 9, 10, 11, 12] 5 (by kernel_rfl) ?_
          refine Ords.run [⟨false, [], [0]⟩, ⟨false, [], [0]⟩, ⟨false, [], [0]⟩, ⟨false, [1, 2], [0]⟩, ⟨false, [3, 1, 2], [0]⟩] [A'] 0 (by kernel_rfl) (by kernel_rfl) rfl ?_
          simp (maxSteps := 1000000) (disch := (first | omega | (simp only [nx_alloc, nx_upd, len_cons, len_nil, List.length_set, List.length_map, List.length_append] <;> omega) | fail)) only [Nat.reduceAdd, Nat.reduceSub, Nat.reduceMul, Nat.reduceLT, Nat.reduceLeDiff, Nat.reduceEqDiff, ↓reduceIte, reduceCtorEq, Int.reduceAdd, Int.reduceSub, Int.reduceMul, Int.reduceLT, Int.reduceLE, Int.reduceEq, Int.reduceNe, Int.reduceToNat, Int.reduceNeg, go_sem, subOps_toList, getD_arr0, getD_arrS, reO_mk, reO_mkG, ixOf, Option.bind_none, Option.map_none, thenN_normal, after_ret, r0, r4, r6, hg, htk, hlda, q2, hqb, hldq]
          refine hap.mono ?_
          rintro _ A2 ⟨cs', rc', rfl, o2, hS2, hR2⟩
          have n2 := o2.next
          have hxl := hS2.len.1
          have hxc := hS2.len.2
          have hyl := hR2.len
          have hyc := hR2.cell
          obtain ⟨G1, hG1⟩ : ∃ G, G = A2.alloc (.cells [.int .i64 0, .slice none 0 0, .int .u32 0, .slice none 0 0, .slice none 0 0, .slice none 0 0] 40 (some 0)) := ⟨_, rfl⟩
          have oT1 : Over A2 G1 := hG1 ▸ (Over.refl _).alloc _
          have nG1 : G1.next = A2.next + 1 := by rw [hG1, nx_alloc]
          obtain ⟨G2, hG2⟩ : ∃ G, G = G1.alloc (.cells [.slice none 0 0, .int .u32 0, .int .u32 0, .int .u32 0, .int .i64 0, .slice none 0 0, .int .u32 0, .slice none 0 0, .slice none 0 0, .slice none 0 0, .int .i64 0, .slice none 0 0, .int .u32 0, .slice none 0 0, .slice none 0 0, .slice none 0 0, .int .i64 0, .slice none 0 0, .int .u32 0, .slice none 0 0, .slice none 0 0, .slice none 0 0] 50 (some 0)) := ⟨_, rfl⟩
          have oT2 : Over G1 G2 := hG2 ▸ (Over.refl _).alloc _
          have nG2 : G2.next = A2.next + 2 := by rw [hG2, nx_alloc, nG1]
          obtain ⟨G, hGG⟩ : ∃ G, G = G2 := ⟨_, rfl⟩
          have oG : Over A2 G := hGG ▸ oT1.trans oT2
          have nG : G.next = A2.next + 2 := hGG ▸ nG2
          have gx : G.get (A2.next + 1) = some (.cells [.slice none 0 0, .int .u32 0, .int .u32 0, .int .u32 0, .int .i64 0, .slice none 0 0, .int .u32 0, .slice none 0 0, .slice none 0 0, .slice none 0 0, .int .i64 0, .slice none 0 0, .int .u32 0, .slice none 0 0, .slice none 0 0, .slice none 0 0, .int .i64 0, .slice none 0 0, .int .u32 0, .slice none 0 0, .slice none 0 0, .slice none 0 0] 50 (some 0)) := by rw [hGG]; rw [hG2, show A2.next + 1 = G1.next by omega]; exact get_alloc_same ..
          have gy : G.get A2.next = some (.cells [.int .i64 0, .slice none 0 0, .int .u32 0, .slice none 0 0, .slice none 0 0, .slice none 0 0] 40 (some 0)) := by rw [hGG]; rw [oT2.get _ (by omega)]; rw [hG1]; exact get_alloc_same ..
          have st1 := stN (n := 22) (X := G) (b := (A2.next + 1)) (z := [.slice none 0 0, .int .u32 0, .int .u32 0, .int .u32 0, .int .i64 0, .slice none 0 0, .int .u32 0, .slice none 0 0, .slice none 0 0, .slice none 0 0, .int .i64 0, .slice none 0 0, .int .u32 0, .slice none 0 0, .slice none 0 0, .slice none 0 0, .int .i64 0, .slice none 0 0, .int .u32 0, .slice none 0 0, .slice none 0 0, .slice none 0 0]) (e := 50) rfl hxl hxc
          have st2 := stN (n := 6) (X := G.upd (A2.next + 1) (some (.cells cs' 50 (some 0)))) (b := A2.next) (z := [.int .i64 0, .slice none 0 0, .int .u32 0, .slice none 0 0, .slice none 0 0, .slice none 0 0]) (e := 40) rfl hyl hyc
          have gy2 : (G.upd (A2.next + 1) (some (.cells cs' 50 (some 0)))).get A2.next = some (.cells [.int .i64 0, .slice none 0 0, .int .u32 0, .slice none 0 0, .slice none 0 0, .slice none 0 0] 40 (some 0)) := by rw [St.get_upd, if_neg (by omega)]; exact gy
          rw [hGG] at gx gy gy2 st1 st2 oG nG
          simp (maxSteps := 1000000) (disch := (first | omega | (simp only [nx_alloc, nx_upd, len_cons, len_nil, List.length_set, List.length_map, List.length_append] <;> omega) | fail)) only [Nat.reduceAdd, Nat.reduceSub, Nat.reduceMul, Nat.reduceLT, Nat.reduceLeDiff, Nat.reduceEqDiff, ↓reduceIte, reduceCtorEq, Int.reduceAdd, Int.reduceSub, Int.reduceMul, Int.reduceLT, Int.reduceLE, Int.reduceEq, Int.reduceNe, Int.reduceToNat, Int.reduceNeg, go_sem]
          refine Ords.run [⟨false, [], [0, 1, 2]⟩, ⟨false, [0], [0, 1, 2]⟩, ⟨false, [0], [0, 1, 2, 3]⟩, ⟨true, [4], [1]⟩, ⟨true, [], [0]⟩, ⟨true, [3, 1, 0, 4], [2]⟩, ⟨true, [4, 2, 5, 0, 1, 3], [3]⟩] [A2, G1, G2, G2.upd (A2.next + 1) (some (.cells cs' 50 (some 0))), (G2.upd (A2.next + 1) (some (.cells cs' 50 (some 0)))).upd A2.next (some (.cells rc' 40 (some 0)))] 4 (by kernel_rfl) (by kernel_rfl) rfl ?_
          simp (maxSteps := 1000000) (disch := (first | omega | (simp only [nx_alloc, nx_upd, len_cons, len_nil, List.length_set, List.length_map, List.length_append] <;> omega) | fail)) only [Nat.reduceAdd, Nat.reduceSub, Nat.reduceMul, Nat.reduceLT, Nat.reduceLeDiff, Nat.reduceEqDiff, ↓reduceIte, reduceCtorEq, Int.reduceAdd, Int.reduceSub, Int.reduceMul, Int.reduceLT, Int.reduceLE, Int.reduceEq, Int.reduceNe, Int.reduceToNat, Int.reduceNeg, go_sem, subOps_toList, getD_arr0, getD_arrS, reO_mk, reO_mkG, ixOf, Option.bind_none, Option.map_none, thenN_normal, after_ret, gx, gy, gy2, st1, st2, nG1, nG2, ← hG1, ← hG2]
          have oE : Over A' ((G2.upd (A2.next + 1) (some (.cells cs' 50 (some 0)))).upd A2.next (some (.cells rc' 40 (some 0)))) := by refine ⟨by (try simp only [nx_upd]); omega, fun b hb => ?_⟩; rw [St.get_upd, if_neg (by omega), St.get_upd, if_neg (by omega), oG.get b (by omega), o2.get b (by omega), oD.get b hb]
          have gE : Ge (A2.hide (A.next :: b4 :: rbL u)) (((G2.upd (A2.next + 1) (some (.cells cs' 50 (some 0)))).upd A2.next (some (.cells rc' 40 (some 0)))).hide (A2.next :: (A2.next + 1) :: A.next :: b4 :: rbL u)) := Ge.hide (by (try simp only [nx_upd]); omega) (fun b hb hbL => by
            have e1 : b ≠ (A2.next + 1) := by omega
            have e2 : b ≠ A2.next := by omega
            refine ⟨?_, by rw [St.get_upd, if_neg e2, St.get_upd, if_neg e1, oG.get b hb]⟩
            simp only [List.mem_cons, not_or] at hbL ⊢
            exact ⟨e2, e1, hbL⟩)
          refine ⟨_, (A2.next + 1), A2.next, cs', rc', rfl, ?_, ?_, ?_, ?_, ?_, ?_, ?_, (by omega), (by omega), (by omega), ?_, get_upd_same .., oE, hS2.ge gE, hR2.ge gE⟩
          · simp (maxSteps := 1000000) (disch := (first | omega | (simp only [nx_alloc, nx_upd, len_cons, len_nil, List.length_set, List.length_map, List.length_append] <;> omega) | fail)) only [Nat.reduceAdd, Nat.reduceSub, Nat.reduceMul, Nat.reduceLT, Nat.reduceLeDiff, Nat.reduceEqDiff, ↓reduceIte, reduceCtorEq, Int.reduceAdd, Int.reduceSub, Int.reduceMul, Int.reduceLT, Int.reduceLE, Int.reduceEq, Int.reduceNe, Int.reduceToNat, Int.reduceNeg, go_sem, r0]
          · simp (maxSteps := 1000000) (disch := (first | omega | (simp only [nx_alloc, nx_upd, len_cons, len_nil, List.length_set, List.length_map, List.length_append] <;> omega) | fail)) only [Nat.reduceAdd, Nat.reduceSub, Nat.reduceMul, Nat.reduceLT, Nat.reduceLeDiff, Nat.reduceEqDiff, ↓reduceIte, reduceCtorEq, Int.reduceAdd, Int.reduceSub, Int.reduceMul, Int.reduceLT, Int.reduceLE, Int.reduceEq, Int.reduceNe, Int.reduceToNat, Int.reduceNeg, go_sem, r2]
          · simp (maxSteps := 1000000) (disch := (first | omega | (simp only [nx_alloc, nx_upd, len_cons, len_nil, List.length_set, List.length_map, List.length_append] <;> omega) | fail)) only [Nat.reduceAdd, Nat.reduceSub, Nat.reduceMul, Nat.reduceLT, Nat.reduceLeDiff, Nat.reduceEqDiff, ↓reduceIte, reduceCtorEq, Int.reduceAdd, Int.reduceSub, Int.reduceMul, Int.reduceLT, Int.reduceLE, Int.reduceEq, Int.reduceNe, Int.reduceToNat, Int.reduceNeg, go_sem, r4]
          · simp (maxSteps := 1000000) (disch := (first | omega | (simp only [nx_alloc, nx_upd, len_cons, len_nil, List.length_set, List.length_map, List.length_append] <;> omega) | fail)) only [Nat.reduceAdd, Nat.reduceSub, Nat.reduceMul, Nat.reduceLT, Nat.reduceLeDiff, Nat.reduceEqDiff, ↓reduceIte, reduceCtorEq, Int.reduceAdd, Int.reduceSub, Int.reduceMul, Int.reduceLT, Int.reduceLE, Int.reduceEq, Int.reduceNe, Int.reduceToNat, Int.reduceNeg, go_sem, r5]
          · simp (maxSteps := 1000000) (disch := (first | omega | (simp only [nx_alloc, nx_upd, len_cons, len_nil, List.length_set, List.length_map, List.length_append] <;> omega) | fail)) only [Nat.reduceAdd, Nat.reduceSub, Nat.reduceMul, Nat.reduceLT, Nat.reduceLeDiff, Nat.reduceEqDiff, ↓reduceIte, reduceCtorEq, Int.reduceAdd, Int.reduceSub, Int.reduceMul, Int.reduceLT, Int.reduceLE, Int.reduceEq, Int.reduceNe, Int.reduceToNat, Int.reduceNeg, go_sem, r6]
          · simp (maxSteps := 1000000) (disch := (first | omega | (simp only [nx_alloc, nx_upd, len_cons, len_nil, List.length_set, List.length_map, List.length_append] <;> omega) | fail)) only [Nat.reduceAdd, Nat.reduceSub, Nat.reduceMul, Nat.reduceLT, Nat.reduceLeDiff, Nat.reduceEqDiff, ↓reduceIte, reduceCtorEq, Int.reduceAdd, Int.reduceSub, Int.reduceMul, Int.reduceLT, Int.reduceLE, Int.reduceEq, Int.reduceNe, Int.reduceToNat, Int.reduceNeg, go_sem]
          · simp (maxSteps := 1000000) (disch := (first | omega | (simp only [nx_alloc, nx_upd, len_cons, len_nil, List.length_set, List.length_map, List.length_append] <;> omega) | fail)) only [Nat.reduceAdd, Nat.reduceSub, Nat.reduceMul, Nat.reduceLT, Nat.reduceLeDiff, Nat.reduceEqDiff, ↓reduceIte, reduceCtorEq, Int.reduceAdd, Int.reduceSub, Int.reduceMul, Int.reduceLT, Int.reduceLE, Int.reduceEq, Int.reduceNe, Int.reduceToNat, Int.reduceNeg, go_sem]
          · rw [St.get_upd, if_neg (by omega), get_upd_same]
      · obtain ⟨D1, hD1⟩ : ∃ D, D = A'.alloc (.cells [.int .i64 0, .slice none 0 0, .int .u32 0, .slice none 0 0, .slice none 0 0, .slice none 0 0] 40 (some 0)) := ⟨_, rfl⟩
        have oS1 : Over A' D1 := hD1 ▸ (Over.refl _).alloc _
        have nD1 : D1.next = A'.next + 1 := by rw [hD1, nx_alloc]
        have dk1_0 : D1.get b4 = some (.cells cs 50 (some 0)) := by rw [oS1.get _ (by omega)]; exact hg
        have dk1_1 : D1.get b = some (.cells cells e' m) := by rw [oS1.get _ (by omega)]; exact hqb
        have oD : Over A' D1 := oS1
        have nD : D1.next = A'.next + 1 := nD1
        have dy : D1.get A'.next = some (.cells [.int .i64 0, .slice none 0 0, .int .u32 0, .slice none 0 0, .slice none 0 0, .slice none 0 0] 40 (some 0)) := by rw [hD1]; exact get_alloc_same ..
        have gD : Ge (A'.hide (A.next :: b4 :: rbL u)) (D1.hide (A'.next :: A.next :: b4 :: rbL u)) := Ge.hide oD.next (fun b hb hbL => ⟨by simp only [List.mem_cons, List.not_mem_nil, or_false, not_or] at hbL ⊢; exact ⟨by omega, hbL⟩, oD.get b hb⟩)
        have hap := rapply_ok w0 D1 (A'.next :: A.next :: b4 :: rbL u) (fun b hb => by rcases List.mem_cons.1 hb with rfl | hb; omega; (have := hLB b hb; omega)) (allS (l.take i)).1 cs r qc (hS.ge gD) (hrq.ge gD) hrok h8
        refine Ords.cut [0, 1, 2, 3, 4, 10] [6, 7, 8, 9, 11, 12] 5 (by kernel_rfl) ?_
        refine Ords.run [⟨false, [], [0, 1]⟩, ⟨false, [], [0, 1]⟩, ⟨false, [], [0, 1]⟩, ⟨false, [1, 2], [0, 1]⟩, ⟨false, [3, 1, 2], [0, 1]⟩, ⟨true, [], [0]⟩] [A', D1] 1 (by kernel_rfl) (by kernel_rfl) rfl ?_
        simp (maxSteps := 1000000) (disch := (first | omega | (simp only [nx_alloc, nx_upd, len_cons, len_nil, List.length_set, List.length_map, List.length_append] <;> omega) | fail)) only [Nat.reduceAdd, Nat.reduceSub, Nat.reduceMul, Nat.reduceLT, Nat.reduceLeDiff, Nat.reduceEqDiff, ↓reduceIte, reduceCtorEq, Int.reduceAdd, Int.reduceSub, Int.reduceMul, Int.reduceLT, Int.reduceLE, Int.reduceEq, Int.reduceNe, Int.reduceToNat, Int.reduceNeg, go_sem, subOps_toList, getD_arr0, getD_arrS, reO_mk, reO_mkG, ixOf, Option.bind_none, Option.map_none, thenN_normal, after_ret, r0, r4, r6, hg, htk, hlda, q2, hqb, hldq, nD1, dk1_0, dk1_1, ← hD1]
        refine hap.mono ?_
        rintro _ A2 ⟨cs', rc', rfl, o2, hS2, hR2⟩
        have n2 := o2.next
        have hxl := hS2.len.1
        have hxc := hS2.len.2
        have hyl := hR2.len
        have hyc := hR2.cell
        obtain ⟨G1, hG1⟩ : ∃ G, G = A2.alloc (.cells [.slice none 0 0, .int .u32 0, .int .u32 0, .int .u32 0, .int .i64 0, .slice none 0 0, .int .u32 0, .slice none 0 0, .slice none 0 0, .slice none 0 0, .int .i64 0, .slice none 0 0, .int .u32 0, .slice none 0 0, .slice none 0 0, .slice none 0 0, .int .i64 0, .slice none 0 0, .int .u32 0, .slice none 0 0, .slice none 0 0, .slice none 0 0] 50 (some 0)) := ⟨_, rfl⟩
        have oT1 : Over A2 G1 := hG1 ▸ (Over.refl _).alloc _
        have nG1 : G1.next = A2.next + 1 := by rw [hG1, nx_alloc]
        obtain ⟨G, hGG⟩ : ∃ G, G = G1 := ⟨_, rfl⟩
        have oG : Over A2 G := hGG ▸ oT1
        have nG : G.next = A2.next + 1 := hGG ▸ nG1
        have gx : G.get A2.next = some (.cells [.slice none 0 0, .int .u32 0, .int .u32 0, .int .u32 0, .int .i64 0, .slice none 0 0, .int .u32 0, .slice none 0 0, .slice none 0 0, .slice none 0 0, .int .i64 0, .slice none 0 0, .int .u32 0, .slice none 0 0, .slice none 0 0, .slice none 0 0, .int .i64 0, .slice none 0 0, .int .u32 0, .slice none 0 0, .slice none 0 0, .slice none 0 0] 50 (some 0)) := by rw [hGG]; rw [hG1]; exact get_alloc_same ..
        have gy : G.get A'.next = some (.cells [.int .i64 0, .slice none 0 0, .int .u32 0, .slice none 0 0, .slice none 0 0, .slice none 0 0] 40 (some 0)) := by rw [oG.get _ (by omega), o2.get _ (by omega)]; exact dy
        have st1 := stN (n := 22) (X := G) (b := A2.next) (z := [.slice none 0 0, .int .u32 0, .int .u32 0, .int .u32 0, .int .i64 0, .slice none 0 0, .int .u32 0, .slice none 0 0, .slice none 0 0, .slice none 0 0, .int .i64 0, .slice none 0 0, .int .u32 0, .slice none 0 0, .slice none 0 0, .slice none 0 0, .int .i64 0, .slice none 0 0, .int .u32 0, .slice none 0 0, .slice none 0 0, .slice none 0 0]) (e := 50) rfl hxl hxc
        have st2 := stN (n := 6) (X := G.upd A2.next (some (.cells cs' 50 (some 0)))) (b := A'.next) (z := [.int .i64 0, .slice none 0 0, .int .u32 0, .slice none 0 0, .slice none 0 0, .slice none 0 0]) (e := 40) rfl hyl hyc
        have gy2 : (G.upd A2.next (some (.cells cs' 50 (some 0)))).get A'.next = some (.cells [.int .i64 0, .slice none 0 0, .int .u32 0, .slice none 0 0, .slice none 0 0, .slice none 0 0] 40 (some 0)) := by rw [St.get_upd, if_neg (by omega)]; exact gy
        rw [hGG] at gx gy gy2 st1 st2 oG nG
        simp (maxSteps := 1000000) (disch := (first | omega | (simp only [nx_alloc, nx_upd, len_cons, len_nil, List.length_set, List.length_map, List.length_append] <;> omega) | fail)) only [Nat.reduceAdd, Nat.reduceSub, Nat.reduceMul, Nat.reduceLT, Nat.reduceLeDiff, Nat.reduceEqDiff, ↓reduceIte, reduceCtorEq, Int.reduceAdd, Int.reduceSub, Int.reduceMul, Int.reduceLT, Int.reduceLE, Int.reduceEq, Int.reduceNe, Int.reduceToNat, Int.reduceNeg, go_sem]
        refine Ords.run [⟨false, [], [0, 1]⟩, ⟨false, [0], [0, 1]⟩, ⟨false, [0], [0, 1, 2]⟩, ⟨true, [], [0]⟩, ⟨true, [3, 1, 0], [1]⟩, ⟨true, [2, 4, 0, 1, 3], [2]⟩] [A2, G1, G1.upd A2.next (some (.cells cs' 50 (some 0))), (G1.upd A2.next (some (.cells cs' 50 (some 0)))).upd A'.next (some (.cells rc' 40 (some 0)))] 3 (by kernel_rfl) (by kernel_rfl) rfl ?_
        simp (maxSteps := 1000000) (disch := (first | omega | (simp only [nx_alloc, nx_upd, len_cons, len_nil, List.length_set, List.length_map, List.length_append] <;> omega) | fail)) only [Nat.reduceAdd, Nat.reduceSub, Nat.reduceMul, Nat.reduceLT, Nat.reduceLeDiff, Nat.reduceEqDiff, ↓reduceIte, reduceCtorEq, Int.reduceAdd, Int.reduceSub, Int.reduceMul, Int.reduceLT, Int.reduceLE, Int.reduceEq, Int.reduceNe, Int.reduceToNat, Int.reduceNeg, go_sem, subOps_toList, getD_arr0, getD_arrS, reO_mk, reO_mkG, ixOf, Option.bind_none, Option.map_none, thenN_normal, after_ret, gx, gy, gy2, st1, st2, nG1, ← hG1]
        have oE : Over A' ((G1.upd A2.next (some (.cells cs' 50 (some 0)))).upd A'.next (some (.cells rc' 40 (some 0)))) := by refine ⟨by (try simp only [nx_upd]); omega, fun b hb => ?_⟩; rw [St.get_upd, if_neg (by omega), St.get_upd, if_neg (by omega), oG.get b (by omega), o2.get b (by omega), oD.get b hb]
        have gE : Ge (A2.hide (A'.next :: A.next :: b4 :: rbL u)) (((G1.upd A2.next (some (.cells cs' 50 (some 0)))).upd A'.next (some (.cells rc' 40 (some 0)))).hide (A'.next :: A2.next :: A.next :: b4 :: rbL u)) := Ge.hide (by (try simp only [nx_upd]); omega) (fun b hb hbL => by
          have e1 : b ≠ A2.next := by omega
          have e2 : b ≠ A'.next := by intro e; apply hbL; rw [e]; simp
          refine ⟨?_, by rw [St.get_upd, if_neg e2, St.get_upd, if_neg e1, oG.get b hb]⟩
          simp only [List.mem_cons, not_or] at hbL ⊢
          exact ⟨e2, e1, hbL.2⟩)
        refine ⟨_, A2.next, A'.next, cs', rc', rfl, ?_, ?_, ?_, ?_, ?_, ?_, ?_, (by omega), (by omega), (by omega), ?_, get_upd_same .., oE, hS2.ge gE, hR2.ge gE⟩
        · simp (maxSteps := 1000000) (disch := (first | omega | (simp only [nx_alloc, nx_upd, len_cons, len_nil, List.length_set, List.length_map, List.length_append] <;> omega) | fail)) only [Nat.reduceAdd, Nat.reduceSub, Nat.reduceMul, Nat.reduceLT, Nat.reduceLeDiff, Nat.reduceEqDiff, ↓reduceIte, reduceCtorEq, Int.reduceAdd, Int.reduceSub, Int.reduceMul, Int.reduceLT, Int.reduceLE, Int.reduceEq, Int.reduceNe, Int.reduceToNat, Int.reduceNeg, go_sem, r0]
        · simp (maxSteps := 1000000) (disch := (first | omega | (simp only [nx_alloc, nx_upd, len_cons, len_nil, List.length_set, List.length_map, List.length_append] <;> omega) | fail)) only [Nat.reduceAdd, Nat.reduceSub, Nat.reduceMul, Nat.reduceLT, Nat.reduceLeDiff, Nat.reduceEqDiff, ↓reduceIte, reduceCtorEq, Int.reduceAdd, Int.reduceSub, Int.reduceMul, Int.reduceLT, Int.reduceLE, Int.reduceEq, Int.reduceNe, Int.reduceToNat, Int.reduceNeg, go_sem, r2]
        · simp (maxSteps := 1000000) (disch := (first | omega | (simp only [nx_alloc, nx_upd, len_cons, len_nil, List.length_set, List.length_map, List.length_append] <;> omega) | fail)) only [Nat.reduceAdd, Nat.reduceSub, Nat.reduceMul, Nat.reduceLT, Nat.reduceLeDiff, Nat.reduceEqDiff, ↓reduceIte, reduceCtorEq, Int.reduceAdd, Int.reduceSub, Int.reduceMul, Int.reduceLT, Int.reduceLE, Int.reduceEq, Int.reduceNe, Int.reduceToNat, Int.reduceNeg, go_sem, r4]
        · simp (maxSteps := 1000000) (disch := (first | omega | (simp only [nx_alloc, nx_upd, len_cons, len_nil, List.length_set, List.length_map, List.length_append] <;> omega) | fail)) only [Nat.reduceAdd, Nat.reduceSub, Nat.reduceMul, Nat.reduceLT, Nat.reduceLeDiff, Nat.reduceEqDiff, ↓reduceIte, reduceCtorEq, Int.reduceAdd, Int.reduceSub, Int.reduceMul, Int.reduceLT, Int.reduceLE, Int.reduceEq, Int.reduceNe, Int.reduceToNat, Int.reduceNeg, go_sem, r5]
        · simp (maxSteps := 1000000) (disch := (first | omega | (simp only [nx_alloc, nx_upd, len_cons, len_nil, List.length_set, List.length_map, List.length_append] <;> omega) | fail)) only [Nat.reduceAdd, Nat.reduceSub, Nat.reduceMul, Nat.reduceLT, Nat.reduceLeDiff, Nat.reduceEqDiff, ↓reduceIte, reduceCtorEq, Int.reduceAdd, Int.reduceSub, Int.reduceMul, Int.reduceLT, Int.reduceLE, Int.reduceEq, Int.reduceNe, Int.reduceToNat, Int.reduceNeg, go_sem, r6]
        · simp (maxSteps := 1000000) (disch := (first | omega | (simp only [nx_alloc, nx_upd, len_cons, len_nil, List.length_set, List.length_map, List.length_append] <;> omega) | fail)) only [Nat.reduceAdd, Nat.reduceSub, Nat.reduceMul, Nat.reduceLT, Nat.reduceLeDiff, Nat.reduceEqDiff, ↓reduceIte, reduceCtorEq, Int.reduceAdd, Int.reduceSub, Int.reduceMul, Int.reduceLT, Int.reduceLE, Int.reduceEq, Int.reduceNe, Int.reduceToNat, Int.reduceNeg, go_sem]
        · simp (maxSteps := 1000000) (disch := (first | omega | (simp only [nx_alloc, nx_upd, len_cons, len_nil, List.length_set, List.length_map, List.length_append] <;> omega) | fail)) only [Nat.reduceAdd, Nat.reduceSub, Nat.reduceMul, Nat.reduceLT, Nat.reduceLeDiff, Nat.reduceEqDiff, ↓reduceIte, reduceCtorEq, Int.reduceAdd, Int.reduceSub, Int.reduceMul, Int.reduceLT, Int.reduceLE, Int.reduceEq, Int.reduceNe, Int.reduceToNat, Int.reduceNeg, go_sem]
        · rw [St.get_upd, if_neg (by omega), get_upd_same]
    · refine Ords.split 5 10 rfl ?_ ?_
      · obtain ⟨D1, hD1⟩ : ∃ D, D = A'.alloc (.cells [.slice none 0 0, .int .u32 0, .int .u32 0, .int .u32 0, .int .i64 0, .slice none 0 0, .int .u32 0, .slice none 0 0, .slice none 0 0, .slice none 0 0, .int .i64 0, .slice none 0 0, .int .u32 0, .slice none 0 0, .slice none 0 0, .slice none 0 0, .int .i64 0, .slice none 0 0, .int .u32 0, .slice none 0 0, .slice none 0 0, .slice none 0 0] 50 (some 0)) := ⟨_, rfl⟩
        have oS1 : Over A' D1 := hD1 ▸ (Over.refl _).alloc _
        have nD1 : D1.next = A'.next + 1 := by rw [hD1, nx_alloc]
        have dk1_0 : D1.get b4 = some (.cells cs 50 (some 0)) := by rw [oS1.get _ (by omega)]; exact hg
        have dk1_1 : D1.get b = some (.cells cells e' m) := by rw [oS1.get _ (by omega)]; exact hqb
        have oD : Over A' D1 := oS1
        have nD : D1.next = A'.next + 1 := nD1
        have dx : D1.get A'.next = some (.cells [.slice none 0 0, .int .u32 0, .int .u32 0, .int .u32 0, .int .i64 0, .slice none 0 0, .int .u32 0, .slice none 0 0, .slice none 0 0, .slice none 0 0, .int .i64 0, .slice none 0 0, .int .u32 0, .slice none 0 0, .slice none 0 0, .slice none 0 0, .int .i64 0, .slice none 0 0, .int .u32 0, .slice none 0 0, .slice none 0 0, .slice none 0 0] 50 (some 0)) := by rw [hD1]; exact get_alloc_same ..
        have gD : Ge (A'.hide (A.next :: b4 :: rbL u)) (D1.hide (A'.next :: A.next :: b4 :: rbL u)) := Ge.hide oD.next (fun b hb hbL => ⟨by simp only [List.mem_cons, List.not_mem_nil, or_false, not_or] at hbL ⊢; exact ⟨by omega, hbL⟩, oD.get b hb⟩)
        have hap := rapply_ok w0 D1 (A'.next :: A.next :: b4 :: rbL u) (fun b hb => by rcases List.mem_cons.1 hb with rfl | hb; omega; (have := hLB b hb; omega)) (allS (l.take i)).1 cs r qc (hS.ge gD) (hrq.ge gD) hrok h8
        refine Ords.cut [0, 1, 2, 3, 4, 9] [6, 7, 8, 10, 11, 12] 5 (by kernel_rfl) ?_
        refine Ords.run [⟨false, [], [0, 1]⟩, ⟨false, [], [0, 1]⟩, ⟨false, [], [0, 1]⟩, ⟨false, [1, 2], [0, 1]⟩, ⟨false, [3, 1, 2], [0, 1]⟩, ⟨true, [], [0]⟩] [A', D1] 1 (by kernel_rfl) (by kernel_rfl) rfl ?_
        simp (maxSteps := 1000000) (disch := (first | omega | (simp only [nx_alloc, nx_upd, len_cons, len_nil, List.length_set, List.length_map, List.length_append] <;> omega) | fail)) only [Nat.reduceAdd, Nat.reduceSub, Nat.reduceMul, Nat.reduceLT, Nat.reduceLeDiff, Nat.reduceEqDiff, ↓reduceIte, reduceCtorEq, Int.reduceAdd, Int.reduceSub, Int.reduceMul, Int.reduceLT, Int.reduceLE, Int.reduceEq, Int.reduceNe, Int.reduceToNat, Int.reduceNeg, go_sem, subOps_toList, getD_arr0, getD_arrS, reO_mk, reO_mkG, ixOf, Option.bind_none, Option.map_none, thenN_normal, after_ret, r0, r4, r6, hg, htk, hlda, q2, hqb, hldq, nD1, dk1_0, dk1_1, ← hD1]
        refine hap.mono ?_
        rintro _ A2 ⟨cs', rc', rfl, o2, hS2, hR2⟩
        have n2 := o2.next
        have hxl := hS2.len.1
        have hxc := hS2.len.2
        have hyl := hR2.len
        have hyc := hR2.cell
        obtain ⟨G1, hG1⟩ : ∃ G, G = A2.alloc (.cells [.int .i64 0, .slice none 0 0, .int .u32 0, .slice none 0 0, .slice none 0 0, .slice none 0 0] 40 (some 0)) := ⟨_, rfl⟩
        have oT1 : Over A2 G1 := hG1 ▸ (Over.refl _).alloc _
        have nG1 : G1.next = A2.next + 1 := by rw [hG1, nx_alloc]
        obtain ⟨G, hGG⟩ : ∃ G, G = G1 := ⟨_, rfl⟩
        have oG : Over A2 G := hGG ▸ oT1
        have nG : G.next = A2.next + 1 := hGG ▸ nG1
        have gx : G.get A'.next = some (.cells [.slice none 0 0, .int .u32 0, .int .u32 0, .int .u32 0, .int .i64 0, .slice none 0 0, .int .u32 0, .slice none 0 0, .slice none 0 0, .slice none 0 0, .int .i64 0, .slice none 0 0, .int .u32 0, .slice none 0 0, .slice none 0 0, .slice none 0 0, .int .i64 0, .slice none 0 0, .int .u32 0, .slice none 0 0, .slice none 0 0, .slice none 0 0] 50 (some 0)) := by rw [oG.get _ (by omega), o2.get _ (by omega)]; exact dx
        have gy : G.get A2.next = some (.cells [.int .i64 0, .slice none 0 0, .int .u32 0, .slice none 0 0, .slice none 0 0, .slice none 0 0] 40 (some 0)) := by rw [hGG]; rw [hG1]; exact get_alloc_same ..
        have st1 := stN (n := 22) (X := G) (b := A'.next) (z := [.slice none 0 0, .int .u32 0, .int .u32 0, .int .u32 0, .int .i64 0, .slice none 0 0, .int .u32 0, .slice none 0 0, .slice none 0 0, .slice none 0 0, .int .i64 0, .slice none 0 0, .int .u32 0, .slice none 0 0, .slice none 0 0, .slice none 0 0, .int .i64 0, .slice none 0 0, .int .u32 0, .slice none 0 0, .slice none 0 0, .slice none 0 0]) (e := 50) rfl hxl hxc
        have st2 := stN (n := 6) (X := G.upd A'.next (some (.cells cs' 50 (some 0)))) (b := A2.next) (z := [.int .i64 0, .slice none 0 0, .int .u32 0, .slice none 0 0, .slice none 0 0, .slice none 0 0]) (e := 40) rfl hyl hyc
        have gy2 : (G.upd A'.next (some (.cells cs' 50 (some 0)))).get A2.next = some (.cells [.int .i64 0, .slice none 0 0, .int .u32 0, .slice none 0 0, .slice none 0 0, .slice none 0 0] 40 (some 0)) := by rw [St.get_upd, if_neg (by omega)]; exact gy
        rw [hGG] at gx gy gy2 st1 st2 oG nG
        simp (maxSteps := 1000000) (disch := (first | omega | (simp only [nx_alloc, nx_upd, len_cons, len_nil, List.length_set, List.length_map, List.length_append] <;> omega) | fail)) only [Nat.reduceAdd, Nat.reduceSub, Nat.reduceMul, Nat.reduceLT, Nat.reduceLeDiff, Nat.reduceEqDiff, ↓reduceIte, reduceCtorEq, Int.reduceAdd, Int.reduceSub, Int.reduceMul, Int.reduceLT, Int.reduceLE, Int.reduceEq, Int.reduceNe, Int.reduceToNat, Int.reduceNeg, go_sem]
        refine Ords.run [⟨false, [], [0, 1]⟩, ⟨false, [0], [0, 1]⟩, ⟨false, [0], [0, 1, 2]⟩, ⟨true, [], [0]⟩, ⟨true, [1, 0, 3], [1]⟩, ⟨true, [3, 2, 4, 0, 1], [2]⟩] [A2, G1, G1.upd A'.next (some (.cells cs' 50 (some 0))), (G1.upd A'.next (some (.cells cs' 50 (some 0)))).upd A2.next (some (.cells rc' 40 (some 0)))] 3 (by kernel_rfl) (by kernel_rfl) rfl ?_
        simp (maxSteps := 1000000) (disch := (first | omega | (simp only [nx_alloc, nx_upd, len_cons, len_nil, List.length_set, List.length_map, List.length_append] <;> omega) | fail)) only [Nat.reduceAdd, Nat.reduceSub, Nat.reduceMul, Nat.reduceLT, Nat.reduceLeDiff, Nat.reduceEqDiff, ↓reduceIte, reduceCtorEq, Int.reduceAdd, Int.reduceSub, Int.reduceMul, Int.reduceLT, Int.reduceLE, Int.reduceEq, Int.reduceNe, Int.reduceToNat, Int.reduceNeg, go_sem, subOps_toList, getD_arr0, getD_arrS, reO_mk, reO_mkG, ixOf, Option.bind_none, Option.map_none, thenN_normal, after_ret, gx, gy, gy2, st1, st2, nG1, ← hG1]
        have oE : Over A' ((G1.upd A'.next (some (.cells cs' 50 (some 0)))).upd A2.next (some (.cells rc' 40 (some 0)))) := by refine ⟨by (try simp only [nx_upd]); omega, fun b hb => ?_⟩; rw [St.get_upd, if_neg (by omega), St.get_upd, if_neg (by omega), oG.get b (by omega), o2.get b (by omega), oD.get b hb]
        have gE : Ge (A2.hide (A'.next :: A.next :: b4 :: rbL u)) (((G1.upd A'.next (some (.cells cs' 50 (some 0)))).upd A2.next (some (.cells rc' 40 (some 0)))).hide (A2.next :: A'.next :: A.next :: b4 :: rbL u)) := Ge.hide (by (try simp only [nx_upd]); omega) (fun b hb hbL => by
          have e1 : b ≠ A'.next := by intro e; apply hbL; rw [e]; simp
          have e2 : b ≠ A2.next := by omega
          refine ⟨?_, by rw [St.get_upd, if_neg e2, St.get_upd, if_neg e1, oG.get b hb]⟩
          simp only [List.mem_cons, not_or] at hbL ⊢
          exact ⟨e2, e1, hbL.2⟩)
        refine ⟨_, A'.next, A2.next, cs', rc', rfl, ?_, ?_, ?_, ?_, ?_, ?_, ?_, (by omega), (by omega), (by omega), ?_, get_upd_same .., oE, hS2.ge gE, hR2.ge gE⟩
        · simp (maxSteps := 1000000) (disch := (first | omega | (simp only [nx_alloc, nx_upd, len_cons, len_nil, List.length_set, List.length_map, List.length_append] <;> omega) | fail)) only [Nat.reduceAdd, Nat.reduceSub, Nat.reduceMul, Nat.reduceLT, Nat.reduceLeDiff, Nat.reduceEqDiff, ↓reduceIte, reduceCtorEq, Int.reduceAdd, Int.reduceSub, Int.reduceMul, Int.reduceLT, Int.reduceLE, Int.reduceEq, Int.reduceNe, Int.reduceToNat, Int.reduceNeg, go_sem, r0]
        · simp (maxSteps := 1000000) (disch := (first | omega | (simp only [nx_alloc, nx_upd, len_cons, len_nil, List.length_set, List.length_map, List.length_append] <;> omega) | fail)) only [Nat.reduceAdd, Nat.reduceSub, Nat.reduceMul, Nat.reduceLT, Nat.reduceLeDiff, Nat.reduceEqDiff, ↓reduceIte, reduceCtorEq, Int.reduceAdd, Int.reduceSub, Int.reduceMul, Int.reduceLT, Int.reduceLE, Int.reduceEq, Int.reduceNe, Int.reduceToNat, Int.reduceNeg, go_sem, r2]
        · simp (maxSteps := 1000000) (disch := (first | omega | (simp only [nx_alloc, nx_upd, len_cons, len_nil, List.length_set, List.length_map, List.length_append] <;> omega) | fail)) only [Nat.reduceAdd, Nat.reduceSub, Nat.reduceMul, Nat.reduceLT, Nat.reduceLeDiff, Nat.reduceEqDiff, ↓reduceIte, reduceCtorEq, Int.reduceAdd, Int.reduceSub, Int.reduceMul, Int.reduceLT, Int.reduceLE, Int.reduceEq, Int.reduceNe, Int.reduceToNat, Int.reduceNeg, go_sem, r4]
        · simp (maxSteps := 1000000) (disch := (first | omega | (simp only [nx_alloc, nx_upd, len_cons, len_nil, List.length_set, List.length_map, List.length_append] <;> omega) | fail)) only [Nat.reduceAdd, Nat.reduceSub, Nat.reduceMul, Nat.reduceLT, Nat.reduceLeDiff, Nat.reduceEqDiff, ↓reduceIte, reduceCtorEq, Int.reduceAdd, Int.reduceSub, Int.reduceMul, Int.reduceLT, Int.reduceLE, Int.reduceEq, Int.reduceNe, Int.reduceToNat, Int.reduceNeg, go_sem, r5]
        · simp (maxSteps := 1000000) (disch := (first | omega | (simp only [nx_alloc, nx_upd, len_cons, len_nil, List.length_set, List.length_map, List.length_append] <;> omega) | fail)) only [Nat.reduceAdd, Nat.reduceSub, Nat.reduceMul, Nat.reduceLT, Nat.reduceLeDiff, Nat.reduceEqDiff, ↓reduceIte, reduceCtorEq, Int.reduceAdd, Int.reduceSub, Int.reduceMul, Int.reduceLT, Int.reduceLE, Int.reduceEq, Int.reduceNe, Int.reduceToNat, Int.reduceNeg, go_sem, r6]
        · simp (maxSteps := 1000000) (disch := (first | omega | (simp only [nx_alloc, nx_upd, len_cons, len_nil, List.length_set, List.length_map, List.length_append] <;> omega) | fail)) only [Nat.reduceAdd, Nat.reduceSub, Nat.reduceMul, Nat.reduceLT, Nat.reduceLeDiff, Nat.reduceEqDiff, ↓reduceIte, reduceCtorEq, Int.reduceAdd, Int.reduceSub, Int.reduceMul, Int.reduceLT, Int.reduceLE, Int.reduceEq, Int.reduceNe, Int.reduceToNat, Int.reduceNeg, go_sem]
        · simp (maxSteps := 1000000) (disch := (first | omega | (simp only [nx_alloc, nx_upd, len_cons, len_nil, List.length_set, List.length_map, List.length_append] <;> omega) | fail)) only [Nat.reduceAdd, Nat.reduceSub, Nat.reduceMul, Nat.reduceLT, Nat.reduceLeDiff, Nat.reduceEqDiff, ↓reduceIte, reduceCtorEq, Int.reduceAdd, Int.reduceSub, Int.reduceMul, Int.reduceLT, Int.reduceLE, Int.reduceEq, Int.reduceNe, Int.reduceToNat, Int.reduceNeg, go_sem]
        · rw [St.get_upd, if_neg (by omega), get_upd_same]
      · refine Ords.split 9 10 rfl ?_ ?_
        · obtain ⟨D1, hD1⟩ : ∃ D, D = A'.alloc (.cells [.slice none 0 0, .int .u32 0, .int .u32 0, .int .u32 0, .int .i64 0, .slice none 0 0, .int .u32 0, .slice none 0 0, .slice none 0 0, .slice none 0 0, .int .i64 0, .slice none 0 0, .int .u32 0, .slice none 0 0, .slice none 0 0, .slice none 0 0, .int .i64 0, .slice none 0 0, .int .u32 0, .slice none 0 0, .slice none 0 0, .slice none 0 0] 50 (some 0)) := ⟨_, rfl⟩
          have oS1 : Over A' D1 := hD1 ▸ (Over.refl _).alloc _
          have nD1 : D1.next = A'.next + 1 := by rw [hD1, nx_alloc]
          have dk1_0 : D1.get b4 = some (.cells cs 50 (some 0)) := by rw [oS1.get _ (by omega)]; exact hg
          have dk1_1 : D1.get b = some (.cells cells e' m) := by rw [oS1.get _ (by omega)]; exact hqb
          obtain ⟨D2, hD2⟩ : ∃ D, D = D1.alloc (.cells [.int .i64 0, .slice none 0 0, .int .u32 0, .slice none 0 0, .slice none 0 0, .slice none 0 0] 40 (some 0)) := ⟨_, rfl⟩
          have oS2 : Over D1 D2 := hD2 ▸ (Over.refl _).alloc _
          have nD2 : D2.next = A'.next + 2 := by rw [hD2, nx_alloc, nD1]
          have dk2_0 : D2.get b4 = some (.cells cs 50 (some 0)) := by rw [oS2.get _ (by omega)]; exact dk1_0
          have dk2_1 : D2.get b = some (.cells cells e' m) := by rw [oS2.get _ (by omega)]; exact dk1_1
          have oD : Over A' D2 := oS1.trans oS2
          have nD : D2.next = A'.next + 2 := nD2
          have dx : D2.get A'.next = some (.cells [.slice none 0 0, .int .u32 0, .int .u32 0, .int .u32 0, .int .i64 0, .slice none 0 0, .int .u32 0, .slice none 0 0, .slice none 0 0, .slice none 0 0, .int .i64 0, .slice none 0 0, .int .u32 0, .slice none 0 0, .slice none 0 0, .slice none 0 0, .int .i64 0, .slice none 0 0, .int .u32 0, .slice none 0 0, .slice none 0 0, .slice none 0 0] 50 (some 0)) := by rw [oS2.get _ (by omega)]; rw [hD1]; exact get_alloc_same ..
          have dy : D2.get (A'.next + 1) = some (.cells [.int .i64 0, .slice none 0 0, .int .u32 0, .slice none 0 0, .slice none 0 0, .slice none 0 0] 40 (some 0)) := by rw [hD2, show A'.next + 1 = D1.next by omega]; exact get_alloc_same ..
          have gD : Ge (A'.hide (A.next :: b4 :: rbL u)) (D2.hide (A'.next :: (A'.next + 1) :: A.next :: b4 :: rbL u)) := Ge.hide oD.next (fun b hb hbL => ⟨by simp only [List.mem_cons, List.not_mem_nil, or_false, not_or] at hbL ⊢; refine ⟨by omega, by omega, hbL⟩, oD.get b hb⟩)
          have hap := rapply_ok w0 D2 (A'.next :: (A'.next + 1) :: A.next :: b4 :: rbL u) (fun b hb => by rcases List.mem_cons.1 hb with rfl | hb; omega; rcases List.mem_cons.1 hb with rfl | hb; omega; (have := hLB b hb; omega)) (allS (l.take i)).1 cs r qc (hS.ge gD) (hrq.ge gD) hrok h8
          refine Ords.cut [0, 1, 2, 3, 4, 9, 10] [6, 7, 8, 11, 12] 5 (by kernel_rfl) ?_
          refine Ords.run [⟨false, [], [0, 1, 2]⟩, ⟨false, [], [0, 1, 2]⟩, ⟨false, [], [0, 1, 2]⟩, ⟨false, [1, 2], [0, 1, 2]⟩, ⟨false, [3, 1, 2], [0, 1, 2]⟩, ⟨true, [], [0]⟩, ⟨true, [5], [1]⟩] [A', D1, D2] 2 (by kernel_rfl) (by kernel_rfl) rfl ?_
          simp (maxSteps := 1000000) (disch := (first | omega | (simp only [nx_alloc, nx_upd, len_cons, len_nil, List.length_set, List.length_map, List.length_append] <;> omega) | fail)) only [Nat.reduceAdd, Nat.reduceSub, Nat.reduceMul, Nat.reduceLT, Nat.reduceLeDiff, Nat.reduceEqDiff, ↓reduceIte, reduceCtorEq, Int.reduceAdd, Int.reduceSub, Int.reduceMul, Int.reduceLT, Int.reduceLE, Int.reduceEq, Int.reduceNe, Int.reduceToNat, Int.reduceNeg, go_sem, subOps_toList, getD_arr0, getD_arrS, reO_mk, reO_mkG, ixOf, Option.bind_none, Option.map_none, thenN_normal, after_ret, r0, r4, r6, hg, htk, hlda, q2, hqb, hldq, nD1, dk1_0, dk1_1, nD2, dk2_0, dk2_1, ← hD1, ← hD2]
          refine hap.mono ?_
          rintro _ A2 ⟨cs', rc', rfl, o2, hS2, hR2⟩
          have n2 := o2.next
          have hxl := hS2.len.1
          have hxc := hS2.len.2
          have hyl := hR2.len
          have hyc := hR2.cell
          obtain ⟨G, hGG⟩ : ∃ G, G = A2 := ⟨_, rfl⟩
          have oG : Over A2 G := hGG ▸ Over.refl _
          have nG : G.next = A2.next + 0 := hGG ▸ rfl
          have gx : G.get A'.next = some (.cells [.slice none 0 0, .int .u32 0, .int .u32 0, .int .u32 0, .int .i64 0, .slice none 0 0, .int .u32 0, .slice none 0 0, .slice none 0 0, .slice none 0 0, .int .i64 0, .slice none 0 0, .int .u32 0, .slice none 0 0, .slice none 0 0, .slice none 0 0, .int .i64 0, .slice none 0 0, .int .u32 0, .slice none 0 0, .slice none 0 0, .slice none 0 0] 50 (some 0)) := by rw [oG.get _ (by omega), o2.get _ (by omega)]; exact dx
          have gy : G.get (A'.next + 1) = some (.cells [.int .i64 0, .slice none 0 0, .int .u32 0, .slice none 0 0, .slice none 0 0, .slice none 0 0] 40 (some 0)) := by rw [oG.get _ (by omega), o2.get _ (by omega)]; exact dy
          have st1 := stN (n := 22) (X := G) (b := A'.next) (z := [.slice none 0 0, .int .u32 0, .int .u32 0, .int .u32 0, .int .i64 0, .slice none 0 0, .int .u32 0, .slice none 0 0, .slice none 0 0, .slice none 0 0, .int .i64 0, .slice none 0 0, .int .u32 0, .slice none 0 0, .slice none 0 0, .slice none 0 0, .int .i64 0, .slice none 0 0, .int .u32 0, .slice none 0 0, .slice none 0 0, .slice none 0 0]) (e := 50) rfl hxl hxc
          have st2 := stN (n := 6) (X := G.upd A'.next (some (.cells cs' 50 (some 0)))) (b := (A'.next + 1)) (z := [.int .i64 0, .slice none 0 0, .int .u32 0, .slice none 0 0, .slice none 0 0, .slice none 0 0]) (e := 40) rfl hyl hyc
          have gy2 : (G.upd A'.next (some (.cells cs' 50 (some 0)))).get (A'.next + 1) = some (.cells [.int .i64 0, .slice none 0 0, .int .u32 0, .slice none 0 0, .slice none 0 0, .slice none 0 0] 40 (some 0)) := by rw [St.get_upd, if_neg (by omega)]; exact gy
          rw [hGG] at gx gy gy2 st1 st2 oG nG
          simp (maxSteps := 1000000) (disch := (first | omega | (simp only [nx_alloc, nx_upd, len_cons, len_nil, List.length_set, List.length_map, List.length_append] <;> omega) | fail)) only [Nat.reduceAdd, Nat.reduceSub, Nat.reduceMul, Nat.reduceLT, Nat.reduceLeDiff, Nat.reduceEqDiff, ↓reduceIte, reduceCtorEq, Int.reduceAdd, Int.reduceSub, Int.reduceMul, Int.reduceLT, Int.reduceLE, Int.reduceEq, Int.reduceNe, Int.reduceToNat, Int.reduceNeg, go_sem]
          refine Ords.run [⟨false, [], [0]⟩, ⟨false, [0], [0]⟩, ⟨false, [0], [0, 1]⟩, ⟨true, [1, 0], [0]⟩, ⟨true, [2, 3, 0, 1], [1]⟩] [A2, A2.upd A'.next (some (.cells cs' 50 (some 0))), (A2.upd A'.next (some (.cells cs' 50 (some 0)))).upd (A'.next + 1) (some (.cells rc' 40 (some 0)))] 2 (by kernel_rfl) (by kernel_rfl) rfl ?_
          simp (maxSteps := 1000000) (disch := (first | omega | (simp only [nx_alloc, nx_upd, len_cons, len_nil, List.length_set, List.length_map, List.length_append] <;> omega) | fail)) only [Nat.reduceAdd, Nat.reduceSub, Nat.reduceMul, Nat.reduceLT, Nat.reduceLeDiff, Nat.reduceEqDiff, ↓reduceIte, reduceCtorEq, Int.reduceAdd, Int.reduceSub, Int.reduceMul, Int.reduceLT, Int.reduceLE, Int.reduceEq, Int.reduceNe, Int.reduceToNat, Int.reduceNeg, go_sem, subOps_toList, getD_arr0, getD_arrS, reO_mk, reO_mkG, ixOf, Option.bind_none, Option.map_none, thenN_normal, after_ret, gx, gy, gy2, st1, st2]
          have oE : Over A' ((A2.upd A'.next (some (.cells cs' 50 (some 0)))).upd (A'.next + 1) (some (.cells rc' 40 (some 0)))) := by refine ⟨by (try simp only [nx_upd]); omega, fun b hb => ?_⟩; rw [St.get_upd, if_neg (by omega), St.get_upd, if_neg (by omega), oG.get b (by omega), o2.get b (by omega), oD.get b hb]
          have gE : Ge (A2.hide (A'.next :: (A'.next + 1) :: A.next :: b4 :: rbL u)) (((A2.upd A'.next (some (.cells cs' 50 (some 0)))).upd (A'.next + 1) (some (.cells rc' 40 (some 0)))).hide ((A'.next + 1) :: A'.next :: A.next :: b4 :: rbL u)) := Ge.hide (by (try simp only [nx_upd]); omega) (fun b hb hbL => by
            have e1 : b ≠ A'.next := by intro e; apply hbL; rw [e]; simp
            have e2 : b ≠ (A'.next + 1) := by intro e; apply hbL; rw [e]; simp
            refine ⟨?_, by rw [St.get_upd, if_neg e2, St.get_upd, if_neg e1, oG.get b hb]⟩
            simp only [List.mem_cons, not_or] at hbL ⊢
            exact ⟨e2, e1, hbL.2.2⟩)
          refine ⟨_, A'.next, (A'.next + 1), cs', rc', rfl, ?_, ?_, ?_, ?_, ?_, ?_, ?_, (by omega), (by omega), (by omega), ?_, get_upd_same .., oE, hS2.ge gE, hR2.ge gE⟩
          · simp (maxSteps := 1000000) (disch := (first | omega | (simp only [nx_alloc, nx_upd, len_cons, len_nil, List.length_set, List.length_map, List.length_append] <;> omega) | fail)) only [Nat.reduceAdd, Nat.reduceSub, Nat.reduceMul, Nat.reduceLT, Nat.reduceLeDiff, Nat.reduceEqDiff, ↓reduceIte, reduceCtorEq, Int.reduceAdd, Int.reduceSub, Int.reduceMul, Int.reduceLT, Int.reduceLE, Int.reduceEq, Int.reduceNe, Int.reduceToNat, Int.reduceNeg, go_sem, r0]
          · simp (maxSteps := 1000000) (disch := (first | omega | (simp only [nx_alloc, nx_upd, len_cons, len_nil, List.length_set, List.length_map, List.length_append] <;> omega) | fail)) only [Nat.reduceAdd, Nat.reduceSub, Nat.reduceMul, Nat.reduceLT, Nat.reduceLeDiff, Nat.reduceEqDiff, ↓reduceIte, reduceCtorEq, Int.reduceAdd, Int.reduceSub, Int.reduceMul, Int.reduceLT, Int.reduceLE, Int.reduceEq, Int.reduceNe, Int.reduceToNat, Int.reduceNeg, go_sem, r2]
          · simp (maxSteps := 1000000) (disch := (first | omega | (simp only [nx_alloc, nx_upd, len_cons, len_nil, List.length_set, List.length_map, List.length_append] <;> omega) | fail)) only [Nat.reduceAdd, Nat.reduceSub, Nat.reduceMul, Nat.reduceLT, Nat.reduceLeDiff, Nat.reduceEqDiff, ↓reduceIte, reduceCtorEq, Int.reduceAdd, Int.reduceSub, Int.reduceMul, Int.reduceLT, Int.reduceLE, Int.reduceEq, Int.reduceNe, Int.reduceToNat, Int.reduceNeg, go_sem, r4]
          · simp (maxSteps := 1000000) (disch := (first | omega | (simp only [nx_alloc, nx_upd, len_cons, len_nil, List.length_set, List.length_map, List.length_append] <;> omega) | fail)) only [Nat.reduceAdd, Nat.reduceSub, Nat.reduceMul, Nat.reduceLT, Nat.reduceLeDiff, Nat.reduceEqDiff, ↓reduceIte, reduceCtorEq, Int.reduceAdd, Int.reduceSub, Int.reduceMul, Int.reduceLT, Int.reduceLE, Int.reduceEq, Int.reduceNe, Int.reduceToNat, Int.reduceNeg, go_sem, r5]
          · simp (maxSteps := 1000000) (disch := (first | omega | (simp only [nx_alloc, nx_upd, len_cons, len_nil, List.length_set, List.length_map, List.length_append] <;> omega) | fail)) only [Nat.reduceAdd, Nat.reduceSub, Nat.reduceMul, Nat.reduceLT, Nat.reduceLeDiff, Nat.reduceEqDiff, ↓reduceIte, reduceCtorEq, Int.reduceAdd, Int.reduceSub, Int.reduceMul, Int.reduceLT, Int.reduceLE, Int.reduceEq, Int.reduceNe, Int.reduceToNat, Int.reduceNeg, go_sem, r6]
          · simp (maxSteps := 1000000) (disch := (first | omega | (simp only [nx_alloc, nx_upd, len_cons, len_nil, List.length_set, List.length_map, List.length_append] <;> omega) | fail)) only [Nat.reduceAdd, Nat.reduceSub, Nat.reduceMul, Nat.reduceLT, Nat.reduceLeDiff, Nat.reduceEqDiff, ↓reduceIte, reduceCtorEq, Int.reduceAdd, Int.reduceSub, Int.reduceMul, Int.reduceLT, Int.reduceLE, Int.reduceEq, Int.reduceNe, Int.reduceToNat, Int.reduceNeg, go_sem]
          · simp (maxSteps := 1000000) (disch := (first | omega | (simp only [nx_alloc, nx_upd, len_cons, len_nil, List.length_set, List.length_map, List.length_append] <;> omega) | fail)) only [Nat.reduceAdd, Nat.reduceSub, Nat.reduceMul, Nat.reduceLT, Nat.reduceLeDiff, Nat.reduceEqDiff, ↓reduceIte, reduceCtorEq, Int.reduceAdd, Int.reduceSub, Int.reduceMul, Int.reduceLT, Int.reduceLE, Int.reduceEq, Int.reduceNe, Int.reduceToNat, Int.reduceNeg, go_sem]
          · rw [St.get_upd, if_neg (by omega), get_upd_same]
        · obtain ⟨D1, hD1⟩ : ∃ D, D = A'.alloc (.cells [.int .i64 0, .slice none 0 0, .int .u32 0, .slice none 0 0, .slice none 0 0, .slice none 0 0] 40 (some 0)) := ⟨_, rfl⟩
          have oS1 : Over A' D1 := hD1 ▸ (Over.refl _).alloc _
          have nD1 : D1.next = A'.next + 1 := by rw [hD1, nx_alloc]
          have dk1_0 : D1.get b4 = some (.cells cs 50 (some 0)) := by rw [oS1.get _ (by omega)]; exact hg
          have dk1_1 : D1.get b = some (.cells cells e' m) := by rw [oS1.get _ (by omega)]; exact hqb
          obtain ⟨D2, hD2⟩ : ∃ D, D = D1.alloc (.cells [.slice none 0 0, .int .u32 0, .int .u32 0, .int .u32 0, .int .i64 0, .slice none 0 0, .int .u32 0, .slice none 0 0, .slice none 0 0, .slice none 0 0, .int .i64 0, .slice none 0 0, .int .u32 0, .slice none 0 0, .slice none 0 0, .slice none 0 0, .int .i64 0, .slice none 0 0, .int .u32 0, .slice none 0 0, .slice none 0 0, .slice none 0 0] 50 (some 0)) := ⟨_, rfl⟩
          have oS2 : Over D1 D2 := hD2 ▸ (Over.refl _).alloc _
          have nD2 : D2.next = A'.next + 2 := by rw [hD2, nx_alloc, nD1]
          have dk2_0 : D2.get b4 = some (.cells cs 50 (some 0)) := by rw [oS2.get _ (by omega)]; exact dk1_0
          have dk2_1 : D2.get b = some (.cells cells e' m) := by rw [oS2.get _ (by omega)]; exact dk1_1
          have oD : Over A' D2 := oS1.trans oS2
          have nD : D2.next = A'.next + 2 := nD2
          have dy : D2.get A'.next = some (.cells [.int .i64 0, .slice none 0 0, .int .u32 0, .slice none 0 0, .slice none 0 0, .slice none 0 0] 40 (some 0)) := by rw [oS2.get _ (by omega)]; rw [hD1]; exact get_alloc_same ..
          have dx : D2.get (A'.next + 1) = some (.cells [.slice none 0 0, .int .u32 0, .int .u32 0, .int .u32 0, .int .i64 0, .slice none 0 0, .int .u32 0, .slice none 0 0, .slice none 0 0, .slice none 0 0, .int .i64 0, .slice none 0 0, .int .u32 0, .slice none 0 0, .slice none 0 0, .slice none 0 0, .int .i64 0, .slice none 0 0, .int .u32 0, .slice none 0 0, .slice none 0 0, .slice none 0 0] 50 (some 0)) := by rw [hD2, show A'.next + 1 = D1.next by omega]; exact get_alloc_same ..
          have gD : Ge (A'.hide (A.next :: b4 :: rbL u)) (D2.hide (A'.next :: (A'.next + 1) :: A.next :: b4 :: rbL u)) := Ge.hide oD.next (fun b hb hbL => ⟨by simp only [List.mem_cons, List.not_mem_nil, or_false, not_or] at hbL ⊢; refine ⟨by omega, by omega, hbL⟩, oD.get b hb⟩)
          have hap := rapply_ok w0 D2 (A'.next :: (A'.next + 1) :: A.next :: b4 :: rbL u) (fun b hb => by rcases List.mem_cons.1 hb with rfl | hb; omega; rcases List.mem_cons.1 hb with rfl | hb; omega; (have := hLB b hb; omega)) (allS (l.take i)).1 cs r qc (hS.ge gD) (hrq.ge gD) hrok h8
          refine Ords.cut [0, 1, 2, 3, 4, 9, 10] [6, 7, 8, 11, 12] 5 (by kernel_rfl) ?_
          refine Ords.run [⟨false, [], [0, 1, 2]⟩, ⟨false, [], [0, 1, 2]⟩, ⟨false, [], [0, 1, 2]⟩, ⟨false, [1, 2], [0, 1, 2]⟩, ⟨false, [3, 1, 2], [0, 1, 2]⟩, ⟨true, [6], [1]⟩, ⟨true, [], [0]⟩] [A', D1, D2] 2 (by kernel_rfl) (by kernel_rfl) rfl ?_
          simp (maxSteps := 1000000) (disch := (first | omega | (simp only [nx_alloc, nx_upd, len_cons, len_nil, List.length_set, List.length_map, List.length_append] <;> omega) | fail)) only [Nat.reduceAdd, Nat.reduceSub, Nat.reduceMul, Nat.reduceLT, Nat.reduceLeDiff, Nat.reduceEqDiff, ↓reduceIte, reduceCtorEq, Int.reduceAdd, Int.reduceSub, Int.reduceMul, Int.reduceLT, Int.reduceLE, Int.reduceEq, Int.reduceNe, Int.reduceToNat, Int.reduceNeg, go_sem, subOps_toList, getD_arr0, getD_arrS, reO_mk, reO_mkG, ixOf, Option.bind_none, Option.map_none, thenN_normal, after_ret, r0, r4, r6, hg, htk, hlda, q2, hqb, hldq, nD1, dk1_0, dk1_1, nD2, dk2_0, dk2_1, ← hD1, ← hD2]
          refine hap.mono ?_
          rintro _ A2 ⟨cs', rc', rfl, o2, hS2, hR2⟩
          have n2 := o2.next
          have hxl := hS2.len.1
          have hxc := hS2.len.2
          have hyl := hR2.len
          have hyc := hR2.cell
          obtain ⟨G, hGG⟩ : ∃ G, G = A2 := ⟨_, rfl⟩
          have oG : Over A2 G := hGG ▸ Over.refl _
          have nG : G.next = A2.next + 0 := hGG ▸ rfl
          have gx : G.get (A'.next + 1) = some (.cells [.slice none 0 0, .int .u32 0, .int .u32 0, .int .u32 0, .int .i64 0, .slice none 0 0, .int .u32 0, .slice none 0 0, .slice none 0 0, .slice none 0 0, .int .i64 0, .slice none 0 0, .int .u32 0, .slice none 0 0, .slice none 0 0, .slice none 0 0, .int .i64 0, .slice none 0 0, .int .u32 0, .slice none 0 0, .slice none 0 0, .slice none 0 0] 50 (some 0)) := by rw [oG.get _ (by omega), o2.get _ (by omega)]; exact dx
          have gy : G.get A'.next = some (.cells [.int .i64 0, .slice none 0 0, .int .u32 0, .slice none 0 0, .slice none 0 0, .slice none 0 0] 40 (some 0)) := by rw [oG.get _ (by omega), o2.get _ (by omega)]; exact dy
          have st1 := stN (n := 22) (X := G) (b := (A'.next + 1)) (z := [.slice none 0 0, .int .u32 0, .int .u32 0, .int .u32 0, .int .i64 0, .slice none 0 0, .int .u32 0, .slice none 0 0, .slice none 0 0, .slice none 0 0, .int .i64 0, .slice none 0 0, .int .u32 0, .slice none 0 0, .slice none 0 0, .slice none 0 0, .int .i64 0, .slice none 0 0, .int .u32 0, .slice none 0 0, .slice none 0 0, .slice none 0 0]) (e := 50) rfl hxl hxc
          have st2 := stN (n := 6) (X := G.upd (A'.next + 1) (some (.cells cs' 50 (some 0)))) (b := A'.next) (z := [.int .i64 0, .slice none 0 0, .int .u32 0, .slice none 0 0, .slice none 0 0, .slice none 0 0]) (e := 40) rfl hyl hyc
          have gy2 : (G.upd (A'.next + 1) (some (.cells cs' 50 (some 0)))).get A'.next = some (.cells [.int .i64 0, .slice none 0 0, .int .u32 0, .slice none 0 0, .slice none 0 0, .slice none 0 0] 40 (some 0)) := by rw [St.get_upd, if_neg (by omega)]; exact gy
          rw [hGG] at gx gy gy2 st1 st2 oG nG
          simp (maxSteps := 1000000) (disch := (first | omega | (simp only [nx_alloc, nx_upd, len_cons, len_nil, List.length_set, List.length_map, List.length_append] <;> omega) | fail)) only [Nat.reduceAdd, Nat.reduceSub, Nat.reduceMul, Nat.reduceLT, Nat.reduceLeDiff, Nat.reduceEqDiff, ↓reduceIte, reduceCtorEq, Int.reduceAdd, Int.reduceSub, Int.reduceMul, Int.reduceLT, Int.reduceLE, Int.reduceEq, Int.reduceNe, Int.reduceToNat, Int.reduceNeg, go_sem]
          refine Ords.run [⟨false, [], [0]⟩, ⟨false, [0], [0]⟩, ⟨false, [0], [0, 1]⟩, ⟨true, [1, 0], [0]⟩, ⟨true, [2, 3, 0, 1], [1]⟩] [A2, A2.upd (A'.next + 1) (some (.cells cs' 50 (some 0))), (A2.upd (A'.next + 1) (some (.cells cs' 50 (some 0)))).upd A'.next (some (.cells rc' 40 (some 0)))] 2 (by kernel_rfl) (by kernel_rfl) rfl ?_
          simp (maxSteps := 1000000) (disch := (first | omega | (simp only [nx_alloc, nx_upd, len_cons, len_nil, List.length_set, List.length_map, List.length_append] <;> omega) | fail)) only [Nat.reduceAdd, Nat.reduceSub, Nat.reduceMul, Nat.reduceLT, Nat.reduceLeDiff, Nat.reduceEqDiff, ↓reduceIte, reduceCtorEq, Int.reduceAdd, Int.reduceSub, Int.reduceMul, Int.reduceLT, Int.reduceLE, Int.reduceEq, Int.reduceNe, Int.reduceToNat, Int.reduceNeg, go_sem, subOps_toList, getD_arr0, getD_arrS, reO_mk, reO_mkG, ixOf, Option.bind_none, Option.map_none, thenN_normal, after_ret, gx, gy, gy2, st1, st2]
          have oE : Over A' ((A2.upd (A'.next + 1) (some (.cells cs' 50 (some 0)))).upd A'.next (some (.cells rc' 40 (some 0)))) := by refine ⟨by (try simp only [nx_upd]); omega, fun b hb => ?_⟩; rw [St.get_upd, if_neg (by omega), St.get_upd, if_neg (by omega), oG.get b (by omega), o2.get b (by omega), oD.get b hb]
          have gE : Ge (A2.hide (A'.next :: (A'.next + 1) :: A.next :: b4 :: rbL u)) (((A2.upd (A'.next + 1) (some (.cells cs' 50 (some 0)))).upd A'.next (some (.cells rc' 40 (some 0)))).hide (A'.next :: (A'.next + 1) :: A.next :: b4 :: rbL u)) := Ge.hide (by (try simp only [nx_upd]); omega) (fun b hb hbL => by
            have e1 : b ≠ (A'.next + 1) := by intro e; apply hbL; rw [e]; simp
            have e2 : b ≠ A'.next := by intro e; apply hbL; rw [e]; simp
            refine ⟨?_, by rw [St.get_upd, if_neg e2, St.get_upd, if_neg e1, oG.get b hb]⟩
            simp only [List.mem_cons, not_or] at hbL ⊢
            exact ⟨e2, e1, hbL.2.2⟩)
          refine ⟨_, (A'.next + 1), A'.next, cs', rc', rfl, ?_, ?_, ?_, ?_, ?_, ?_, ?_, (by omega), (by omega), (by omega), ?_, get_upd_same .., oE, hS2.ge gE, hR2.ge gE⟩
          · simp (maxSteps := 1000000) (disch := (first | omega | (simp only [nx_alloc, nx_upd, len_cons, len_nil, List.length_set, List.length_map, List.length_append] <;> omega) | fail)) only [Nat.reduceAdd, Nat.reduceSub, Nat.reduceMul, Nat.reduceLT, Nat.reduceLeDiff, Nat.reduceEqDiff, ↓reduceIte, reduceCtorEq, Int.reduceAdd, Int.reduceSub, Int.reduceMul, Int.reduceLT, Int.reduceLE, Int.reduceEq, Int.reduceNe, Int.reduceToNat, Int.reduceNeg, go_sem, r0]
          · simp (maxSteps := 1000000) (disch := (first | omega | (simp only [nx_alloc, nx_upd, len_cons, len_nil, List.length_set, List.length_map, List.length_append] <;> omega) | fail)) only [Nat.reduceAdd, Nat.reduceSub, Nat.reduceMul, Nat.reduceLT, Nat.reduceLeDiff, Nat.reduceEqDiff, ↓reduceIte, reduceCtorEq, Int.reduceAdd, Int.reduceSub, Int.reduceMul, Int.reduceLT, Int.reduceLE, Int.reduceEq, Int.reduceNe, Int.reduceToNat, Int.reduceNeg, go_sem, r2]
          · simp (maxSteps := 1000000) (disch := (first | omega | (simp only [nx_alloc, nx_upd, len_cons, len_nil, List.length_set, List.length_map, List.length_append] <;> omega) | fail)) only [Nat.reduceAdd, Nat.reduceSub, Nat.reduceMul, Nat.reduceLT, Nat.reduceLeDiff, Nat.reduceEqDiff, ↓reduceIte, reduceCtorEq, Int.reduceAdd, Int.reduceSub, Int.reduceMul, Int.reduceLT, Int.reduceLE, Int.reduceEq, Int.reduceNe, Int.reduceToNat, Int.reduceNeg, go_sem, r4]
          · simp (maxSteps := 1000000) (disch := (first | omega | (simp only [nx_alloc, nx_upd, len_cons, len_nil, List.length_set, List.length_map, List.length_append] <;> omega) | fail)) only [Nat.reduceAdd, Nat.reduceSub, Nat.reduceMul, Nat.reduceLT, Nat.reduceLeDiff, Nat.reduceEqDiff, ↓reduceIte, reduceCtorEq, Int.reduceAdd, Int.reduceSub, Int.reduceMul, Int.reduceLT, Int.reduceLE, Int.reduceEq, Int.reduceNe, Int.reduceToNat, Int.reduceNeg, go_sem, r5]
          · simp (maxSteps := 1000000) (disch := (first | omega | (simp only [nx_alloc, nx_upd, len_cons, len_nil, List.length_set, List.length_map, List.length_append] <;> omega) | fail)) only [Nat.reduceAdd, Nat.reduceSub, Nat.reduceMul, Nat.reduceLT, Nat.reduceLeDiff, Nat.reduceEqDiff, ↓reduceIte, reduceCtorEq, Int.reduceAdd, Int.reduceSub, Int.reduceMul, Int.reduceLT, Int.reduceLE, Int.reduceEq, Int.reduceNe, Int.reduceToNat, Int.reduceNeg, go_sem, r6]
          · simp (maxSteps := 1000000) (disch := (first | omega | (simp only [nx_alloc, nx_upd, len_cons, len_nil, List.length_set, List.length_map, List.length_append] <;> omega) | fail)) only [Nat.reduceAdd, Nat.reduceSub, Nat.reduceMul, Nat.reduceLT, Nat.reduceLeDiff, Nat.reduceEqDiff, ↓reduceIte, reduceCtorEq, Int.reduceAdd, Int.reduceSub, Int.reduceMul, Int.reduceLT, Int.reduceLE, Int.reduceEq, Int.reduceNe, Int.reduceToNat, Int.reduceNeg, go_sem]
          · simp (maxSteps := 1000000) (disch := (first | omega | (simp only [nx_alloc, nx_upd, len_cons, len_nil, List.length_set, List.length_map, List.length_append] <;> omega) | fail)) only [Nat.reduceAdd, Nat.reduceSub, Nat.reduceMul, Nat.reduceLT, Nat.reduceLeDiff, Nat.reduceEqDiff, ↓reduceIte, reduceCtorEq, Int.reduceAdd, Int.reduceSub, Int.reduceMul, Int.reduceLT, Int.reduceLE, Int.reduceEq, Int.reduceNe, Int.reduceToNat, Int.reduceNeg, go_sem]
          · rw [St.get_upd, if_neg (by omega), get_upd_same]
  · rintro e a A9 ⟨rfl, ρ', b7, b8, cs', rc', rfl, t0, t2, t4, t5, t6, t7, t8, u7, u8, une, g7, g8, o9, hS9, hR9⟩
    have n9 := o9.next
    have hS9l := hS9.len
    have g4 : A9.get b4 = some (.cells cs 50 (some 0)) := by rw [o9.get b4 c4]; exact hg
    have hst4 := stN (n := 22) (X := A9) (b := b4) (z := cs) (e := 50) hs22 hS9l.1 hS9l.2
    have hld7 := ldN (e := 50) (m := some 0) hS9l.1
    have htk7 : cs'.take 22 = cs' := List.take_of_length_le (by omega)
    obtain ⟨A10, hA10⟩ : ∃ A10, A10 = A9.upd b4 (some (.cells cs' 50 (some 0))) := ⟨_, rfl⟩
    have n10 : A10.next = A9.next := by rw [hA10]; rfl
    have k10 : ∀ b, b ≠ b4 → A10.get b = A9.get b := fun b hb => by rw [hA10, St.get_upd, if_neg hb]
    have z4 : A10.get b4 = some (.cells cs' 50 (some 0)) := by rw [hA10, get_upd_same]
    have z8 : A10.get b8 = some (.cells rc' 40 (some 0)) := by rw [k10 b8 (by omega)]; exact g8
    have r6' := hR9.len
    have rcell := hR9.cell
    have hldr := ldN (e := 40) (m := some 0) r6'
    have htk6 : rc'.take 6 = rc' := List.take_of_length_le (by omega)
    have hrow10 : RpRow A10 (A.next + 2) css u := Row.keep hrow (by omega) (fun b _ h1 h2 => by rw [k10 b (by omega), o9.get b h2]) (Nat.le_refl _)
    obtain ⟨u', A11, hpush, hrow11, n11, hrb, k11⟩ := rp_push hrow10 rc' r6' rcell (by omega) (by omega)
    have hset := set_all [.int .i64 0, .slice none 0 0, .int .u32 0, .slice none 0 0, .slice none 0 0, .slice none 0 0] rc' (by rw [r6']; rfl)
    have hne84 : ¬ (b8 = b4) := by omega
    simp (maxSteps := 1000000) (disch := (first | omega | (simp only [nx_alloc, nx_upd, len_cons, len_nil, List.length_set, List.length_map, List.length_append] <;> omega) | fail)) only [Nat.reduceAdd, Nat.reduceSub, Nat.reduceMul, Nat.reduceLT, Nat.reduceLeDiff, Nat.reduceEqDiff, ↓reduceIte, reduceCtorEq, Int.reduceAdd, Int.reduceSub, Int.reduceMul, Int.reduceLT, Int.reduceLE, Int.reduceEq, Int.reduceNe, Int.reduceToNat, Int.reduceNeg, go_sem, t2, t4, t5, t6, t7, t8, g7, g4, g8, hld7, htk7, hst4, hldr, htk6, hset, r6', hne84]
    rw [n10] at hpush
    rw [← hA10, hpush]
    simp (maxSteps := 1000000) (disch := (first | omega | (simp only [nx_alloc, nx_upd, len_cons, len_nil, List.length_set, List.length_map, List.length_append] <;> omega) | fail)) only [Nat.reduceAdd, Nat.reduceSub, Nat.reduceMul, Nat.reduceLT, Nat.reduceLeDiff, Nat.reduceEqDiff, ↓reduceIte, reduceCtorEq, Int.reduceAdd, Int.reduceSub, Int.reduceMul, Int.reduceLT, Int.reduceLE, Int.reduceEq, Int.reduceNe, Int.reduceToNat, Int.reduceNeg, go_sem, t6]
    have hall : allS (l.take (i + 1)) = ((applyS (allS (l.take i)).1 r).1, (allS (l.take i)).2 ++ [(applyS (allS (l.take i)).1 r).2]) := by
      rw [List.take_add_one, hr]; exact allS_snoc _ _
    have hru : ∀ b, rowB u = some b → A.next + 2 ≤ b ∧ b < A'.next := hrbu
    have kk : ∀ b, b < A9.next → b ≠ b4 → rowB u ≠ some b → A11.get b = A9.get b := fun b h1 h2 h3 => by rw [k11 b (by omega) h3, k10 b h2]
    have gx : Ge (A9.hide (b8 :: b7 :: A.next :: b4 :: rbL u)) (A11.hide (A.next :: b4 :: rbL u')) := Ge.hide (by omega) (fun b hb hbL => by
      simp only [List.mem_cons, not_or] at hbL ⊢
      obtain ⟨_, _, x0, x4, xu⟩ := hbL
      refine ⟨⟨x0, x4, fun h => by rw [mem_rbL, hrb] at h; have := Option.some.inj h; omega⟩, kk b hb x4 (fun e => xu (mem_rbL.2 e))⟩)
    have gr : Ge (A'.hide (A.next :: b4 :: rbL u)) (A11.hide (A.next :: b4 :: rbL u')) := Ge.hide (by omega) (fun b hb hbL => by
      simp only [List.mem_cons, not_or] at hbL ⊢
      obtain ⟨x0, x4, xu⟩ := hbL
      refine ⟨⟨x0, x4, fun h => by rw [mem_rbL, hrb] at h; have := Option.some.inj h; omega⟩, ?_⟩
      rw [kk b (by omega) x4 (fun e => xu (mem_rbL.2 e)), o9.get b hb])
    refine ⟨k - 1, by omega, _, i + 1, cs', css ++ [rc'], u', rfl, by omega, by omega, ⟨by have := ho0.next; omega, fun b hb => ?_⟩, by omega, ?_, by rw [hall]; exact hS9.ge gx, by rw [hall]; exact All2.app (hR.imp (fun _ _ h => h.ge gr)) (.cons (hR9.ge gx) .nil), hrow11, ?_, ?_, ?_, ?_, ?_⟩
    · have := ho0.next
      rw [kk b (by omega) (by omega) (fun e => by have := (hrbu b e).1; omega), o9.get b (by omega)]; exact ho0.get b hb
    · rw [k11 b4 (by omega) (fun e => by have := (hrbu _ e).1; omega)]; exact z4
    · simp (maxSteps := 1000000) (disch := (first | omega | (simp only [nx_alloc, nx_upd, len_cons, len_nil, List.length_set, List.length_map, List.length_append] <;> omega) | fail)) only [Nat.reduceAdd, Nat.reduceSub, Nat.reduceMul, Nat.reduceLT, Nat.reduceLeDiff, Nat.reduceEqDiff, ↓reduceIte, reduceCtorEq, Int.reduceAdd, Int.reduceSub, Int.reduceMul, Int.reduceLT, Int.reduceLE, Int.reduceEq, Int.reduceNe, Int.reduceToNat, Int.reduceNeg, go_sem, t0]
    · simp (maxSteps := 1000000) (disch := (first | omega | (simp only [nx_alloc, nx_upd, len_cons, len_nil, List.length_set, List.length_map, List.length_append] <;> omega) | fail)) only [Nat.reduceAdd, Nat.reduceSub, Nat.reduceMul, Nat.reduceLT, Nat.reduceLeDiff, Nat.reduceEqDiff, ↓reduceIte, reduceCtorEq, Int.reduceAdd, Int.reduceSub, Int.reduceMul, Int.reduceLT, Int.reduceLE, Int.reduceEq, Int.reduceNe, Int.reduceToNat, Int.reduceNeg, go_sem, t2]
    · simp (maxSteps := 1000000) (disch := (first | omega | (simp only [nx_alloc, nx_upd, len_cons, len_nil, List.length_set, List.length_map, List.length_append] <;> omega) | fail)) only [Nat.reduceAdd, Nat.reduceSub, Nat.reduceMul, Nat.reduceLT, Nat.reduceLeDiff, Nat.reduceEqDiff, ↓reduceIte, reduceCtorEq, Int.reduceAdd, Int.reduceSub, Int.reduceMul, Int.reduceLT, Int.reduceLE, Int.reduceEq, Int.reduceNe, Int.reduceToNat, Int.reduceNeg, go_sem, t4]
    · simp (maxSteps := 1000000) (disch := (first | omega | (simp only [nx_alloc, nx_upd, len_cons, len_nil, List.length_set, List.length_map, List.length_append] <;> omega) | fail)) only [Nat.reduceAdd, Nat.reduceSub, Nat.reduceMul, Nat.reduceLT, Nat.reduceLeDiff, Nat.reduceEqDiff, ↓reduceIte, reduceCtorEq, Int.reduceAdd, Int.reduceSub, Int.reduceMul, Int.reduceLT, Int.reduceLE, Int.reduceEq, Int.reduceNe, Int.reduceToNat, Int.reduceNeg, go_sem]
    · simp (maxSteps := 1000000) (disch := (first | omega | (simp only [nx_alloc, nx_upd, len_cons, len_nil, List.length_set, List.length_map, List.length_append] <;> omega) | fail)) only [Nat.reduceAdd, Nat.reduceSub, Nat.reduceMul, Nat.reduceLT, Nat.reduceLeDiff, Nat.reduceEqDiff, ↓reduceIte, reduceCtorEq, Int.reduceAdd, Int.reduceSub, Int.reduceMul, Int.reduceLT, Int.reduceLE, Int.reduceEq, Int.reduceNe, Int.reduceToNat, Int.reduceNeg, go_sem]
      rfl
end Go.Fw
