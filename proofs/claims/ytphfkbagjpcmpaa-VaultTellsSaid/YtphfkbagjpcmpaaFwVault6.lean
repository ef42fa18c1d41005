import Derived.Test.YtphfkbagjpcmpaaFwVault5
set_option linter.unusedSimpArgs false
set_option linter.unusedVariables false
namespace Go.Fw
open Go.Proofs Go.RowKit
theorem Try.enters12 : Enters Try.prog 12 := enters_of Try.func12 rfl (by kernel_rfl)
def S0 : StT := ⟨[], [0, 0, 0], [errR 0, errR 0, errR 0]⟩
theorem S0_c (A : St) : StC A S0 zState := ⟨.slice none 0 0, [errC 0, errC 0, errC 0], rfl, VsV.nil A, .cons (errC_rep A 0) (.cons (errC_rep A 0) (.cons (errC_rep A 0) .nil)), rfl, rfl⟩
def allS (l : List ReqT) : StT × List ReplyT := l.foldl (fun s r => ((applyS s.1 r).1, s.2 ++ [(applyS s.1 r).2])) (S0, [])
theorem allS_snoc (l : List ReqT) (r : ReqT) : allS (l ++ [r]) = ((applyS (allS l).1 r).1, (allS l).2 ++ [(applyS (allS l).1 r).2]) := by
  unfold allS; rw [List.foldl_append]; rfl
theorem doL_len {l : List VerT} (o : VOp) (h : l.length ≤ 8) : (doL l o).1.length ≤ 8 := by
  unfold doL
  split
  · split
    · exact h
    · split
      · exact h
      · split
        · exact h
        · simp; omega
  · split
    · split
      · exact h
      · exact Nat.le_trans (List.length_eraseIdx_le ..) h
    · split
      · simp only [List.length_drop]; omega
      · split
        · exact h
        · split
          · split
            · exact h
            · exact h
          · exact h
theorem applyS_len {S : StT} (r : ReqT) (h : S.vers.length ≤ 8) : (applyS S r).1.vers.length ≤ 8 := by
  unfold applyS
  split
  · exact h
  · split
    · exact h
    · split
      · exact h
      · exact doL_len _ h
theorem foldS_len : ∀ (l : List ReqT) (s : StT × List ReplyT), s.1.vers.length ≤ 8 → (l.foldl (fun s r => ((applyS s.1 r).1, s.2 ++ [(applyS s.1 r).2])) s).1.vers.length ≤ 8 ∧ (l.foldl (fun s r => ((applyS s.1 r).1, s.2 ++ [(applyS s.1 r).2])) s).2.length = s.2.length + l.length
  | [], s, h => ⟨h, rfl⟩
  | r :: l, s, h => by
    have := foldS_len l ((applyS s.1 r).1, s.2 ++ [(applyS s.1 r).2]) (applyS_len r h)
    refine ⟨this.1, ?_⟩
    rw [List.foldl_cons, this.2]; simp; omega
theorem allS_len (l : List ReqT) : (allS l).1.vers.length ≤ 8 ∧ (allS l).2.length = l.length := by
  have := foldS_len l (S0, []) (Nat.zero_le _)
  exact ⟨this.1, by rw [allS, this.2]; simp⟩
def rbL (v : Value) : List Nat := (rowB v).toList
theorem mem_rbL {v : Value} {b : Nat} : b ∈ rbL v ↔ rowB v = some b := by
  unfold rbL; cases rowB v <;> simp [eq_comm]
def RsV (A : St) (l : List ReplyT) (v : Value) : Prop := NV A 6 (RepC A) l v
def RqV (A : St) (l : List ReqT) (v : Value) : Prop := NV A 8 (ReqC A) l v
theorem RqV.ge {A A' : St} {l : List ReqT} {v : Value} (h : RqV A l v) (g : Ge A A') : RqV A' l v := NV.ge h g (fun _ _ h => h.ge g)
theorem RsV.ge {A A' : St} {l : List ReplyT} {v : Value} (h : RsV A l v) (g : Ge A A') : RsV A' l v := NV.ge h g (fun _ _ h => h.ge g)
abbrev RpRow (A : St) (lo : Nat) (css : List (List Value)) (v : Value) : Prop := Row A 40 6 lo css.flatten css.length v
theorem rp_push {A : St} {lo : Nat} {css : List (List Value)} {v : Value} (h : RpRow A lo css v) (rc : List Value) (h6 : rc.length = 6) (hc : rc.all cell1 = true) (hlo : lo ≤ A.next) (hl : css.length ≤ 1048576) :
    ∃ v' A', aappend Try.prog (A.alloc (.cells rc 40 (some 0))) 44 44 v (.slice (some ⟨A.next, 0, none⟩) 1 1) = some (v', A') ∧ RpRow A' lo (css ++ [rc]) v' ∧ A'.next = A.next + 2 ∧ rowB v' = some (A.next + 1) ∧ ∀ b, b < A.next → rowB v ≠ some b → A'.get b = A.get b := by
  obtain ⟨v', A2, hap, hr2, hn2, hrb, hf2⟩ := row_push (A := A) (sp := none) (c := 1) (xs := rc) Try.el44 Try.underlying44 (by intro k; exact TypeDesc.noConfusion) Try.sz40 Try.byt40 Try.zero40 rfl h hlo (by omega) (by omega) hc h6
  refine ⟨v', A2, hap, ?_, hn2, hrb, hf2⟩
  rw [RpRow, List.flatten_append, List.length_append]; simpa using hr2
def AllPost (A : St) (L : List Nat) (l : List ReqT) (e : Ending) (A' : St) : Prop := ∃ cs v, e = .returned (.tuple #[.agg cs.toArray, v]) ∧ Over A A' ∧ StC (A'.hide L) (allS l).1 cs ∧ RsV (A'.hide L) (allS l).2 v
set_option maxHeartbeats 8000000 in
theorem all_ok (w0 : World) (A : St) (L : List Nat) (hL : ∀ b ∈ L, b < A.next) (l : List ReqT) (v : Value) (hv : RqV (A.hide L) l v) (hok : ∀ r ∈ l, r.ok) (hl : l.length ≤ 100000) :
    ACalls Try.prog w0 12 #[v] A (AllPost A L l) := by
  refine call_E Try.enters12 Try.func12 rfl (Nat.le_of_ble_eq_true rfl) fun hw hbd => ?_
  have oA1 : Over A (A.alloc (.cells zState 43 (some 0))) := (Over.refl A).alloc _
  have hlen := NV.lenU (e := 32) (hv.ge (hide_out oA1 L))
  have inv0 : StC ((A.alloc (.cells zState 43 (some 0))).hide (A.next :: (rbL (.slice none 0 0) ++ L))) S0 zState := S0_c _
  unfold zState at hlen inv0 oA1
  simp (maxSteps := 1000000) (disch := (first | omega | (simp only [nx_alloc, nx_upd, len_cons, len_nil, List.length_set, List.length_map, List.length_append] <;> omega) | fail)) only [Nat.reduceAdd, Nat.reduceSub, Nat.reduceMul, Nat.reduceLT, Nat.reduceLeDiff, Nat.reduceEqDiff, ↓reduceIte, reduceCtorEq, Int.reduceAdd, Int.reduceSub, Int.reduceMul, Int.reduceLT, Int.reduceLE, Int.reduceEq, Int.reduceNe, Int.reduceToNat, Int.reduceNeg, go_sem, Try.ntmps12, Try.results12, hlen]
  refine aw_loop (fun k x A' => ∃ (ρ : Nat → Value) (i : Nat) (cs : List Value) (css : List (List Value)) (u : Value), x = E 26 ρ [] ∧ k = l.length - i ∧ i ≤ l.length ∧ Over A A' ∧ A.next + 1 ≤ A'.next ∧ A'.get A.next = some (.cells cs 43 (some 0)) ∧ StC (A'.hide (A.next :: (rbL u ++ L))) (allS (l.take i)).1 cs ∧ All2 (RepC (A'.hide (A.next :: (rbL u ++ L)))) (allS (l.take i)).2 css ∧ RpRow A' (A.next + 1) css u ∧
      ρ 2 = .pointer (some ⟨A.next, 0, none⟩) ∧ ρ 3 = u ∧ ρ 7 = v ∧ ρ 8 = .int .i64 l.length ∧ ρ 9 = .int .i64 i) l.length
    ⟨_, 0, _, [], _, rfl, rfl, Nat.zero_le _, oA1, Nat.le_refl _, get_alloc_same .., inv0, .nil, Row.nil .., rfl, rfl, rfl, rfl, rfl⟩ ?_
  rintro k x A' ⟨ρ, i, cs, css, u, rfl, hk, hi, ho, hlo, hg, hS, hR, hrow, g2, g3, g7, g8, g9⟩
  refine aw_of ?_
  have hcsl := hR.length
  rw [(allS_len _).2, List.length_take, Nat.min_eq_left hi] at hcsl
  obtain ⟨hs22, hsc⟩ := hS.len
  have htk : cs.take 22 = cs := List.take_of_length_le (by omega)
  have hrbu : ∀ b, rowB u = some b → A.next + 1 ≤ b ∧ b < A'.next := fun b hb => Row.rb hrow b hb
  by_cases hend : i = l.length
  · have e1 : ¬ ((i : Int) < l.length) := by omega
    have hst := stN (n := 22) (X := A') (b := A.next) (z := cs) (e := 43) hs22 hs22 hsc
    rw [hend, List.take_length] at hS hR
    simp (maxSteps := 1000000) (disch := (first | omega | (simp only [nx_alloc, nx_upd, len_cons, len_nil, List.length_set, List.length_map, List.length_append] <;> omega) | fail)) only [Nat.reduceAdd, Nat.reduceSub, Nat.reduceMul, Nat.reduceLT, Nat.reduceLeDiff, Nat.reduceEqDiff, ↓reduceIte, reduceCtorEq, Int.reduceAdd, Int.reduceSub, Int.reduceMul, Int.reduceLT, Int.reduceLE, Int.reduceEq, Int.reduceNe, Int.reduceToNat, Int.reduceNeg, go_sem, g2, g3, g7, g8, g9, hg, htk, hst, Try.results12]
    have gF : Ge (A'.hide (A.next :: (rbL u ++ L))) ((A'.upd A.next (some (.cells cs 43 (some 0)))).hide L) := by
      refine Ge.hide (Nat.le_refl _) (fun b hb hbL => ?_)
      simp only [List.mem_cons, List.mem_append, not_or] at hbL
      exact ⟨hbL.2.2, by rw [St.get_upd, if_neg hbL.1]⟩
    have r5 : RpRow (A'.upd A.next (some (.cells cs 43 (some 0)))) (A.next + 1) css u := Row.keep hrow (Nat.le_refl _) (fun b _ h1 _ => by rw [St.get_upd, if_neg (by omega)]) (Nat.le_refl _)
    refine gc_here ⟨cs, u, rfl, ho.upd (Nat.le_refl _) _, hS.ge gF, css, hR.imp (fun _ _ h => h.ge gF), (reps_cell hR).2, ?_⟩
    have hvw := Row.viewH r5 (L := L) (fun b hb => by have := hL b hb; omega)
    rw [hR.length]
    exact hvw
  have e1 : ((i : Int) < l.length) := by omega
  obtain ⟨r, hr⟩ : ∃ r, l[i]? = some r := ⟨l[i]'(by omega), List.getElem?_eq_getElem (by omega)⟩
  have hrok := hok r (List.mem_of_getElem? hr)
  obtain ⟨b, off, qc, q1, q2, q3, q4, cells, e', m, q5, q6, q7⟩ := hv.at (P := Try.prog) (e := 32) Try.sz32 hr
  have hqb := (hide_out ho L).get b _ q1 q5
  rw [hide_next] at q1
  have hldq := ld_agg (e' := e') (m := m) q6 q7
  have hqcell := q3.cell
  have hbne : b ≠ A.next := by omega
  have hq8 := q3.len
  have hqtk : qc.take 8 = qc := List.take_of_length_le (by omega)
  have hstq := stN (n := 8) (X := A'.alloc (.cells [.int .i64 0, .int .u32 0, .int .i64 0, .int .u32 0, .int .u32 0, .slice none 0 0, .slice none 0 0, .slice none 0 0] 32 (some 0))) (b := A'.next) (z := [.int .i64 0, .int .u32 0, .int .i64 0, .int .u32 0, .int .u32 0, .slice none 0 0, .slice none 0 0, .slice none 0 0]) (e := 32) rfl hq8 hqcell
  generalize hC : ((A'.alloc (.cells [.int .i64 0, .int .u32 0, .int .i64 0, .int .u32 0, .int .u32 0, .slice none 0 0, .slice none 0 0, .slice none 0 0] 32 (some 0))).upd A'.next (some (.cells qc 32 (some 0)))).alloc (.cells zReply 40 (some 0)) = C
  have oC : Over A' C := by rw [← hC]; exact (((Over.refl A').alloc _).upd (Nat.le_refl _) _).alloc _
  have nC : C.next = A'.next + 2 := by rw [← hC]; rfl
  have c6 : C.get (A'.next + 1) = some (.cells zReply 40 (some 0)) := by rw [← hC]; simp (disch := (first | omega | (simp only [nx_alloc, nx_upd, len_cons, len_nil, List.length_set, List.length_map, List.length_append] <;> omega) | fail)) only [St.get_upd, St.get_alloc, St.next_alloc, St.next_upd, ↓reduceIte, natF_lt, natF_gt, natF_ne, Nat.add_assoc, Nat.reduceAdd, Nat.reduceEqDiff, Nat.add_left_cancel_iff]
  unfold zReply at hC c6
  have oAC := ho.trans oC
  have hgC : Ge (A'.hide (A.next :: (rbL u ++ L))) (C.hide ((A'.next + 1) :: A.next :: (rbL u ++ L))) := Ge.hide oC.next (fun b hb hbL => ⟨by rw [List.mem_cons, not_or]; exact ⟨by omega, hbL⟩, oC.get b hb⟩)
  have hgA : Ge (A.hide L) (C.hide ((A'.next + 1) :: A.next :: (rbL u ++ L))) := Ge.hide oAC.next (fun b hb hbL => ⟨by
    simp only [List.mem_cons, List.mem_append, not_or]
    exact ⟨by omega, by omega, fun h => by have := (hrbu b (mem_rbL.1 h)).1; omega, hbL⟩, oAC.get b hb⟩)
  have hap := apply_ok w0 C ((A'.next + 1) :: A.next :: (rbL u ++ L)) (fun b hb => by
    simp only [List.mem_cons, List.mem_append] at hb
    rcases hb with rfl | rfl | hb | hb
    · omega
    · omega
    · have := (hrbu b (mem_rbL.1 hb)).2; omega
    · have := hL b hb; omega) (allS (l.take i)).1 cs r qc (hS.ge hgC) (q3.ge hgA) hrok (by have := (allS_len (l.take i)).1; omega)
  simp (maxSteps := 1000000) (disch := (first | omega | (simp only [nx_alloc, nx_upd, len_cons, len_nil, List.length_set, List.length_map, List.length_append] <;> omega) | fail)) only [Nat.reduceAdd, Nat.reduceSub, Nat.reduceMul, Nat.reduceLT, Nat.reduceLeDiff, Nat.reduceEqDiff, ↓reduceIte, reduceCtorEq, Int.reduceAdd, Int.reduceSub, Int.reduceMul, Int.reduceLT, Int.reduceLE, Int.reduceEq, Int.reduceNe, Int.reduceToNat, Int.reduceNeg, go_sem, g2, g3, g7, g8, g9, q2, hqb, hldq, hstq]
  simp (maxSteps := 1000000) (disch := (first | omega | (simp only [nx_alloc, nx_upd, len_cons, len_nil, List.length_set, List.length_map, List.length_append] <;> omega) | fail)) only [Nat.reduceAdd, Nat.reduceSub, Nat.reduceMul, Nat.reduceLT, Nat.reduceLeDiff, Nat.reduceEqDiff, ↓reduceIte, reduceCtorEq, Int.reduceAdd, Int.reduceSub, Int.reduceMul, Int.reduceLT, Int.reduceLE, Int.reduceEq, Int.reduceNe, Int.reduceToNat, Int.reduceNeg, go_sem, hg, htk, hqtk]
  rw [hC]
  refine hap.mono ?_
  rintro _ A2 ⟨cs', rc', rfl, o2, hS2, hR2⟩
  have n2 := o2.next
  have d0 : A2.get A.next = some (.cells cs 43 (some 0)) := by rw [o2.get _ (by omega), oC.get _ (by omega)]; exact hg
  have d6 : A2.get (A'.next + 1) = some (.cells zReply 40 (some 0)) := by rw [o2.get _ (by omega)]; exact c6
  obtain ⟨hs22', hsc'⟩ := hS2.len
  have r6 := hR2.len
  have rcell := hR2.cell
  have hst1 := stN (n := 22) (X := A2) (b := A.next) (z := cs) (e := 43) hs22 hs22' hsc'
  have hst2 := stN (n := 6) (X := A2.upd A.next (some (.cells cs' 43 (some 0)))) (b := A'.next + 1) (z := zReply) (e := 40) rfl r6 rcell
  have hldr := ldN (n := 6) (e := 40) (m := some 0) r6
  have hsetr := set_all zReply rc' (by rw [r6]; rfl)
  obtain ⟨A3, hA3⟩ : ∃ A3, A3 = (A2.upd A.next (some (.cells cs' 43 (some 0)))).upd (A'.next + 1) (some (.cells rc' 40 (some 0))) := ⟨_, rfl⟩
  have n3 : A3.next = A2.next := by rw [hA3]; rfl
  have kx : ∀ b, b ≠ A.next → b ≠ A'.next + 1 → A3.get b = A2.get b := fun b x0 x1 => by rw [hA3, St.get_upd, if_neg x1, St.get_upd, if_neg x0]
  have k0 : A3.get A.next = some (.cells cs' 43 (some 0)) := by rw [hA3, St.get_upd, if_neg (by omega), get_upd_same]
  have k6 : A3.get (A'.next + 1) = some (.cells rc' 40 (some 0)) := by rw [hA3, get_upd_same]
  have hrow3 : RpRow A3 (A.next + 1) css u := Row.keep hrow (by omega) (fun b _ x1 x2 => by rw [kx b (by omega) (by omega), o2.get b (by omega), oC.get b x2]) (Nat.le_refl _)
  obtain ⟨u', A4, hpush, hrow4, n4, hrb4, k4⟩ := rp_push hrow3 rc' r6 rcell (by omega) (by omega)
  unfold zReply at hst2 hsetr d6
  simp (maxSteps := 1000000) (disch := (first | omega | (simp only [nx_alloc, nx_upd, len_cons, len_nil, List.length_set, List.length_map, List.length_append] <;> omega) | fail)) only [Nat.reduceAdd, Nat.reduceSub, Nat.reduceMul, Nat.reduceLT, Nat.reduceLeDiff, Nat.reduceEqDiff, ↓reduceIte, reduceCtorEq, Int.reduceAdd, Int.reduceSub, Int.reduceMul, Int.reduceLT, Int.reduceLE, Int.reduceEq, Int.reduceNe, Int.reduceToNat, Int.reduceNeg, go_sem, g2, d0, d6, hst1, hst2]
  rw [← hA3]
  have htk6 : rc'.take 6 = rc' := List.take_of_length_le (by omega)
  simp (maxSteps := 1000000) (disch := (first | omega | (simp only [nx_alloc, nx_upd, len_cons, len_nil, List.length_set, List.length_map, List.length_append] <;> omega) | fail)) only [Nat.reduceAdd, Nat.reduceSub, Nat.reduceMul, Nat.reduceLT, Nat.reduceLeDiff, Nat.reduceEqDiff, ↓reduceIte, reduceCtorEq, Int.reduceAdd, Int.reduceSub, Int.reduceMul, Int.reduceLT, Int.reduceLE, Int.reduceEq, Int.reduceNe, Int.reduceToNat, Int.reduceNeg, go_sem, g3, k6, hldr, htk6, hsetr, rcell, r6, n3]
  rw [n3] at hpush
  rw [hpush]
  simp (maxSteps := 1000000) (disch := (first | omega | (simp only [nx_alloc, nx_upd, len_cons, len_nil, List.length_set, List.length_map, List.length_append] <;> omega) | fail)) only [Nat.reduceAdd, Nat.reduceSub, Nat.reduceMul, Nat.reduceLT, Nat.reduceLeDiff, Nat.reduceEqDiff, ↓reduceIte, reduceCtorEq, Int.reduceAdd, Int.reduceSub, Int.reduceMul, Int.reduceLT, Int.reduceLE, Int.reduceEq, Int.reduceNe, Int.reduceToNat, Int.reduceNeg, go_sem, g9]
  have j0 : A4.get A.next = some (.cells cs' 43 (some 0)) := by rw [k4 _ (by omega) (fun e => by have := (hrbu _ e).1; omega)]; exact k0
  have hall : allS (l.take (i + 1)) = ((applyS (allS (l.take i)).1 r).1, (allS (l.take i)).2 ++ [(applyS (allS (l.take i)).1 r).2]) := by
    rw [List.take_add_one, hr]; exact allS_snoc _ _
  have gx : Ge (A2.hide ((A'.next + 1) :: A.next :: (rbL u ++ L))) (A4.hide (A.next :: (rbL u' ++ L))) := Ge.hide (by omega) (fun b hb hbL => by
    simp only [List.mem_cons, List.mem_append, not_or] at hbL ⊢
    obtain ⟨x6, x0, xu, xL⟩ := hbL
    refine ⟨⟨x0, fun h => by rw [mem_rbL, hrb4] at h; have := Option.some.inj h; omega, xL⟩, ?_⟩
    rw [k4 b (by omega) (fun h => xu (mem_rbL.2 h)), kx b x0 x6])
  have gr : Ge (A'.hide (A.next :: (rbL u ++ L))) (A4.hide (A.next :: (rbL u' ++ L))) := (hgC.trans (hide_over o2 _)).trans gx
  refine ⟨k - 1, by omega, _, i + 1, cs', css ++ [rc'], u', rfl, by omega, by omega, ⟨by omega, fun b hb => ?_⟩, by omega, j0, by rw [hall]; exact hS2.ge gx, by rw [hall]; exact All2.app (hR.imp (fun _ _ h => h.ge gr)) (.cons (hR2.ge gx) .nil), hrow4, ?_, ?_, ?_, ?_, ?_⟩
  · rw [k4 b (by omega) (fun e => by have := (hrbu _ e).1; omega), kx b (by omega) (by omega), o2.get b (by omega), oC.get b (by omega), ho.get b hb]
  · simp (maxSteps := 1000000) (disch := (first | omega | (simp only [nx_alloc, nx_upd, len_cons, len_nil, List.length_set, List.length_map, List.length_append] <;> omega) | fail)) only [Nat.reduceAdd, Nat.reduceSub, Nat.reduceMul, Nat.reduceLT, Nat.reduceLeDiff, Nat.reduceEqDiff, ↓reduceIte, reduceCtorEq, Int.reduceAdd, Int.reduceSub, Int.reduceMul, Int.reduceLT, Int.reduceLE, Int.reduceEq, Int.reduceNe, Int.reduceToNat, Int.reduceNeg, go_sem, g2]
  · simp (maxSteps := 1000000) (disch := (first | omega | (simp only [nx_alloc, nx_upd, len_cons, len_nil, List.length_set, List.length_map, List.length_append] <;> omega) | fail)) only [Nat.reduceAdd, Nat.reduceSub, Nat.reduceMul, Nat.reduceLT, Nat.reduceLeDiff, Nat.reduceEqDiff, ↓reduceIte, reduceCtorEq, Int.reduceAdd, Int.reduceSub, Int.reduceMul, Int.reduceLT, Int.reduceLE, Int.reduceEq, Int.reduceNe, Int.reduceToNat, Int.reduceNeg, go_sem]
  · simp (maxSteps := 1000000) (disch := (first | omega | (simp only [nx_alloc, nx_upd, len_cons, len_nil, List.length_set, List.length_map, List.length_append] <;> omega) | fail)) only [Nat.reduceAdd, Nat.reduceSub, Nat.reduceMul, Nat.reduceLT, Nat.reduceLeDiff, Nat.reduceEqDiff, ↓reduceIte, reduceCtorEq, Int.reduceAdd, Int.reduceSub, Int.reduceMul, Int.reduceLT, Int.reduceLE, Int.reduceEq, Int.reduceNe, Int.reduceToNat, Int.reduceNeg, go_sem, g7]
  · simp (maxSteps := 1000000) (disch := (first | omega | (simp only [nx_alloc, nx_upd, len_cons, len_nil, List.length_set, List.length_map, List.length_append] <;> omega) | fail)) only [Nat.reduceAdd, Nat.reduceSub, Nat.reduceMul, Nat.reduceLT, Nat.reduceLeDiff, Nat.reduceEqDiff, ↓reduceIte, reduceCtorEq, Int.reduceAdd, Int.reduceSub, Int.reduceMul, Int.reduceLT, Int.reduceLE, Int.reduceEq, Int.reduceNe, Int.reduceToNat, Int.reduceNeg, go_sem, g8]
  · simp (maxSteps := 1000000) (disch := (first | omega | (simp only [nx_alloc, nx_upd, len_cons, len_nil, List.length_set, List.length_map, List.length_append] <;> omega) | fail)) only [Nat.reduceAdd, Nat.reduceSub, Nat.reduceMul, Nat.reduceLT, Nat.reduceLeDiff, Nat.reduceEqDiff, ↓reduceIte, reduceCtorEq, Int.reduceAdd, Int.reduceSub, Int.reduceMul, Int.reduceLT, Int.reduceLE, Int.reduceEq, Int.reduceNe, Int.reduceToNat, Int.reduceNeg, go_sem]
    rfl
end Go.Fw
