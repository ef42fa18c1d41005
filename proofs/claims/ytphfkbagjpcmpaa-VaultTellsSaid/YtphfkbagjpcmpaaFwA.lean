import Derived.Test.YtphfkbagjpcmpaaFwVault6
set_option linter.unusedSimpArgs false
set_option linter.unusedVariables false
namespace Go.Fw
open Go.Proofs Go.RowKit
theorem Try.enters11 : Enters Try.prog 11 := enters_of Try.func11 rfl (by kernel_rfl)
def ver7 : VerT := ⟨7, [], [], []⟩
def req1 : ReqT := ⟨1, 1, ⟨1, 0, ver7⟩⟩
def req2 : ReqT := ⟨0, 3, ⟨4, 0, verN⟩⟩
theorem may_empty (id : Int) : mayB ⟨id, [], [], []⟩ = true := (may_iff _).2 ⟨Nat.zero_le _, rfl, (by show (0 : Nat) = blocksN []; decide), fun j hj => absurd hj (Nat.not_lt_zero _)⟩
theorem placeL_nil (id : Int) : placeL [] id = -1 := placeN_end (Nat.le_refl _)
theorem apply1 : applyS S0 req1 = (⟨[ver7], [0, 1, 0], [errR 0, errR 0, errR 0]⟩, errR 0) := by
  have hd : doL [] req1.op = ([ver7], errR 0) := by
    unfold doL req1
    rw [if_pos rfl, if_neg (by rw [show (⟨1, 0, ver7⟩ : VOp).v = ver7 from rfl, show ver7 = ⟨7, [], [], []⟩ from rfl, may_empty]; decide), if_neg (by rw [placeL_nil]; decide), if_neg (by decide)]
    rfl
  unfold applyS
  rw [show S0.vers = [] from rfl, hd]
  rfl
theorem all12 : (allS [req1, req2]).2 = [errR 0, ⟨0, [7], verN⟩] := by
  unfold allS
  rw [List.foldl_cons, apply1]
  rfl
set_option maxHeartbeats 4000000 in
theorem shown_ok (w0 : World) (A : St) : ACalls Try.prog w0 11 #[] A (fin (.bool true) A) := by
  refine call_E Try.enters11 Try.func11 rfl (Nat.le_of_ble_eq_true rfl) fun hw hbd => ?_
  simp (maxSteps := 1000000) (disch := (first | omega | (simp only [nx_alloc, nx_upd, len_cons, len_nil, List.length_set, List.length_map, List.length_append] <;> omega) | fail)) only [Nat.reduceAdd, Nat.reduceSub, Nat.reduceMul, Nat.reduceLT, Nat.reduceLeDiff, Nat.reduceEqDiff, ↓reduceIte, reduceCtorEq, Int.reduceAdd, Int.reduceSub, Int.reduceMul, Int.reduceLT, Int.reduceLE, Int.reduceEq, Int.reduceNe, Int.reduceToNat, Int.reduceNeg, go_sem, Try.ntmps11, Try.results11]
  generalize hA1 : A.alloc (.cells [.int .i64 1, .int .u32 1, .int .i64 1, .int .u32 0, .int .u32 7, .slice none 0 0, .slice none 0 0, .slice none 0 0, .int .i64 0, .int .u32 3, .int .i64 4, .int .u32 0, .int .u32 0, .slice none 0 0, .slice none 0 0, .slice none 0 0] 32 (some 0)) = A1
  have o1 : Over A A1 := by rw [← hA1]; exact (Over.refl A).alloc _
  have g1 : A1.get A.next = some (.cells [.int .i64 1, .int .u32 1, .int .i64 1, .int .u32 0, .int .u32 7, .slice none 0 0, .slice none 0 0, .slice none 0 0, .int .i64 0, .int .u32 3, .int .i64 4, .int .u32 0, .int .u32 0, .slice none 0 0, .slice none 0 0, .slice none 0 0] 32 (some 0)) := by rw [← hA1]; exact get_alloc_same ..
  have n1 : A1.next = A.next + 1 := by rw [← hA1]; rfl
  have hrq : RqV (A1.hide []) [req1, req2] (.slice (some ⟨A.next, 0, none⟩) 2 2) := by
    refine ⟨[[.int .i64 1, .int .u32 1, .int .i64 1, .int .u32 0, .int .u32 7, .slice none 0 0, .slice none 0 0, .slice none 0 0], [.int .i64 0, .int .u32 3, .int .i64 4, .int .u32 0, .int .u32 0, .slice none 0 0, .slice none 0 0, .slice none 0 0]], .cons ⟨_, rfl, _, rfl, _, _, _, rfl, View.nil .., View.nil .., View.nil ..⟩ (.cons ⟨_, rfl, _, rfl, _, _, _, rfl, View.nil .., View.nil .., View.nil ..⟩ .nil), fun cs h => ?_, rfl, .inr ⟨A.next, 0, none, 2, _, _, _, rfl, by rw [hide_next]; omega, g1, Nat.le_refl _, rfl⟩⟩
    simp only [List.mem_cons, List.not_mem_nil, or_false] at h
    rcases h with rfl | rfl <;> rfl
  have hok : ∀ r ∈ [req1, req2], r.ok := by
    intro r hr
    simp only [List.mem_cons, List.not_mem_nil, or_false] at hr
    rcases hr with rfl | rfl
    · exact ⟨by decide, by decide, by decide, by decide, by decide, by decide, by decide⟩
    · exact ⟨by decide, by decide, by decide, by decide, by decide, by decide, by decide⟩
  refine (all_ok w0 A1 [] (fun b hb => by cases hb) [req1, req2] _ hrq hok (by decide)).mono ?_
  rintro _ A2 ⟨cs, v, rfl, o2, hS, hR⟩
  rw [all12] at hR
  have hR2 : RsV A2 [errR 0, ⟨0, [7], verN⟩] v := hR
  have hS2 := hS.len
  have hst := stN (n := 22) (X := A2.alloc (.cells zState 43 (some 0))) (b := A2.next) (z := zState) (e := 43) rfl hS2.1 hS2.2
  have o3 : Over A2 ((A2.alloc (.cells zState 43 (some 0))).upd A2.next (some (.cells cs 43 (some 0)))) := ((Over.refl A2).alloc _).upd (Nat.le_refl _) _
  have hR3 := hR2.ge o3.ge
  unfold zState at hst o3 hR3
  simp (maxSteps := 1000000) (disch := (first | omega | (simp only [nx_alloc, nx_upd, len_cons, len_nil, List.length_set, List.length_map, List.length_append] <;> omega) | fail)) only [Nat.reduceAdd, Nat.reduceSub, Nat.reduceMul, Nat.reduceLT, Nat.reduceLeDiff, Nat.reduceEqDiff, ↓reduceIte, reduceCtorEq, Int.reduceAdd, Int.reduceSub, Int.reduceMul, Int.reduceLT, Int.reduceLE, Int.reduceEq, Int.reduceNe, Int.reduceToNat, Int.reduceNeg, go_sem, hst]
  have oF0 := (o1.trans o2).trans o3
  generalize (A2.alloc (.cells [.slice none 0 0, .int .u32 0, .int .u32 0, .int .u32 0, .int .i64 0, .slice none 0 0, .int .u32 0, .slice none 0 0, .slice none 0 0, .slice none 0 0, .int .i64 0, .slice none 0 0, .int .u32 0, .slice none 0 0, .slice none 0 0, .slice none 0 0, .int .i64 0, .slice none 0 0, .int .u32 0, .slice none 0 0, .slice none 0 0, .slice none 0 0] 43 (some 0))).upd A2.next (some (.cells cs 43 (some 0))) = A3 at *
  have hlen := NV.lenU (e := 40) hR3
  obtain ⟨b0, f0, c0, p0, x0, y0, z0, cl0, e0, m0, w0', u0, t0⟩ := hR3.at (P := Try.prog) (e := 40) Try.sz40 (i := 0) (a := errR 0) rfl
  obtain ⟨b1, f1, c1, p1, x1, y1, z1, cl1, e1, m1, w1', u1, t1⟩ := hR3.at (P := Try.prog) (e := 40) Try.sz40 (i := 1) (a := ⟨0, [7], verN⟩) rfl
  obtain ⟨iv, vs, rfl, hid, _⟩ := y1
  obtain ⟨iv0, vs0, rfl, _, _⟩ := y0
  have a00 := ld_one t0 0 (by decide)
  have a10 := ld_one t1 0 (by decide)
  have a11 := ld_one t1 1 (by decide)
  rw [Nat.add_zero] at a00 a10
  simp only [List.getElem?_cons_zero, List.getElem?_cons_succ] at a00 a10 a11
  have hil := View.lenU (e := 23) hid
  obtain ⟨d, g, s1, s2, s3, cells, e', md, s4, s5⟩ := View.at1 (P := Try.prog) (e := 23) (i := 0) (x := .int .u32 7) hid Try.sz23 rfl
  have x00 := x0 .i64
  have x11 := x1 .i64
  have s33 := s3 .i64
  simp only [Int.ofNat_zero, Int.ofNat_one, Int.natCast_zero, Int.natCast_one] at x00 x11 s33
  have oF := (o1.trans o2).trans o3
  have oF := oF0
  have hc2 : ((2 : Nat) : Int) = 2 := rfl
  have hc1 : ((1 : Nat) : Int) = 1 := rfl
  have he0 : (errR 0).e = 0 := rfl
  simp (maxSteps := 1000000) (disch := (first | omega | (simp only [nx_alloc, nx_upd, len_cons, len_nil, List.length_set, List.length_map, List.length_append] <;> omega) | fail)) only [Nat.reduceAdd, Nat.reduceSub, Nat.reduceMul, Nat.reduceLT, Nat.reduceLeDiff, Nat.reduceEqDiff, ↓reduceIte, reduceCtorEq, Int.reduceAdd, Int.reduceSub, Int.reduceMul, Int.reduceLT, Int.reduceLE, Int.reduceEq, Int.reduceNe, Int.reduceToNat, Int.reduceNeg, go_sem, hlen, x00, x11, s33, w0', w1', a00, a10, a11, hil, s4, s5, hc2, hc1, he0, Try.results11]
  exact gc_fin' hw oF rfl (.bool _)
end Go.Fw
