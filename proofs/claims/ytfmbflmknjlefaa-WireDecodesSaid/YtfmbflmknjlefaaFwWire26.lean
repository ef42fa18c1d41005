import Derived.Test.YtfmbflmknjlefaaFwWire25
set_option linter.unusedSimpArgs false
set_option linter.unusedVariables false
set_option maxRecDepth 4000
namespace Go.Fw
open Go.Proofs Go.RowKit
theorem Try.enters17 : Enters Try.prog 17 := enters_of Try.func17 rfl (by kernel_rfl)
def zL : List Value := [.int .i64 0, .int .i64 0, .int .i64 0, .int .u32 0, .int .u32 0, .int .i64 0, .int .i64 0, .slice none 0 0, .int .i64 0, .int .u32 0, .int .i64 0, .slice none 0 0, .int .u32 0, .slice none 0 0, .slice none 0 0, .slice none 0 0, .int .u8 0, .int .u8 0, .int .u8 0, .int .u8 0, .int .u8 0, .int .u8 0, .int .u8 0, .int .u8 0, .int .u8 0, .int .u8 0, .int .u8 0, .int .u8 0, .int .u8 0, .int .u8 0, .int .u8 0, .int .u8 0, .int .u8 0, .int .u8 0, .int .u8 0, .int .u8 0, .int .u8 0, .int .u8 0, .int .u8 0, .int .u8 0, .int .u8 0, .int .u8 0, .int .u8 0, .int .u8 0, .int .u8 0, .int .u8 0, .int .u8 0, .int .u8 0, .string ByteArray.empty]
theorem zL_eq : zL = msgZ := rfl
/-- What stays, while a message is read. -/
structure DK (A : St) (mc : List Value) (s : RS) (A' : St) : Prop where
  ov : Over A A'
  n : A.next + 3 ≤ A'.next
  res : A'.get A.next = some (.cells msgZ 53 (some 0))
  rd : A'.get (A.next + 1) = some (rsB s)
  ms : A'.get (A.next + 2) = some (.cells mc 53 (some 0))
theorem DK.rdr {A A' : St} {mc : List Value} {s : RS} (h : DK A mc s A') (s' : RS) : DK A mc s' (A'.upd (A.next + 1) (some (rsB s'))) :=
  ⟨h.ov.upd (by omega) _, h.n, by rw [get_upd_old (by omega)]; exact h.res, get_upd_same .., by rw [get_upd_old (by omega)]; exact h.ms⟩
theorem DK.set {A A' : St} {mc : List Value} {s : RS} (h : DK A mc s A') (mc' : List Value) : DK A mc' s (A'.upd (A.next + 2) (some (.cells mc' 53 (some 0)))) :=
  ⟨h.ov.upd (by omega) _, h.n, by rw [get_upd_old (by omega)]; exact h.res, by rw [get_upd_old (by omega)]; exact h.rd, get_upd_same ..⟩
theorem DK.step {A A' : St} {mc : List Value} {s : RS} (h : DK A mc s A') (mc' : List Value) (s' : RS) : DK A mc' s' ((A'.upd (A.next + 1) (some (rsB s'))).upd (A.next + 2) (some (.cells mc' 53 (some 0)))) := (h.rdr s').set mc'
theorem DK.ext {A A' A2 : St} {mc : List Value} {s : RS} (h : DK A mc s A') (o : Over A' A2) : DK A mc s A2 := by
  have hn := h.n
  exact ⟨h.ov.trans o, Nat.le_trans hn o.next, (o.get _ (by omega)).trans h.res, (o.get _ (by omega)).trans h.rd, (o.get _ (by omega)).trans h.ms⟩
theorem DK.kp {A A' A2 : St} {mc : List Value} {s : RS} (h : DK A mc s A') (hn : A'.next ≤ A2.next) (hk : ∀ b, b < A.next + 3 → A2.get b = A'.get b) : DK A mc s A2 := by
  have hn' := h.n
  exact ⟨⟨Nat.le_trans h.ov.next hn, fun b hb => (hk b (by omega)).trans (h.ov.get b hb)⟩, Nat.le_trans hn' hn, (hk _ (by omega)).trans h.res, (hk _ (by omega)).trans h.rd, (hk _ (by omega)).trans h.ms⟩
theorem LgRow.keepU {A A' : St} {lo : Nat} {l : List ReqT} {v : Value} {ids : List Int} {w : Value} (h : LgRow A lo l v) (hw : IdRow A lo ids w) (hn : A.next ≤ A'.next) (hk : ∀ b, b < A.next → rowB w ≠ some b → A'.get b = A.get b) : LgRow A' lo l v := by
  obtain ⟨css, h1, h2⟩ := h
  refine ⟨css, h1.imp fun x cs hx => ?_, Row.keepT h2 hn (fun b cs _ hlt hg => hk b hlt (Row.tag hw (by decide) hg)) (Nat.le_refl _)⟩
  obtain ⟨p, q, u, h1, h2, h3, h4⟩ := hx
  exact ⟨p, q, u, h1, Row.keepT h2 hn (fun b cs _ hlt hg => hk b hlt (Row.tag hw (by decide) hg)) (Nat.le_refl _), Row.keepT h3 hn (fun b cs _ hlt hg => hk b hlt (Row.tag hw (by decide) hg)) (Nat.le_refl _), Row.keepT h4 hn (fun b cs _ hlt hg => hk b hlt (Row.tag hw (by decide) hg)) (Nat.le_refl _)⟩
theorem manyQ_rw {most : Int} {s : RS} (hr : RW s.1) (hm : 0 ≤ most) : RW (manyQ most s).2.1 ∧ 0 ≤ (manyQ most s).1 ∧ (manyQ most s).1 ≤ most := by
  obtain ⟨a, b, c⟩ := fixS_rw hr (w := 1) (by omega) (by omega)
  unfold manyQ
  by_cases h1 : (fixS 1 s).2.2 = 0 ∧ (fixS 1 s).1 > most
  · rw [if_pos h1]; exact ⟨a, Int.le_refl _, hm⟩
  · rw [if_neg h1]
    by_cases h2 : (fixS 1 s).2.2 ≠ 0
    · rw [if_pos h2]; exact ⟨a, Int.le_refl _, hm⟩
    · rw [if_neg h2]
      refine ⟨a, b, ?_⟩
      have : ¬ (fixS 1 s).1 > most := fun h => h1 ⟨by simpa using h2, h⟩
      omega
theorem reqS_sm {s : RS} (hr : RW s.1) : RW (reqS s).2.1 ∧ (reqS s).1.op.v.small := by
  unfold reqS
  by_cases hs : s.2 ≠ 0
  · rw [if_pos hs]; exact ⟨hr, verN_small⟩
  · rw [if_neg hs]
    rcases hp : reqP s.1 with ⟨x, t, e⟩
    by_cases he : e = 0
    · subst he
      obtain ⟨_, _, h3, _, h5⟩ := reqP_inv hr hp
      exact ⟨h5, h3⟩
    · obtain ⟨rfl, rfl⟩ := reqP_err hp he
      exact ⟨⟨fun x hx => (by cases hx), by simp⟩, verN_small⟩
theorem progR_err {r : List Int} {V : VerT} {t : List Int} {e : Int} (h : progR r = (V, t, e)) (he : e ≠ 0) : V = V0 ∧ t = [] := by
  unfold progR at h
  split at h
  · cases h; exact ⟨rfl, rfl⟩
  · split at h
    · cases h; exact absurd rfl he
    · cases h; exact ⟨rfl, rfl⟩
theorem verS_sm {s : RS} (hr : RW s.1) : RW (verS s).2.1 ∧ (verS s).1.small := by
  unfold verS
  by_cases hs : s.2 ≠ 0
  · rw [if_pos hs]; exact ⟨hr, verN_small⟩
  · rw [if_neg hs]
    rcases hp : progR s.1 with ⟨x, t, e⟩
    by_cases he : e = 0
    · subst he
      obtain ⟨h1, h2, _⟩ := progR_rw hr hp
      exact ⟨h1, h2⟩
    · obtain ⟨rfl, rfl⟩ := progR_err hp he
      exact ⟨⟨fun x hx => (by cases hx), by simp⟩, verN_small⟩
theorem hashS_rw {s : RS} (hr : RW s.1) : RW (hashS s).2.1 := hashS_ok (n := 1048576) (s := s) hr
theorem textS_rw {s : RS} (hr : RW s.1) : RW (textS s).2.1 ∧ (textS s).1.length ≤ 1048576 := by
  refine ⟨textS_ok (n := 1048576) (s := s) hr, ?_⟩
  unfold textS
  by_cases hs : s.2 ≠ 0
  · rw [if_pos hs]; simp
  · rw [if_neg hs]
    obtain ⟨_, _, _, h4⟩ := readL_ok hr.1
    exact Nat.le_trans h4 hr.2
theorem mcl_len (k s d vw la n cm : Int) (lg : Value) (cl sq er : Int) (w : Value) (vi : Int) (p q u : Value) (h : HashT) (b : Value) : (.int .i64 k :: .int .i64 s :: .int .i64 d :: .int .u32 vw :: .int .u32 la :: .int .i64 n :: .int .i64 cm :: lg :: .int .i64 cl :: .int .u32 sq :: .int .i64 er :: w :: .int .u32 vi :: p :: q :: u :: (hsC h ++ [b])).length = 49 := by
  simp only [List.length_cons, List.length_append, hsC_len, List.length_nil]
theorem mcl_cell (k s d vw la n cm : Int) (lg : Value) (cl sq er : Int) (w : Value) (vi : Int) (p q u : Value) (h : HashT) (b : ByteArray) (h1 : cell1 lg = true) (h2 : cell1 w = true) (h3 : cell1 p = true) (h4 : cell1 q = true) (h5 : cell1 u = true) : (.int .i64 k :: .int .i64 s :: .int .i64 d :: .int .u32 vw :: .int .u32 la :: .int .i64 n :: .int .i64 cm :: lg :: .int .i64 cl :: .int .u32 sq :: .int .i64 er :: w :: .int .u32 vi :: p :: q :: u :: (hsC h ++ [.string b])).all cell1 = true := by
  simp only [List.all_cons, List.all_append, hsC_cell, h1, h2, h3, h4, h5]; rfl
theorem mcl_hset (a0 a1 a2 a3 a4 a5 a6 a7 a8 a9 a10 a11 a12 a13 a14 a15 : Value) (z h : HashT) (r : List Value) : setList (a0 :: a1 :: a2 :: a3 :: a4 :: a5 :: a6 :: a7 :: a8 :: a9 :: a10 :: a11 :: a12 :: a13 :: a14 :: a15 :: (hsC z ++ r)) 16 (hsC h) = a0 :: a1 :: a2 :: a3 :: a4 :: a5 :: a6 :: a7 :: a8 :: a9 :: a10 :: a11 :: a12 :: a13 :: a14 :: a15 :: (hsC h ++ r) :=
  setList_at0 (hsC h) [a0, a1, a2, a3, a4, a5, a6, a7, a8, a9, a10, a11, a12, a13, a14, a15] (hsC z) r (by rw [hsC_len, hsC_len])
theorem blk_set (h : HashT) (x v : Value) : (hsC h ++ [x]).set 32 v = hsC h ++ [v] := by
  rw [List.set_append_right _ _ (by rw [hsC_len]; exact Nat.le_refl _), hsC_len]; rfl
set_option maxHeartbeats 32000000 in
theorem rdec_ok (w0 : World) (A : St) (s : ByteArray) (hs : s.size ≤ 1048576) : ACalls Try.prog w0 17 #[.string s] A (DecPost A (decP (nums s))) := by
  have hw0 : RW (nums s) := ⟨nums_byte s, by rw [nums_length]; exact hs⟩
  generalize hr : nums s = r at *
  have hst : s = strOfNums r := by rw [← hr, str_nums]
  subst hst
  refine call_E (l := [.string (strOfNums r)]) Try.enters17 Try.func17 rfl (Nat.le_of_ble_eq_true rfl) fun hw hbd => ?_
  have hbld : abuild Try.prog 53 #[] = some (.agg zL.toArray) := by kernel_rfl
  have hZ : zL.length = 49 := rfl
  have hZc : zL.all cell1 = true := rfl
  have hstz := fun (X : St) (b : Nat) => stN (n := 49) (X := X) (b := b) (z := [.int .i64 0, .int .i64 0, .int .i64 0, .int .u32 0, .int .u32 0, .int .i64 0, .int .i64 0, .slice none 0 0, .int .i64 0, .int .u32 0, .int .i64 0, .slice none 0 0, .int .u32 0, .slice none 0 0, .slice none 0 0, .slice none 0 0, .int .u8 0, .int .u8 0, .int .u8 0, .int .u8 0, .int .u8 0, .int .u8 0, .int .u8 0, .int .u8 0, .int .u8 0, .int .u8 0, .int .u8 0, .int .u8 0, .int .u8 0, .int .u8 0, .int .u8 0, .int .u8 0, .int .u8 0, .int .u8 0, .int .u8 0, .int .u8 0, .int .u8 0, .int .u8 0, .int .u8 0, .int .u8 0, .int .u8 0, .int .u8 0, .int .u8 0, .int .u8 0, .int .u8 0, .int .u8 0, .int .u8 0, .int .u8 0, .string ByteArray.empty]) (cs := zL) (e := 53) rfl hZ hZc
  have hstR := fun (X : St) (b : Nat) => stN (n := 49) (X := X) (b := b) (z := msgZ) (cs := zL) (e := 53) rfl hZ hZc
  have hldz := ldN (n := 49) (cs := zL) (e := 53) (m := some 0) hZ
  simp (maxSteps := 1000000) (disch := (first | omega | (simp only [nx_alloc, nx_upd, len_cons, len_nil, List.length_set, List.length_map, List.length_append] <;> omega) | fail)) only [go_sem, Try.ntmps17, Try.results17, hbld, hstz]
  have j0 : DK A msgZ (r, 0) (((A.alloc (.cells [.int .i64 0, .int .i64 0, .int .i64 0, .int .u32 0, .int .u32 0, .int .i64 0, .int .i64 0, .slice none 0 0, .int .i64 0, .int .u32 0, .int .i64 0, .slice none 0 0, .int .u32 0, .slice none 0 0, .slice none 0 0, .slice none 0 0, .int .u8 0, .int .u8 0, .int .u8 0, .int .u8 0, .int .u8 0, .int .u8 0, .int .u8 0, .int .u8 0, .int .u8 0, .int .u8 0, .int .u8 0, .int .u8 0, .int .u8 0, .int .u8 0, .int .u8 0, .int .u8 0, .int .u8 0, .int .u8 0, .int .u8 0, .int .u8 0, .int .u8 0, .int .u8 0, .int .u8 0, .int .u8 0, .int .u8 0, .int .u8 0, .int .u8 0, .int .u8 0, .int .u8 0, .int .u8 0, .int .u8 0, .int .u8 0, .string ByteArray.empty] 53 (some 0))).alloc (.cells [.string (strOfNums r), .int .i64 0] 95 (some 0))).alloc (.cells [.int .i64 0, .int .i64 0, .int .i64 0, .int .u32 0, .int .u32 0, .int .i64 0, .int .i64 0, .slice none 0 0, .int .i64 0, .int .u32 0, .int .i64 0, .slice none 0 0, .int .u32 0, .slice none 0 0, .slice none 0 0, .slice none 0 0, .int .u8 0, .int .u8 0, .int .u8 0, .int .u8 0, .int .u8 0, .int .u8 0, .int .u8 0, .int .u8 0, .int .u8 0, .int .u8 0, .int .u8 0, .int .u8 0, .int .u8 0, .int .u8 0, .int .u8 0, .int .u8 0, .int .u8 0, .int .u8 0, .int .u8 0, .int .u8 0, .int .u8 0, .int .u8 0, .int .u8 0, .int .u8 0, .int .u8 0, .int .u8 0, .int .u8 0, .int .u8 0, .int .u8 0, .int .u8 0, .int .u8 0, .int .u8 0, .string ByteArray.empty] 53 (some 0)) |>.upd (A.next + 2) (some (.cells zL 53 (some 0)))) := by
    rw [zL_eq]
    refine ⟨((((Over.refl A).alloc _).alloc _).alloc _).upd (by omega) _, by simp only [nx_alloc, nx_upd]; omega, by simp (disch := (first | omega | (simp only [nx_alloc, nx_upd, len_cons, len_nil, List.length_set, List.length_map, List.length_append] <;> omega) | fail)) only [St.get_upd, St.get_alloc, St.next_alloc, St.next_upd, ↓reduceIte, natF_lt, natF_gt, natF_ne, Nat.add_assoc, Nat.reduceAdd, Nat.reduceEqDiff, Nat.add_left_cancel_iff]; rfl, by simp (disch := (first | omega | (simp only [nx_alloc, nx_upd, len_cons, len_nil, List.length_set, List.length_map, List.length_append] <;> omega) | fail)) only [St.get_upd, St.get_alloc, St.next_alloc, St.next_upd, ↓reduceIte, natF_lt, natF_gt, natF_ne, Nat.add_assoc, Nat.reduceAdd, Nat.reduceEqDiff, Nat.add_left_cancel_iff]; rfl, by simp (disch := (first | omega | (simp only [nx_alloc, nx_upd, len_cons, len_nil, List.length_set, List.length_map, List.length_append] <;> omega) | fail)) only [St.get_upd, St.get_alloc, St.next_alloc, St.next_upd, ↓reduceIte, natF_lt, natF_gt, natF_ne, Nat.add_assoc, Nat.reduceAdd, Nat.reduceEqDiff, Nat.add_left_cancel_iff]⟩
  change ACalls _ _ _ _ (((A.alloc (.cells [.int .i64 0, .int .i64 0, .int .i64 0, .int .u32 0, .int .u32 0, .int .i64 0, .int .i64 0, .slice none 0 0, .int .i64 0, .int .u32 0, .int .i64 0, .slice none 0 0, .int .u32 0, .slice none 0 0, .slice none 0 0, .slice none 0 0, .int .u8 0, .int .u8 0, .int .u8 0, .int .u8 0, .int .u8 0, .int .u8 0, .int .u8 0, .int .u8 0, .int .u8 0, .int .u8 0, .int .u8 0, .int .u8 0, .int .u8 0, .int .u8 0, .int .u8 0, .int .u8 0, .int .u8 0, .int .u8 0, .int .u8 0, .int .u8 0, .int .u8 0, .int .u8 0, .int .u8 0, .int .u8 0, .int .u8 0, .int .u8 0, .int .u8 0, .int .u8 0, .int .u8 0, .int .u8 0, .int .u8 0, .int .u8 0, .string ByteArray.empty] 53 (some 0))).alloc (.cells [.string (strOfNums r), .int .i64 0] 95 (some 0))).alloc (.cells [.int .i64 0, .int .i64 0, .int .i64 0, .int .u32 0, .int .u32 0, .int .i64 0, .int .i64 0, .slice none 0 0, .int .i64 0, .int .u32 0, .int .i64 0, .slice none 0 0, .int .u32 0, .slice none 0 0, .slice none 0 0, .slice none 0 0, .int .u8 0, .int .u8 0, .int .u8 0, .int .u8 0, .int .u8 0, .int .u8 0, .int .u8 0, .int .u8 0, .int .u8 0, .int .u8 0, .int .u8 0, .int .u8 0, .int .u8 0, .int .u8 0, .int .u8 0, .int .u8 0, .int .u8 0, .int .u8 0, .int .u8 0, .int .u8 0, .int .u8 0, .int .u8 0, .int .u8 0, .int .u8 0, .int .u8 0, .int .u8 0, .int .u8 0, .int .u8 0, .int .u8 0, .int .u8 0, .int .u8 0, .int .u8 0, .string ByteArray.empty] 53 (some 0)) |>.upd (A.next + 2) (some (.cells zL 53 (some 0)))) _
  generalize (((A.alloc (.cells [.int .i64 0, .int .i64 0, .int .i64 0, .int .u32 0, .int .u32 0, .int .i64 0, .int .i64 0, .slice none 0 0, .int .i64 0, .int .u32 0, .int .i64 0, .slice none 0 0, .int .u32 0, .slice none 0 0, .slice none 0 0, .slice none 0 0, .int .u8 0, .int .u8 0, .int .u8 0, .int .u8 0, .int .u8 0, .int .u8 0, .int .u8 0, .int .u8 0, .int .u8 0, .int .u8 0, .int .u8 0, .int .u8 0, .int .u8 0, .int .u8 0, .int .u8 0, .int .u8 0, .int .u8 0, .int .u8 0, .int .u8 0, .int .u8 0, .int .u8 0, .int .u8 0, .int .u8 0, .int .u8 0, .int .u8 0, .int .u8 0, .int .u8 0, .int .u8 0, .int .u8 0, .int .u8 0, .int .u8 0, .int .u8 0, .string ByteArray.empty] 53 (some 0))).alloc (.cells [.string (strOfNums r), .int .i64 0] 95 (some 0))).alloc (.cells [.int .i64 0, .int .i64 0, .int .i64 0, .int .u32 0, .int .u32 0, .int .i64 0, .int .i64 0, .slice none 0 0, .int .i64 0, .int .u32 0, .int .i64 0, .slice none 0 0, .int .u32 0, .slice none 0 0, .slice none 0 0, .slice none 0 0, .int .u8 0, .int .u8 0, .int .u8 0, .int .u8 0, .int .u8 0, .int .u8 0, .int .u8 0, .int .u8 0, .int .u8 0, .int .u8 0, .int .u8 0, .int .u8 0, .int .u8 0, .int .u8 0, .int .u8 0, .int .u8 0, .int .u8 0, .int .u8 0, .int .u8 0, .int .u8 0, .int .u8 0, .int .u8 0, .int .u8 0, .int .u8 0, .int .u8 0, .int .u8 0, .int .u8 0, .int .u8 0, .int .u8 0, .int .u8 0, .int .u8 0, .int .u8 0, .string ByteArray.empty] 53 (some 0)) |>.upd (A.next + 2) (some (.cells zL 53 (some 0)))) = A0 at *
  have hT : T1 msg0 (r, 0) = decP r := T1_eq r
  have hw0 : RW ((r, 0) : RS).1 := hw0
  generalize ((r, 0) : RS) = s0 at *
  change T1 ⟨0, 0, 0, 0, 0, 0, 0, [], 0, 0, ⟨0, [], verN⟩, zeroH, ByteArray.empty⟩ s0 = _ at hT
  change DK A (.int .i64 0 :: .int .i64 0 :: .int .i64 0 :: .int .u32 0 :: .int .u32 0 :: .int .i64 0 :: .int .i64 0 :: .slice none 0 0 :: .int .i64 0 :: .int .u32 0 :: .int .i64 0 :: .slice none 0 0 :: .int .u32 0 :: .slice none 0 0 :: .slice none 0 0 :: .slice none 0 0 :: (hsC zeroH ++ [.string ByteArray.empty])) s0 A0 at j0
  have hm0 := j0.ms
  refine call1 (rsfix_ok w0 A0 (A.next + 1) s0 1 j0.rd hw0) ?_
  obtain ⟨hw1, c0, d0⟩ := fixS_rw hw0 (w := 1) (by omega) (by omega)
  change T2 ⟨(fixS 1 s0).1, 0, 0, 0, 0, 0, 0, [], 0, 0, ⟨0, [], verN⟩, zeroH, ByteArray.empty⟩ (fixS 1 s0).2 = _ at hT
  rcases hq0 : fixS 1 s0 with ⟨kd, s1⟩
  rw [hq0] at hw1 c0 d0 hT
  dsimp only at hw1 c0 d0 hT ⊢
  clear hq0
  have d0' := d0
  simp only [Int.reduceToNat, Int.reducePow] at d0'
  have wr0 : IntKind.wrap .i64 kd = kd := IntWalk.i64_in _ (by constructor <;> omega)
  have j1 := j0.step (.int .i64 kd :: .int .i64 0 :: .int .i64 0 :: .int .u32 0 :: .int .u32 0 :: .int .i64 0 :: .int .i64 0 :: .slice none 0 0 :: .int .i64 0 :: .int .u32 0 :: .int .i64 0 :: .slice none 0 0 :: .int .u32 0 :: .slice none 0 0 :: .slice none 0 0 :: .slice none 0 0 :: (hsC zeroH ++ [.string ByteArray.empty])) s1
  simp (maxSteps := 1000000) (disch := (first | omega | (simp only [nx_alloc, nx_upd, len_cons, len_nil, List.length_set, List.length_map, List.length_append] <;> omega) | fail)) only [go_sem, hm0, wr0]
  change ACalls _ _ _ _ ((A0.upd (A.next + 1) (some (rsB s1))).upd (A.next + 2) (some (.cells (.int .i64 kd :: .int .i64 0 :: .int .i64 0 :: .int .u32 0 :: .int .u32 0 :: .int .i64 0 :: .int .i64 0 :: .slice none 0 0 :: .int .i64 0 :: .int .u32 0 :: .int .i64 0 :: .slice none 0 0 :: .int .u32 0 :: .slice none 0 0 :: .slice none 0 0 :: .slice none 0 0 :: (hsC zeroH ++ [.string ByteArray.empty])) 53 (some 0)))) _
  generalize ((A0.upd (A.next + 1) (some (rsB s1))).upd (A.next + 2) (some (.cells (.int .i64 kd :: .int .i64 0 :: .int .i64 0 :: .int .u32 0 :: .int .u32 0 :: .int .i64 0 :: .int .i64 0 :: .slice none 0 0 :: .int .i64 0 :: .int .u32 0 :: .int .i64 0 :: .slice none 0 0 :: .int .u32 0 :: .slice none 0 0 :: .slice none 0 0 :: .slice none 0 0 :: (hsC zeroH ++ [.string ByteArray.empty])) 53 (some 0)))) = A1 at *
  clear j0 hm0
  have hm1 := j1.ms
  refine call1 (rsfix_ok w0 A1 (A.next + 1) s1 1 j1.rd hw1) ?_
  obtain ⟨hw2, c1, d1⟩ := fixS_rw hw1 (w := 1) (by omega) (by omega)
  change T3 ⟨kd, (fixS 1 s1).1, 0, 0, 0, 0, 0, [], 0, 0, ⟨0, [], verN⟩, zeroH, ByteArray.empty⟩ (fixS 1 s1).2 = _ at hT
  rcases hq1 : fixS 1 s1 with ⟨sr, s2⟩
  rw [hq1] at hw2 c1 d1 hT
  dsimp only at hw2 c1 d1 hT ⊢
  clear hq1
  have d1' := d1
  simp only [Int.reduceToNat, Int.reducePow] at d1'
  have wr1 : IntKind.wrap .i64 sr = sr := IntWalk.i64_in _ (by constructor <;> omega)
  have j2 := j1.step (.int .i64 kd :: .int .i64 sr :: .int .i64 0 :: .int .u32 0 :: .int .u32 0 :: .int .i64 0 :: .int .i64 0 :: .slice none 0 0 :: .int .i64 0 :: .int .u32 0 :: .int .i64 0 :: .slice none 0 0 :: .int .u32 0 :: .slice none 0 0 :: .slice none 0 0 :: .slice none 0 0 :: (hsC zeroH ++ [.string ByteArray.empty])) s2
  simp (maxSteps := 1000000) (disch := (first | omega | (simp only [nx_alloc, nx_upd, len_cons, len_nil, List.length_set, List.length_map, List.length_append] <;> omega) | fail)) only [go_sem, hm1, wr1]
  change ACalls _ _ _ _ ((A1.upd (A.next + 1) (some (rsB s2))).upd (A.next + 2) (some (.cells (.int .i64 kd :: .int .i64 sr :: .int .i64 0 :: .int .u32 0 :: .int .u32 0 :: .int .i64 0 :: .int .i64 0 :: .slice none 0 0 :: .int .i64 0 :: .int .u32 0 :: .int .i64 0 :: .slice none 0 0 :: .int .u32 0 :: .slice none 0 0 :: .slice none 0 0 :: .slice none 0 0 :: (hsC zeroH ++ [.string ByteArray.empty])) 53 (some 0)))) _
  generalize ((A1.upd (A.next + 1) (some (rsB s2))).upd (A.next + 2) (some (.cells (.int .i64 kd :: .int .i64 sr :: .int .i64 0 :: .int .u32 0 :: .int .u32 0 :: .int .i64 0 :: .int .i64 0 :: .slice none 0 0 :: .int .i64 0 :: .int .u32 0 :: .int .i64 0 :: .slice none 0 0 :: .int .u32 0 :: .slice none 0 0 :: .slice none 0 0 :: .slice none 0 0 :: (hsC zeroH ++ [.string ByteArray.empty])) 53 (some 0)))) = A2 at *
  clear j1 hm1
  have hm2 := j2.ms
  refine call1 (rsfix_ok w0 A2 (A.next + 1) s2 1 j2.rd hw2) ?_
  obtain ⟨hw3, c2, d2⟩ := fixS_rw hw2 (w := 1) (by omega) (by omega)
  change T4 ⟨kd, sr, (fixS 1 s2).1, 0, 0, 0, 0, [], 0, 0, ⟨0, [], verN⟩, zeroH, ByteArray.empty⟩ (fixS 1 s2).2 = _ at hT
  rcases hq2 : fixS 1 s2 with ⟨ds, s3⟩
  rw [hq2] at hw3 c2 d2 hT
  dsimp only at hw3 c2 d2 hT ⊢
  clear hq2
  have d2' := d2
  simp only [Int.reduceToNat, Int.reducePow] at d2'
  have wr2 : IntKind.wrap .i64 ds = ds := IntWalk.i64_in _ (by constructor <;> omega)
  have j3 := j2.step (.int .i64 kd :: .int .i64 sr :: .int .i64 ds :: .int .u32 0 :: .int .u32 0 :: .int .i64 0 :: .int .i64 0 :: .slice none 0 0 :: .int .i64 0 :: .int .u32 0 :: .int .i64 0 :: .slice none 0 0 :: .int .u32 0 :: .slice none 0 0 :: .slice none 0 0 :: .slice none 0 0 :: (hsC zeroH ++ [.string ByteArray.empty])) s3
  simp (maxSteps := 1000000) (disch := (first | omega | (simp only [nx_alloc, nx_upd, len_cons, len_nil, List.length_set, List.length_map, List.length_append] <;> omega) | fail)) only [go_sem, hm2, wr2]
  change ACalls _ _ _ _ ((A2.upd (A.next + 1) (some (rsB s3))).upd (A.next + 2) (some (.cells (.int .i64 kd :: .int .i64 sr :: .int .i64 ds :: .int .u32 0 :: .int .u32 0 :: .int .i64 0 :: .int .i64 0 :: .slice none 0 0 :: .int .i64 0 :: .int .u32 0 :: .int .i64 0 :: .slice none 0 0 :: .int .u32 0 :: .slice none 0 0 :: .slice none 0 0 :: .slice none 0 0 :: (hsC zeroH ++ [.string ByteArray.empty])) 53 (some 0)))) _
  generalize ((A2.upd (A.next + 1) (some (rsB s3))).upd (A.next + 2) (some (.cells (.int .i64 kd :: .int .i64 sr :: .int .i64 ds :: .int .u32 0 :: .int .u32 0 :: .int .i64 0 :: .int .i64 0 :: .slice none 0 0 :: .int .i64 0 :: .int .u32 0 :: .int .i64 0 :: .slice none 0 0 :: .int .u32 0 :: .slice none 0 0 :: .slice none 0 0 :: .slice none 0 0 :: (hsC zeroH ++ [.string ByteArray.empty])) 53 (some 0)))) = A3 at *
  clear j2 hm2
  have hm3 := j3.ms
  refine call1 (rsfix_ok w0 A3 (A.next + 1) s3 4 j3.rd hw3) ?_
  obtain ⟨hw4, c3, d3⟩ := fixS_rw hw3 (w := 4) (by omega) (by omega)
  change T5 ⟨kd, sr, ds, (fixS 4 s3).1, 0, 0, 0, [], 0, 0, ⟨0, [], verN⟩, zeroH, ByteArray.empty⟩ (fixS 4 s3).2 = _ at hT
  rcases hq3 : fixS 4 s3 with ⟨vw, s4⟩
  rw [hq3] at hw4 c3 d3 hT
  dsimp only at hw4 c3 d3 hT ⊢
  clear hq3
  have d3' := d3
  simp only [Int.reduceToNat, Int.reducePow] at d3'
  have wr3 : IntKind.wrap .u32 vw = vw := IntWalk.u32_in _ (by constructor <;> omega)
  have j4 := j3.step (.int .i64 kd :: .int .i64 sr :: .int .i64 ds :: .int .u32 vw :: .int .u32 0 :: .int .i64 0 :: .int .i64 0 :: .slice none 0 0 :: .int .i64 0 :: .int .u32 0 :: .int .i64 0 :: .slice none 0 0 :: .int .u32 0 :: .slice none 0 0 :: .slice none 0 0 :: .slice none 0 0 :: (hsC zeroH ++ [.string ByteArray.empty])) s4
  simp (maxSteps := 1000000) (disch := (first | omega | (simp only [nx_alloc, nx_upd, len_cons, len_nil, List.length_set, List.length_map, List.length_append] <;> omega) | fail)) only [go_sem, hm3, wr3]
  change ACalls _ _ _ _ ((A3.upd (A.next + 1) (some (rsB s4))).upd (A.next + 2) (some (.cells (.int .i64 kd :: .int .i64 sr :: .int .i64 ds :: .int .u32 vw :: .int .u32 0 :: .int .i64 0 :: .int .i64 0 :: .slice none 0 0 :: .int .i64 0 :: .int .u32 0 :: .int .i64 0 :: .slice none 0 0 :: .int .u32 0 :: .slice none 0 0 :: .slice none 0 0 :: .slice none 0 0 :: (hsC zeroH ++ [.string ByteArray.empty])) 53 (some 0)))) _
  generalize ((A3.upd (A.next + 1) (some (rsB s4))).upd (A.next + 2) (some (.cells (.int .i64 kd :: .int .i64 sr :: .int .i64 ds :: .int .u32 vw :: .int .u32 0 :: .int .i64 0 :: .int .i64 0 :: .slice none 0 0 :: .int .i64 0 :: .int .u32 0 :: .int .i64 0 :: .slice none 0 0 :: .int .u32 0 :: .slice none 0 0 :: .slice none 0 0 :: .slice none 0 0 :: (hsC zeroH ++ [.string ByteArray.empty])) 53 (some 0)))) = A4 at *
  clear j3 hm3
  have hm4 := j4.ms
  refine call1 (rsfix_ok w0 A4 (A.next + 1) s4 4 j4.rd hw4) ?_
  obtain ⟨hw5, c4, d4⟩ := fixS_rw hw4 (w := 4) (by omega) (by omega)
  change T6 ⟨kd, sr, ds, vw, (fixS 4 s4).1, 0, 0, [], 0, 0, ⟨0, [], verN⟩, zeroH, ByteArray.empty⟩ (fixS 4 s4).2 = _ at hT
  rcases hq4 : fixS 4 s4 with ⟨la, s5⟩
  rw [hq4] at hw5 c4 d4 hT
  dsimp only at hw5 c4 d4 hT ⊢
  clear hq4
  have d4' := d4
  simp only [Int.reduceToNat, Int.reducePow] at d4'
  have wr4 : IntKind.wrap .u32 la = la := IntWalk.u32_in _ (by constructor <;> omega)
  have j5 := j4.step (.int .i64 kd :: .int .i64 sr :: .int .i64 ds :: .int .u32 vw :: .int .u32 la :: .int .i64 0 :: .int .i64 0 :: .slice none 0 0 :: .int .i64 0 :: .int .u32 0 :: .int .i64 0 :: .slice none 0 0 :: .int .u32 0 :: .slice none 0 0 :: .slice none 0 0 :: .slice none 0 0 :: (hsC zeroH ++ [.string ByteArray.empty])) s5
  simp (maxSteps := 1000000) (disch := (first | omega | (simp only [nx_alloc, nx_upd, len_cons, len_nil, List.length_set, List.length_map, List.length_append] <;> omega) | fail)) only [go_sem, hm4, wr4]
  change ACalls _ _ _ _ ((A4.upd (A.next + 1) (some (rsB s5))).upd (A.next + 2) (some (.cells (.int .i64 kd :: .int .i64 sr :: .int .i64 ds :: .int .u32 vw :: .int .u32 la :: .int .i64 0 :: .int .i64 0 :: .slice none 0 0 :: .int .i64 0 :: .int .u32 0 :: .int .i64 0 :: .slice none 0 0 :: .int .u32 0 :: .slice none 0 0 :: .slice none 0 0 :: .slice none 0 0 :: (hsC zeroH ++ [.string ByteArray.empty])) 53 (some 0)))) _
  generalize ((A4.upd (A.next + 1) (some (rsB s5))).upd (A.next + 2) (some (.cells (.int .i64 kd :: .int .i64 sr :: .int .i64 ds :: .int .u32 vw :: .int .u32 la :: .int .i64 0 :: .int .i64 0 :: .slice none 0 0 :: .int .i64 0 :: .int .u32 0 :: .int .i64 0 :: .slice none 0 0 :: .int .u32 0 :: .slice none 0 0 :: .slice none 0 0 :: .slice none 0 0 :: (hsC zeroH ++ [.string ByteArray.empty])) 53 (some 0)))) = A5 at *
  clear j4 hm4
  have hm5 := j5.ms
  refine call1 (rsfix_ok w0 A5 (A.next + 1) s5 1 j5.rd hw5) ?_
  obtain ⟨hw6, c5, d5⟩ := fixS_rw hw5 (w := 1) (by omega) (by omega)
  change T7 ⟨kd, sr, ds, vw, la, (fixS 1 s5).1, 0, [], 0, 0, ⟨0, [], verN⟩, zeroH, ByteArray.empty⟩ (fixS 1 s5).2 = _ at hT
  rcases hq5 : fixS 1 s5 with ⟨nn, s6⟩
  rw [hq5] at hw6 c5 d5 hT
  dsimp only at hw6 c5 d5 hT ⊢
  clear hq5
  have d5' := d5
  simp only [Int.reduceToNat, Int.reducePow] at d5'
  have wr5 : IntKind.wrap .i64 nn = nn := IntWalk.i64_in _ (by constructor <;> omega)
  have j6 := j5.step (.int .i64 kd :: .int .i64 sr :: .int .i64 ds :: .int .u32 vw :: .int .u32 la :: .int .i64 nn :: .int .i64 0 :: .slice none 0 0 :: .int .i64 0 :: .int .u32 0 :: .int .i64 0 :: .slice none 0 0 :: .int .u32 0 :: .slice none 0 0 :: .slice none 0 0 :: .slice none 0 0 :: (hsC zeroH ++ [.string ByteArray.empty])) s6
  simp (maxSteps := 1000000) (disch := (first | omega | (simp only [nx_alloc, nx_upd, len_cons, len_nil, List.length_set, List.length_map, List.length_append] <;> omega) | fail)) only [go_sem, hm5, wr5]
  change ACalls _ _ _ _ ((A5.upd (A.next + 1) (some (rsB s6))).upd (A.next + 2) (some (.cells (.int .i64 kd :: .int .i64 sr :: .int .i64 ds :: .int .u32 vw :: .int .u32 la :: .int .i64 nn :: .int .i64 0 :: .slice none 0 0 :: .int .i64 0 :: .int .u32 0 :: .int .i64 0 :: .slice none 0 0 :: .int .u32 0 :: .slice none 0 0 :: .slice none 0 0 :: .slice none 0 0 :: (hsC zeroH ++ [.string ByteArray.empty])) 53 (some 0)))) _
  generalize ((A5.upd (A.next + 1) (some (rsB s6))).upd (A.next + 2) (some (.cells (.int .i64 kd :: .int .i64 sr :: .int .i64 ds :: .int .u32 vw :: .int .u32 la :: .int .i64 nn :: .int .i64 0 :: .slice none 0 0 :: .int .i64 0 :: .int .u32 0 :: .int .i64 0 :: .slice none 0 0 :: .int .u32 0 :: .slice none 0 0 :: .slice none 0 0 :: .slice none 0 0 :: (hsC zeroH ++ [.string ByteArray.empty])) 53 (some 0)))) = A6 at *
  clear j5 hm5
  have hm6 := j6.ms
  refine call1 (rsfix_ok w0 A6 (A.next + 1) s6 1 j6.rd hw6) ?_
  obtain ⟨hw7, c6, d6⟩ := fixS_rw hw6 (w := 1) (by omega) (by omega)
  change T8 ⟨kd, sr, ds, vw, la, nn, (fixS 1 s6).1, [], 0, 0, ⟨0, [], verN⟩, zeroH, ByteArray.empty⟩ (fixS 1 s6).2 = _ at hT
  rcases hq6 : fixS 1 s6 with ⟨cm, s7⟩
  rw [hq6] at hw7 c6 d6 hT
  dsimp only at hw7 c6 d6 hT ⊢
  clear hq6
  have d6' := d6
  simp only [Int.reduceToNat, Int.reducePow] at d6'
  have wr6 : IntKind.wrap .i64 cm = cm := IntWalk.i64_in _ (by constructor <;> omega)
  have j7 := j6.step (.int .i64 kd :: .int .i64 sr :: .int .i64 ds :: .int .u32 vw :: .int .u32 la :: .int .i64 nn :: .int .i64 cm :: .slice none 0 0 :: .int .i64 0 :: .int .u32 0 :: .int .i64 0 :: .slice none 0 0 :: .int .u32 0 :: .slice none 0 0 :: .slice none 0 0 :: .slice none 0 0 :: (hsC zeroH ++ [.string ByteArray.empty])) s7
  simp (maxSteps := 1000000) (disch := (first | omega | (simp only [nx_alloc, nx_upd, len_cons, len_nil, List.length_set, List.length_map, List.length_append] <;> omega) | fail)) only [go_sem, hm6, wr6]
  change ACalls _ _ _ _ ((A6.upd (A.next + 1) (some (rsB s7))).upd (A.next + 2) (some (.cells (.int .i64 kd :: .int .i64 sr :: .int .i64 ds :: .int .u32 vw :: .int .u32 la :: .int .i64 nn :: .int .i64 cm :: .slice none 0 0 :: .int .i64 0 :: .int .u32 0 :: .int .i64 0 :: .slice none 0 0 :: .int .u32 0 :: .slice none 0 0 :: .slice none 0 0 :: .slice none 0 0 :: (hsC zeroH ++ [.string ByteArray.empty])) 53 (some 0)))) _
  generalize ((A6.upd (A.next + 1) (some (rsB s7))).upd (A.next + 2) (some (.cells (.int .i64 kd :: .int .i64 sr :: .int .i64 ds :: .int .u32 vw :: .int .u32 la :: .int .i64 nn :: .int .i64 cm :: .slice none 0 0 :: .int .i64 0 :: .int .u32 0 :: .int .i64 0 :: .slice none 0 0 :: .int .u32 0 :: .slice none 0 0 :: .slice none 0 0 :: .slice none 0 0 :: (hsC zeroH ++ [.string ByteArray.empty])) 53 (some 0)))) = A7 at *
  clear j6 hm6
  refine call1 (rsmany_ok w0 A7 (A.next + 1) s7 40 j7.rd hw7) ?_
  obtain ⟨hw8, c7, d7⟩ := manyQ_rw (most := 40) hw7 (by omega)
  change T9 ⟨kd, sr, ds, vw, la, nn, cm, [], 0, 0, ⟨0, [], verN⟩, zeroH, ByteArray.empty⟩ (reqsN (manyQ 40 s7).1.toNat (manyQ 40 s7).2 []) = _ at hT
  rcases hq7 : manyQ 40 s7 with ⟨kk, s8⟩
  rw [hq7] at hw8 c7 d7 hT
  dsimp only at hw8 c7 d7 hT ⊢
  clear hq7
  obtain ⟨k, rfl⟩ := Int.eq_ofNat_of_zero_le c7
  rw [Int.toNat_natCast] at hT
  have j8 := j7.rdr s8
  generalize hA8 : A7.upd (A.next + 1) (some (rsB s8)) = A8 at *
  simp (maxSteps := 1000000) (disch := (first | omega | (simp only [nx_alloc, nx_upd, len_cons, len_nil, List.length_set, List.length_map, List.length_append] <;> omega) | fail)) only [go_sem]
  refine aw_loop (fun y x A' => ∃ (ρ : Nat → Value) (i : Nat) (acc : List ReqT) (t : RS) (lg : Value), x = E 117 ρ [] ∧ y = k - i ∧ i ≤ k ∧ acc.length = i ∧ RW t.1 ∧ DK A (.int .i64 kd :: .int .i64 sr :: .int .i64 ds :: .int .u32 vw :: .int .u32 la :: .int .i64 nn :: .int .i64 cm :: lg :: .int .i64 0 :: .int .u32 0 :: .int .i64 0 :: .slice none 0 0 :: .int .u32 0 :: .slice none 0 0 :: .slice none 0 0 :: .slice none 0 0 :: (hsC zeroH ++ [.string ByteArray.empty])) t A' ∧ LgRow A' (A.next + 3) acc lg ∧ (∀ r ∈ acc, r.op.v.small) ∧ T9 ⟨kd, sr, ds, vw, la, nn, cm, [], 0, 0, ⟨0, [], verN⟩, zeroH, ByteArray.empty⟩ (reqsN (k - i) t acc) = decP r ∧
      ρ 2 = .pointer (some ⟨A.next, 0, none⟩) ∧ ρ 4 = .pointer (some ⟨A.next + 1, 0, none⟩) ∧ ρ 5 = .pointer (some ⟨A.next + 2, 0, none⟩) ∧ ρ 6 = .int .i64 k ∧ ρ 7 = .int .i64 i) k
    ⟨_, 0, [], s8, _, rfl, rfl, Nat.zero_le _, rfl, hw8, j8, ⟨[], .nil, Row.nil ..⟩, (fun r h => by cases h), hT, rfl, rfl, rfl, rfl, rfl⟩ ?_
  clear hT j7 j8 hA8
  rintro y x A' ⟨ρ, i, acc, t, lg, rfl, hy, hi, hal, wt, j, hlg, hsm, hT, r2, r4, r5, r6, r7⟩
  refine aw_of ?_
  have hms := j.ms
  have hlv := hlg.one
  have hlc := cellOf1 hlv
  by_cases hend : i = k
  rotate_left
  · have e1 : (i : Int) < k := by omega
    obtain ⟨q, hq⟩ : ∃ q, k - i = q + 1 := ⟨k - i - 1, by omega⟩
    rw [hq] at hT
    change T9 ⟨kd, sr, ds, vw, la, nn, cm, [], 0, 0, ⟨0, [], verN⟩, zeroH, ByteArray.empty⟩ (reqsN q (reqS t).2 (acc ++ [(reqS t).1])) = _ at hT
    obtain ⟨wt2, hx2⟩ := reqS_sm wt
    have hcall := rsreq_ok w0 A' (A.next + 1) t j.rd wt
    rcases hq9 : reqS t with ⟨x, t2⟩
    rw [hq9] at wt2 hx2 hT hcall
    dsimp only at wt2 hx2 hT hcall
    clear hq9
    simp (maxSteps := 1000000) (disch := (first | omega | (simp only [nx_alloc, nx_upd, len_cons, len_nil, List.length_set, List.length_map, List.length_append] <;> omega) | fail)) only [go_sem, r2, r4, r5, r6, r7]
    refine AW.mono (Q := fun e a A9 => e = .normal ∧ ∃ ρ' lg', a = E 117 ρ' [] ∧ ρ' 2 = .pointer (some ⟨A.next, 0, none⟩) ∧ ρ' 4 = .pointer (some ⟨A.next + 1, 0, none⟩) ∧ ρ' 5 = .pointer (some ⟨A.next + 2, 0, none⟩) ∧ ρ' 6 = .int .i64 k ∧ ρ' 7 = .int .i64 i ∧ DK A (.int .i64 kd :: .int .i64 sr :: .int .i64 ds :: .int .u32 vw :: .int .u32 la :: .int .i64 nn :: .int .i64 cm :: lg' :: .int .i64 0 :: .int .u32 0 :: .int .i64 0 :: .slice none 0 0 :: .int .u32 0 :: .slice none 0 0 :: .slice none 0 0 :: .slice none 0 0 :: (hsC zeroH ++ [.string ByteArray.empty])) t2 A9 ∧ LgRow A9 (A.next + 3) (acc ++ [x]) lg') ?_ ?_
    · refine aw_drawS (by kernel_rfl) ?_
      have key : ∀ (v : Value) (A2 : St), Over (A'.upd (A.next + 1) (some (rsB t2))) A2 → ReqRow A2 A'.next x v → ∃ xs v' A4, v = .agg xs.toArray ∧ xs.length = 8 ∧ xs.all cell1 = true ∧ A2.get (A.next + 2) = some (.cells (.int .i64 kd :: .int .i64 sr :: .int .i64 ds :: .int .u32 vw :: .int .u32 la :: .int .i64 nn :: .int .i64 cm :: lg :: .int .i64 0 :: .int .u32 0 :: .int .i64 0 :: .slice none 0 0 :: .int .u32 0 :: .slice none 0 0 :: .slice none 0 0 :: .slice none 0 0 :: (hsC zeroH ++ [.string ByteArray.empty])) 53 (some 0)) ∧ A.next + 3 ≤ A2.next ∧ aappend Try.prog (A2.alloc (.cells xs 31 (some 0))) 37 37 lg (.slice (some ⟨A2.next, 0, none⟩) 1 1) = some (v', A4) ∧ one1 v' = true ∧ A4.get (A.next + 2) = some (.cells (.int .i64 kd :: .int .i64 sr :: .int .i64 ds :: .int .u32 vw :: .int .u32 la :: .int .i64 nn :: .int .i64 cm :: lg :: .int .i64 0 :: .int .u32 0 :: .int .i64 0 :: .slice none 0 0 :: .int .u32 0 :: .slice none 0 0 :: .slice none 0 0 :: .slice none 0 0 :: (hsC zeroH ++ [.string ByteArray.empty])) 53 (some 0)) ∧ DK A (.int .i64 kd :: .int .i64 sr :: .int .i64 ds :: .int .u32 vw :: .int .u32 la :: .int .i64 nn :: .int .i64 cm :: v' :: .int .i64 0 :: .int .u32 0 :: .int .i64 0 :: .slice none 0 0 :: .int .u32 0 :: .slice none 0 0 :: .slice none 0 0 :: .slice none 0 0 :: (hsC zeroH ++ [.string ByteArray.empty])) t2 (A4.upd (A.next + 2) (some (.cells (.int .i64 kd :: .int .i64 sr :: .int .i64 ds :: .int .u32 vw :: .int .u32 la :: .int .i64 nn :: .int .i64 cm :: v' :: .int .i64 0 :: .int .u32 0 :: .int .i64 0 :: .slice none 0 0 :: .int .u32 0 :: .slice none 0 0 :: .slice none 0 0 :: .slice none 0 0 :: (hsC zeroH ++ [.string ByteArray.empty])) 53 (some 0)))) ∧ LgRow (A4.upd (A.next + 2) (some (.cells (.int .i64 kd :: .int .i64 sr :: .int .i64 ds :: .int .u32 vw :: .int .u32 la :: .int .i64 nn :: .int .i64 cm :: v' :: .int .i64 0 :: .int .u32 0 :: .int .i64 0 :: .slice none 0 0 :: .int .u32 0 :: .slice none 0 0 :: .slice none 0 0 :: .slice none 0 0 :: (hsC zeroH ++ [.string ByteArray.empty])) 53 (some 0)))) (A.next + 3) (acc ++ [x]) v' := by
        intro v A2 o2 hv
        have jn := j.n
        have n2 := o2.next
        change A'.next ≤ A2.next at n2
        have j2 : DK A (.int .i64 kd :: .int .i64 sr :: .int .i64 ds :: .int .u32 vw :: .int .u32 la :: .int .i64 nn :: .int .i64 cm :: lg :: .int .i64 0 :: .int .u32 0 :: .int .i64 0 :: .slice none 0 0 :: .int .u32 0 :: .slice none 0 0 :: .slice none 0 0 :: .slice none 0 0 :: (hsC zeroH ++ [.string ByteArray.empty])) t2 A2 := (j.rdr t2).ext o2
        have hl2 : LgRow A2 (A.next + 3) acc lg := hlg.keep n2 (fun b h1 h2 => (o2.get b h2).trans (get_upd_old (by omega))) (Nat.le_refl _)
        have hv2 : ReqRow A2 (A.next + 3) x v := hv.keep (Nat.le_refl _) (fun b _ _ => rfl) jn
        have hvv := hv2
        obtain ⟨p, q', u, rfl, _⟩ := hvv
        obtain ⟨v', A4, hap, hl4, n4, hf4⟩ := rq_push hl2 hv2 j2.n (by omega)
        have hlx := hv2.len
        have hne : ∀ b, b < A.next + 3 → rowB lg ≠ some b := fun b hb => by
          obtain ⟨css, _, hrow⟩ := hl2
          exact Row.ne hrow hb
        have j4 : DK A (.int .i64 kd :: .int .i64 sr :: .int .i64 ds :: .int .u32 vw :: .int .u32 la :: .int .i64 nn :: .int .i64 cm :: lg :: .int .i64 0 :: .int .u32 0 :: .int .i64 0 :: .slice none 0 0 :: .int .u32 0 :: .slice none 0 0 :: .slice none 0 0 :: .slice none 0 0 :: (hsC zeroH ++ [.string ByteArray.empty])) t2 A4 := j2.kp (by omega) fun b hb => hf4 b (by have := j2.n; omega) (hne b hb)
        have j5 := j4.set (.int .i64 kd :: .int .i64 sr :: .int .i64 ds :: .int .u32 vw :: .int .u32 la :: .int .i64 nn :: .int .i64 cm :: v' :: .int .i64 0 :: .int .u32 0 :: .int .i64 0 :: .slice none 0 0 :: .int .u32 0 :: .slice none 0 0 :: .slice none 0 0 :: .slice none 0 0 :: (hsC zeroH ++ [.string ByteArray.empty]))
        refine ⟨_, v', A4, rfl, hlx.1, hlx.2, j2.ms, j2.n, hap, hl4.one, j4.ms, j5, hl4.keep (Nat.le_refl _) (fun b h1 h2 => get_upd_old (by omega)) (Nat.le_refl _)⟩
      refine Ords.split 0 3 rfl ?_ ?_
      · refine Ords.split 1 3 rfl ?_ ?_
        · skip
          refine Ords.cut [0, 1, 2] [4, 5, 6, 7] 3 (by kernel_rfl) ?_
          refine Ords.run [⟨false, [], [0]⟩, ⟨false, [0], [0]⟩, ⟨false, [], [0]⟩] [A'] 0 (by kernel_rfl) (by kernel_rfl) rfl ?_
          simp (maxSteps := 1000000) (disch := (first | omega | (simp only [nx_alloc, nx_upd, len_cons, len_nil, List.length_set, List.length_map, List.length_append] <;> omega) | fail)) only [go_sem, subOps_toList, getD_arr0, getD_arrS, reO_mk, reO_mkG, ixOf, Option.bind_none, Option.map_none, thenN_normal, after_ret, r4, r5, hms]
          refine hcall.mono ?_
          rintro e A2 ⟨v, rfl, o2, hv⟩
          obtain ⟨xs, v', A4, rfl, hx8, hxc, hms2, n2, hap, hv1, hms4, j5, hl5⟩ := key v A2 o2 hv
          have hcx := List.take_of_length_le (Nat.le_of_eq hx8)
          have hbs : abuildSlice Try.prog A2 37 1 #[(0, .agg xs.toArray)] = some (.slice (some ⟨A2.next, 0, none⟩) 1 1, A2.alloc (.cells xs 31 (some 0))) := by
            have := Try.bsl37 A2 1 [(0, .agg xs.toArray)] (by decide)
            refine this.trans ?_
            simp [fillP, places, zerosR, sliceO, thenElse, cells_agg, hx8, set_all]
          simp (maxSteps := 1000000) (disch := (first | omega | (simp only [nx_alloc, nx_upd, len_cons, len_nil, List.length_set, List.length_map, List.length_append] <;> omega) | fail)) only [go_sem]
          refine Ords.run [⟨true, [], [0]⟩, ⟨true, [0], [1]⟩, ⟨false, [0, 1], [2]⟩, ⟨true, [2, 1, 0], [2]⟩] [A2, A2.alloc (.cells xs 31 (some 0)), A4, A4.upd (A.next + 2) (some (.cells (.int .i64 kd :: .int .i64 sr :: .int .i64 ds :: .int .u32 vw :: .int .u32 la :: .int .i64 nn :: .int .i64 cm :: v' :: .int .i64 0 :: .int .u32 0 :: .int .i64 0 :: .slice none 0 0 :: .int .u32 0 :: .slice none 0 0 :: .slice none 0 0 :: .slice none 0 0 :: (hsC zeroH ++ [.string ByteArray.empty])) 53 (some 0)))] 3 (by kernel_rfl) (by kernel_rfl) rfl ?_
          have hms3 : (A2.alloc (.cells xs 31 (some 0))).get (A.next + 2) = _ := (get_alloc_old (by omega)).trans hms2
          have hsv := fun (X : St) => storeC_val (A := X) (b := A.next + 2) (off := 7) (k := 0) (cs := .int .i64 kd :: .int .i64 sr :: .int .i64 ds :: .int .u32 vw :: .int .u32 la :: .int .i64 nn :: .int .i64 cm :: lg :: .int .i64 0 :: .int .u32 0 :: .int .i64 0 :: .slice none 0 0 :: .int .u32 0 :: .slice none 0 0 :: .slice none 0 0 :: .slice none 0 0 :: (hsC zeroH ++ [.string ByteArray.empty])) (e := 53) hv1 (Nat.zero_le _) (by rw [mcl_len]; decide)
          simp (maxSteps := 1000000) (disch := (first | omega | (simp only [nx_alloc, nx_upd, len_cons, len_nil, List.length_set, List.length_map, List.length_append] <;> omega) | fail)) only [go_sem, subOps_toList, getD_arr0, getD_arrS, reO_mk, reO_mkG, ixOf, Option.bind_none, Option.map_none, thenN_normal, after_ret, r4, r5, hms2, hms3, hms4, hbs, hap, hsv]
          refine ⟨_, v', rfl, ?_, ?_, ?_, ?_, ?_, j5, hl5⟩
          · simp (maxSteps := 1000000) (disch := (first | omega | (simp only [nx_alloc, nx_upd, len_cons, len_nil, List.length_set, List.length_map, List.length_append] <;> omega) | fail)) only [go_sem, r2]
          · simp (maxSteps := 1000000) (disch := (first | omega | (simp only [nx_alloc, nx_upd, len_cons, len_nil, List.length_set, List.length_map, List.length_append] <;> omega) | fail)) only [go_sem, r4]
          · simp (maxSteps := 1000000) (disch := (first | omega | (simp only [nx_alloc, nx_upd, len_cons, len_nil, List.length_set, List.length_map, List.length_append] <;> omega) | fail)) only [go_sem, r5]
          · simp (maxSteps := 1000000) (disch := (first | omega | (simp only [nx_alloc, nx_upd, len_cons, len_nil, List.length_set, List.length_map, List.length_append] <;> omega) | fail)) only [go_sem, r6]
          · simp (maxSteps := 1000000) (disch := (first | omega | (simp only [nx_alloc, nx_upd, len_cons, len_nil, List.length_set, List.length_map, List.length_append] <;> omega) | fail)) only [go_sem, r7]
        · skip
          refine Ords.cut [0, 2] [1, 4, 5, 6, 7] 3 (by kernel_rfl) ?_
          refine Ords.run [⟨false, [], [0]⟩, ⟨false, [], [0]⟩] [A'] 0 (by kernel_rfl) (by kernel_rfl) rfl ?_
          simp (maxSteps := 1000000) (disch := (first | omega | (simp only [nx_alloc, nx_upd, len_cons, len_nil, List.length_set, List.length_map, List.length_append] <;> omega) | fail)) only [go_sem, subOps_toList, getD_arr0, getD_arrS, reO_mk, reO_mkG, ixOf, Option.bind_none, Option.map_none, thenN_normal, after_ret, r4, r5, hms]
          refine hcall.mono ?_
          rintro e A2 ⟨v, rfl, o2, hv⟩
          obtain ⟨xs, v', A4, rfl, hx8, hxc, hms2, n2, hap, hv1, hms4, j5, hl5⟩ := key v A2 o2 hv
          have hcx := List.take_of_length_le (Nat.le_of_eq hx8)
          have hbs : abuildSlice Try.prog A2 37 1 #[(0, .agg xs.toArray)] = some (.slice (some ⟨A2.next, 0, none⟩) 1 1, A2.alloc (.cells xs 31 (some 0))) := by
            have := Try.bsl37 A2 1 [(0, .agg xs.toArray)] (by decide)
            refine this.trans ?_
            simp [fillP, places, zerosR, sliceO, thenElse, cells_agg, hx8, set_all]
          simp (maxSteps := 1000000) (disch := (first | omega | (simp only [nx_alloc, nx_upd, len_cons, len_nil, List.length_set, List.length_map, List.length_append] <;> omega) | fail)) only [go_sem]
          refine Ords.run [⟨false, [], [0, 1]⟩, ⟨true, [], [0]⟩, ⟨true, [0, 1], [1]⟩, ⟨false, [0, 1, 2], [2]⟩, ⟨true, [3, 2, 0, 1], [2]⟩] [A2, A2.alloc (.cells xs 31 (some 0)), A4, A4.upd (A.next + 2) (some (.cells (.int .i64 kd :: .int .i64 sr :: .int .i64 ds :: .int .u32 vw :: .int .u32 la :: .int .i64 nn :: .int .i64 cm :: v' :: .int .i64 0 :: .int .u32 0 :: .int .i64 0 :: .slice none 0 0 :: .int .u32 0 :: .slice none 0 0 :: .slice none 0 0 :: .slice none 0 0 :: (hsC zeroH ++ [.string ByteArray.empty])) 53 (some 0)))] 3 (by kernel_rfl) (by kernel_rfl) rfl ?_
          have hms3 : (A2.alloc (.cells xs 31 (some 0))).get (A.next + 2) = _ := (get_alloc_old (by omega)).trans hms2
          have hsv := fun (X : St) => storeC_val (A := X) (b := A.next + 2) (off := 7) (k := 0) (cs := .int .i64 kd :: .int .i64 sr :: .int .i64 ds :: .int .u32 vw :: .int .u32 la :: .int .i64 nn :: .int .i64 cm :: lg :: .int .i64 0 :: .int .u32 0 :: .int .i64 0 :: .slice none 0 0 :: .int .u32 0 :: .slice none 0 0 :: .slice none 0 0 :: .slice none 0 0 :: (hsC zeroH ++ [.string ByteArray.empty])) (e := 53) hv1 (Nat.zero_le _) (by rw [mcl_len]; decide)
          simp (maxSteps := 1000000) (disch := (first | omega | (simp only [nx_alloc, nx_upd, len_cons, len_nil, List.length_set, List.length_map, List.length_append] <;> omega) | fail)) only [go_sem, subOps_toList, getD_arr0, getD_arrS, reO_mk, reO_mkG, ixOf, Option.bind_none, Option.map_none, thenN_normal, after_ret, r4, r5, hms2, hms3, hms4, hbs, hap, hsv]
          refine ⟨_, v', rfl, ?_, ?_, ?_, ?_, ?_, j5, hl5⟩
          · simp (maxSteps := 1000000) (disch := (first | omega | (simp only [nx_alloc, nx_upd, len_cons, len_nil, List.length_set, List.length_map, List.length_append] <;> omega) | fail)) only [go_sem, r2]
          · simp (maxSteps := 1000000) (disch := (first | omega | (simp only [nx_alloc, nx_upd, len_cons, len_nil, List.length_set, List.length_map, List.length_append] <;> omega) | fail)) only [go_sem, r4]
          · simp (maxSteps := 1000000) (disch := (first | omega | (simp only [nx_alloc, nx_upd, len_cons, len_nil, List.length_set, List.length_map, List.length_append] <;> omega) | fail)) only [go_sem, r5]
          · simp (maxSteps := 1000000) (disch := (first | omega | (simp only [nx_alloc, nx_upd, len_cons, len_nil, List.length_set, List.length_map, List.length_append] <;> omega) | fail)) only [go_sem, r6]
          · simp (maxSteps := 1000000) (disch := (first | omega | (simp only [nx_alloc, nx_upd, len_cons, len_nil, List.length_set, List.length_map, List.length_append] <;> omega) | fail)) only [go_sem, r7]
      · refine Ords.split 1 3 rfl ?_ ?_
        · skip
          refine Ords.cut [2] [0, 1, 4, 5, 6, 7] 3 (by kernel_rfl) ?_
          refine Ords.run [⟨false, [], [0]⟩] [A'] 0 (by kernel_rfl) (by kernel_rfl) rfl ?_
          simp (maxSteps := 1000000) (disch := (first | omega | (simp only [nx_alloc, nx_upd, len_cons, len_nil, List.length_set, List.length_map, List.length_append] <;> omega) | fail)) only [go_sem, subOps_toList, getD_arr0, getD_arrS, reO_mk, reO_mkG, ixOf, Option.bind_none, Option.map_none, thenN_normal, after_ret, r4, r5, hms]
          refine hcall.mono ?_
          rintro e A2 ⟨v, rfl, o2, hv⟩
          obtain ⟨xs, v', A4, rfl, hx8, hxc, hms2, n2, hap, hv1, hms4, j5, hl5⟩ := key v A2 o2 hv
          have hcx := List.take_of_length_le (Nat.le_of_eq hx8)
          have hbs : abuildSlice Try.prog A2 37 1 #[(0, .agg xs.toArray)] = some (.slice (some ⟨A2.next, 0, none⟩) 1 1, A2.alloc (.cells xs 31 (some 0))) := by
            have := Try.bsl37 A2 1 [(0, .agg xs.toArray)] (by decide)
            refine this.trans ?_
            simp [fillP, places, zerosR, sliceO, thenElse, cells_agg, hx8, set_all]
          simp (maxSteps := 1000000) (disch := (first | omega | (simp only [nx_alloc, nx_upd, len_cons, len_nil, List.length_set, List.length_map, List.length_append] <;> omega) | fail)) only [go_sem]
          refine Ords.run [⟨false, [], [0, 1]⟩, ⟨false, [0], [0, 1]⟩, ⟨true, [], [0]⟩, ⟨true, [1, 2, 0], [1]⟩, ⟨false, [0, 1, 2, 3], [2]⟩, ⟨true, [4, 3, 0, 1, 2], [2]⟩] [A2, A2.alloc (.cells xs 31 (some 0)), A4, A4.upd (A.next + 2) (some (.cells (.int .i64 kd :: .int .i64 sr :: .int .i64 ds :: .int .u32 vw :: .int .u32 la :: .int .i64 nn :: .int .i64 cm :: v' :: .int .i64 0 :: .int .u32 0 :: .int .i64 0 :: .slice none 0 0 :: .int .u32 0 :: .slice none 0 0 :: .slice none 0 0 :: .slice none 0 0 :: (hsC zeroH ++ [.string ByteArray.empty])) 53 (some 0)))] 3 (by kernel_rfl) (by kernel_rfl) rfl ?_
          have hms3 : (A2.alloc (.cells xs 31 (some 0))).get (A.next + 2) = _ := (get_alloc_old (by omega)).trans hms2
          have hsv := fun (X : St) => storeC_val (A := X) (b := A.next + 2) (off := 7) (k := 0) (cs := .int .i64 kd :: .int .i64 sr :: .int .i64 ds :: .int .u32 vw :: .int .u32 la :: .int .i64 nn :: .int .i64 cm :: lg :: .int .i64 0 :: .int .u32 0 :: .int .i64 0 :: .slice none 0 0 :: .int .u32 0 :: .slice none 0 0 :: .slice none 0 0 :: .slice none 0 0 :: (hsC zeroH ++ [.string ByteArray.empty])) (e := 53) hv1 (Nat.zero_le _) (by rw [mcl_len]; decide)
          simp (maxSteps := 1000000) (disch := (first | omega | (simp only [nx_alloc, nx_upd, len_cons, len_nil, List.length_set, List.length_map, List.length_append] <;> omega) | fail)) only [go_sem, subOps_toList, getD_arr0, getD_arrS, reO_mk, reO_mkG, ixOf, Option.bind_none, Option.map_none, thenN_normal, after_ret, r4, r5, hms2, hms3, hms4, hbs, hap, hsv]
          refine ⟨_, v', rfl, ?_, ?_, ?_, ?_, ?_, j5, hl5⟩
          · simp (maxSteps := 1000000) (disch := (first | omega | (simp only [nx_alloc, nx_upd, len_cons, len_nil, List.length_set, List.length_map, List.length_append] <;> omega) | fail)) only [go_sem, r2]
          · simp (maxSteps := 1000000) (disch := (first | omega | (simp only [nx_alloc, nx_upd, len_cons, len_nil, List.length_set, List.length_map, List.length_append] <;> omega) | fail)) only [go_sem, r4]
          · simp (maxSteps := 1000000) (disch := (first | omega | (simp only [nx_alloc, nx_upd, len_cons, len_nil, List.length_set, List.length_map, List.length_append] <;> omega) | fail)) only [go_sem, r5]
          · simp (maxSteps := 1000000) (disch := (first | omega | (simp only [nx_alloc, nx_upd, len_cons, len_nil, List.length_set, List.length_map, List.length_append] <;> omega) | fail)) only [go_sem, r6]
          · simp (maxSteps := 1000000) (disch := (first | omega | (simp only [nx_alloc, nx_upd, len_cons, len_nil, List.length_set, List.length_map, List.length_append] <;> omega) | fail)) only [go_sem, r7]
        · skip
          refine Ords.cut [2] [0, 1, 4, 5, 6, 7] 3 (by kernel_rfl) ?_
          refine Ords.run [⟨false, [], [0]⟩] [A'] 0 (by kernel_rfl) (by kernel_rfl) rfl ?_
          simp (maxSteps := 1000000) (disch := (first | omega | (simp only [nx_alloc, nx_upd, len_cons, len_nil, List.length_set, List.length_map, List.length_append] <;> omega) | fail)) only [go_sem, subOps_toList, getD_arr0, getD_arrS, reO_mk, reO_mkG, ixOf, Option.bind_none, Option.map_none, thenN_normal, after_ret, r4, r5, hms]
          refine hcall.mono ?_
          rintro e A2 ⟨v, rfl, o2, hv⟩
          obtain ⟨xs, v', A4, rfl, hx8, hxc, hms2, n2, hap, hv1, hms4, j5, hl5⟩ := key v A2 o2 hv
          have hcx := List.take_of_length_le (Nat.le_of_eq hx8)
          have hbs : abuildSlice Try.prog A2 37 1 #[(0, .agg xs.toArray)] = some (.slice (some ⟨A2.next, 0, none⟩) 1 1, A2.alloc (.cells xs 31 (some 0))) := by
            have := Try.bsl37 A2 1 [(0, .agg xs.toArray)] (by decide)
            refine this.trans ?_
            simp [fillP, places, zerosR, sliceO, thenElse, cells_agg, hx8, set_all]
          simp (maxSteps := 1000000) (disch := (first | omega | (simp only [nx_alloc, nx_upd, len_cons, len_nil, List.length_set, List.length_map, List.length_append] <;> omega) | fail)) only [go_sem]
          refine Ords.run [⟨false, [], [0, 1]⟩, ⟨false, [0], [0, 1]⟩, ⟨true, [], [0]⟩, ⟨true, [1, 2, 0], [1]⟩, ⟨false, [0, 1, 2, 3], [2]⟩, ⟨true, [4, 3, 0, 1, 2], [2]⟩] [A2, A2.alloc (.cells xs 31 (some 0)), A4, A4.upd (A.next + 2) (some (.cells (.int .i64 kd :: .int .i64 sr :: .int .i64 ds :: .int .u32 vw :: .int .u32 la :: .int .i64 nn :: .int .i64 cm :: v' :: .int .i64 0 :: .int .u32 0 :: .int .i64 0 :: .slice none 0 0 :: .int .u32 0 :: .slice none 0 0 :: .slice none 0 0 :: .slice none 0 0 :: (hsC zeroH ++ [.string ByteArray.empty])) 53 (some 0)))] 3 (by kernel_rfl) (by kernel_rfl) rfl ?_
          have hms3 : (A2.alloc (.cells xs 31 (some 0))).get (A.next + 2) = _ := (get_alloc_old (by omega)).trans hms2
          have hsv := fun (X : St) => storeC_val (A := X) (b := A.next + 2) (off := 7) (k := 0) (cs := .int .i64 kd :: .int .i64 sr :: .int .i64 ds :: .int .u32 vw :: .int .u32 la :: .int .i64 nn :: .int .i64 cm :: lg :: .int .i64 0 :: .int .u32 0 :: .int .i64 0 :: .slice none 0 0 :: .int .u32 0 :: .slice none 0 0 :: .slice none 0 0 :: .slice none 0 0 :: (hsC zeroH ++ [.string ByteArray.empty])) (e := 53) hv1 (Nat.zero_le _) (by rw [mcl_len]; decide)
          simp (maxSteps := 1000000) (disch := (first | omega | (simp only [nx_alloc, nx_upd, len_cons, len_nil, List.length_set, List.length_map, List.length_append] <;> omega) | fail)) only [go_sem, subOps_toList, getD_arr0, getD_arrS, reO_mk, reO_mkG, ixOf, Option.bind_none, Option.map_none, thenN_normal, after_ret, r4, r5, hms2, hms3, hms4, hbs, hap, hsv]
          refine ⟨_, v', rfl, ?_, ?_, ?_, ?_, ?_, j5, hl5⟩
          · simp (maxSteps := 1000000) (disch := (first | omega | (simp only [nx_alloc, nx_upd, len_cons, len_nil, List.length_set, List.length_map, List.length_append] <;> omega) | fail)) only [go_sem, r2]
          · simp (maxSteps := 1000000) (disch := (first | omega | (simp only [nx_alloc, nx_upd, len_cons, len_nil, List.length_set, List.length_map, List.length_append] <;> omega) | fail)) only [go_sem, r4]
          · simp (maxSteps := 1000000) (disch := (first | omega | (simp only [nx_alloc, nx_upd, len_cons, len_nil, List.length_set, List.length_map, List.length_append] <;> omega) | fail)) only [go_sem, r5]
          · simp (maxSteps := 1000000) (disch := (first | omega | (simp only [nx_alloc, nx_upd, len_cons, len_nil, List.length_set, List.length_map, List.length_append] <;> omega) | fail)) only [go_sem, r6]
          · simp (maxSteps := 1000000) (disch := (first | omega | (simp only [nx_alloc, nx_upd, len_cons, len_nil, List.length_set, List.length_map, List.length_append] <;> omega) | fail)) only [go_sem, r7]
    · rintro e a A9 ⟨rfl, ρ', lg', rfl, r2, r4, r5, r6, r7, j9, hl9⟩
      simp (maxSteps := 1000000) (disch := (first | omega | (simp only [nx_alloc, nx_upd, len_cons, len_nil, List.length_set, List.length_map, List.length_append] <;> omega) | fail)) only [go_sem, r7]
      refine ⟨y - 1, by omega, _, i + 1, acc ++ [x], t2, lg', rfl, by omega, by omega, by simp [hal], wt2, j9, hl9, ?_, ?_, ?_, ?_, ?_, ?_, ?_⟩
      · intro z hz
        rcases List.mem_append.1 hz with hz | hz
        · exact hsm z hz
        · rw [List.mem_singleton.1 hz]; exact hx2
      · rw [show k - (i + 1) = q by omega]; exact hT
      · simp (maxSteps := 1000000) (disch := (first | omega | (simp only [nx_alloc, nx_upd, len_cons, len_nil, List.length_set, List.length_map, List.length_append] <;> omega) | fail)) only [go_sem, r2]
      · simp (maxSteps := 1000000) (disch := (first | omega | (simp only [nx_alloc, nx_upd, len_cons, len_nil, List.length_set, List.length_map, List.length_append] <;> omega) | fail)) only [go_sem, r4]
      · simp (maxSteps := 1000000) (disch := (first | omega | (simp only [nx_alloc, nx_upd, len_cons, len_nil, List.length_set, List.length_map, List.length_append] <;> omega) | fail)) only [go_sem, r5]
      · simp (maxSteps := 1000000) (disch := (first | omega | (simp only [nx_alloc, nx_upd, len_cons, len_nil, List.length_set, List.length_map, List.length_append] <;> omega) | fail)) only [go_sem, r6]
      · simp (maxSteps := 1000000) (disch := (first | omega | (simp only [nx_alloc, nx_upd, len_cons, len_nil, List.length_set, List.length_map, List.length_append] <;> omega) | fail)) only [go_sem]
        rfl
  have e1 : ¬ ((i : Int) < k) := by omega
  rw [hend, Nat.sub_self] at hT
  have hal40 : acc.length ≤ 40 := by omega
  change T10 ⟨kd, sr, ds, vw, la, nn, cm, acc, 0, 0, ⟨0, [], verN⟩, zeroH, ByteArray.empty⟩ t = _ at hT
  simp (maxSteps := 1000000) (disch := (first | omega | (simp only [nx_alloc, nx_upd, len_cons, len_nil, List.length_set, List.length_map, List.length_append] <;> omega) | fail)) only [go_sem, r2, r4, r5, r6, r7]
  change ACalls _ _ _ _ A' _
  generalize hA8' : A' = A8 at *
  clear hA8'
  obtain ⟨s8, hs8⟩ : ∃ s8, s8 = t := ⟨_, rfl⟩
  rw [← hs8] at hT j wt
  obtain ⟨j8, hw8⟩ : DK A (.int .i64 kd :: .int .i64 sr :: .int .i64 ds :: .int .u32 vw :: .int .u32 la :: .int .i64 nn :: .int .i64 cm :: lg :: .int .i64 0 :: .int .u32 0 :: .int .i64 0 :: .slice none 0 0 :: .int .u32 0 :: .slice none 0 0 :: .slice none 0 0 :: .slice none 0 0 :: (hsC zeroH ++ [.string ByteArray.empty])) s8 A8 ∧ RW s8.1 := ⟨j, wt⟩
  clear j wt hms hs8
  have hm8 := j8.ms
  have hn8 := j8.n
  refine call1 (rsfix_ok w0 A8 (A.next + 1) s8 1 j8.rd hw8) ?_
  obtain ⟨hw9, c8, d8⟩ := fixS_rw hw8 (w := 1) (by omega) (by omega)
  change T11 ⟨kd, sr, ds, vw, la, nn, cm, acc, (fixS 1 s8).1, 0, ⟨0, [], verN⟩, zeroH, ByteArray.empty⟩ (fixS 1 s8).2 = _ at hT
  rcases hq8 : fixS 1 s8 with ⟨cl, s9⟩
  rw [hq8] at hw9 c8 d8 hT
  dsimp only at hw9 c8 d8 hT ⊢
  clear hq8
  have d8' := d8
  simp only [Int.reduceToNat, Int.reducePow] at d8'
  have wr8 : IntKind.wrap .i64 cl = cl := IntWalk.i64_in _ (by constructor <;> omega)
  have j9 := j8.step (.int .i64 kd :: .int .i64 sr :: .int .i64 ds :: .int .u32 vw :: .int .u32 la :: .int .i64 nn :: .int .i64 cm :: lg :: .int .i64 cl :: .int .u32 0 :: .int .i64 0 :: .slice none 0 0 :: .int .u32 0 :: .slice none 0 0 :: .slice none 0 0 :: .slice none 0 0 :: (hsC zeroH ++ [.string ByteArray.empty])) s9
  have hlgN := hlg.kp (KeepLo.two (a := A.next + 2) (c := A.next + 1) (B1 := some (rsB s9)) (B2 := some (.cells (.int .i64 kd :: .int .i64 sr :: .int .i64 ds :: .int .u32 vw :: .int .u32 la :: .int .i64 nn :: .int .i64 cm :: lg :: .int .i64 cl :: .int .u32 0 :: .int .i64 0 :: .slice none 0 0 :: .int .u32 0 :: .slice none 0 0 :: .slice none 0 0 :: .slice none 0 0 :: (hsC zeroH ++ [.string ByteArray.empty])) 53 (some 0))) (by omega) (by omega))
  clear hlg
  have hlg := hlgN
  clear hlgN
  simp (maxSteps := 1000000) (disch := (first | omega | (simp only [nx_alloc, nx_upd, len_cons, len_nil, List.length_set, List.length_map, List.length_append] <;> omega) | fail)) only [go_sem, r2, r4, r5, hm8, wr8]
  change ACalls _ _ _ _ ((A8.upd (A.next + 1) (some (rsB s9))).upd (A.next + 2) (some (.cells (.int .i64 kd :: .int .i64 sr :: .int .i64 ds :: .int .u32 vw :: .int .u32 la :: .int .i64 nn :: .int .i64 cm :: lg :: .int .i64 cl :: .int .u32 0 :: .int .i64 0 :: .slice none 0 0 :: .int .u32 0 :: .slice none 0 0 :: .slice none 0 0 :: .slice none 0 0 :: (hsC zeroH ++ [.string ByteArray.empty])) 53 (some 0)))) _
  generalize ((A8.upd (A.next + 1) (some (rsB s9))).upd (A.next + 2) (some (.cells (.int .i64 kd :: .int .i64 sr :: .int .i64 ds :: .int .u32 vw :: .int .u32 la :: .int .i64 nn :: .int .i64 cm :: lg :: .int .i64 cl :: .int .u32 0 :: .int .i64 0 :: .slice none 0 0 :: .int .u32 0 :: .slice none 0 0 :: .slice none 0 0 :: .slice none 0 0 :: (hsC zeroH ++ [.string ByteArray.empty])) 53 (some 0)))) = A9 at *
  clear j8 hm8 hn8
  have hm9 := j9.ms
  have hn9 := j9.n
  refine call1 (rsfix_ok w0 A9 (A.next + 1) s9 4 j9.rd hw9) ?_
  obtain ⟨hw10, c9, d9⟩ := fixS_rw hw9 (w := 4) (by omega) (by omega)
  change T12 ⟨kd, sr, ds, vw, la, nn, cm, acc, cl, (fixS 4 s9).1, ⟨0, [], verN⟩, zeroH, ByteArray.empty⟩ (fixS 4 s9).2 = _ at hT
  rcases hq9 : fixS 4 s9 with ⟨sq, s10⟩
  rw [hq9] at hw10 c9 d9 hT
  dsimp only at hw10 c9 d9 hT ⊢
  clear hq9
  have d9' := d9
  simp only [Int.reduceToNat, Int.reducePow] at d9'
  have wr9 : IntKind.wrap .u32 sq = sq := IntWalk.u32_in _ (by constructor <;> omega)
  have j10 := j9.step (.int .i64 kd :: .int .i64 sr :: .int .i64 ds :: .int .u32 vw :: .int .u32 la :: .int .i64 nn :: .int .i64 cm :: lg :: .int .i64 cl :: .int .u32 sq :: .int .i64 0 :: .slice none 0 0 :: .int .u32 0 :: .slice none 0 0 :: .slice none 0 0 :: .slice none 0 0 :: (hsC zeroH ++ [.string ByteArray.empty])) s10
  have hlgN := hlg.kp (KeepLo.two (a := A.next + 2) (c := A.next + 1) (B1 := some (rsB s10)) (B2 := some (.cells (.int .i64 kd :: .int .i64 sr :: .int .i64 ds :: .int .u32 vw :: .int .u32 la :: .int .i64 nn :: .int .i64 cm :: lg :: .int .i64 cl :: .int .u32 sq :: .int .i64 0 :: .slice none 0 0 :: .int .u32 0 :: .slice none 0 0 :: .slice none 0 0 :: .slice none 0 0 :: (hsC zeroH ++ [.string ByteArray.empty])) 53 (some 0))) (by omega) (by omega))
  clear hlg
  have hlg := hlgN
  clear hlgN
  simp (maxSteps := 1000000) (disch := (first | omega | (simp only [nx_alloc, nx_upd, len_cons, len_nil, List.length_set, List.length_map, List.length_append] <;> omega) | fail)) only [go_sem, r2, r4, r5, hm9, wr9]
  change ACalls _ _ _ _ ((A9.upd (A.next + 1) (some (rsB s10))).upd (A.next + 2) (some (.cells (.int .i64 kd :: .int .i64 sr :: .int .i64 ds :: .int .u32 vw :: .int .u32 la :: .int .i64 nn :: .int .i64 cm :: lg :: .int .i64 cl :: .int .u32 sq :: .int .i64 0 :: .slice none 0 0 :: .int .u32 0 :: .slice none 0 0 :: .slice none 0 0 :: .slice none 0 0 :: (hsC zeroH ++ [.string ByteArray.empty])) 53 (some 0)))) _
  generalize ((A9.upd (A.next + 1) (some (rsB s10))).upd (A.next + 2) (some (.cells (.int .i64 kd :: .int .i64 sr :: .int .i64 ds :: .int .u32 vw :: .int .u32 la :: .int .i64 nn :: .int .i64 cm :: lg :: .int .i64 cl :: .int .u32 sq :: .int .i64 0 :: .slice none 0 0 :: .int .u32 0 :: .slice none 0 0 :: .slice none 0 0 :: .slice none 0 0 :: (hsC zeroH ++ [.string ByteArray.empty])) 53 (some 0)))) = A10 at *
  clear j9 hm9 hn9
  have hm10 := j10.ms
  have hn10 := j10.n
  refine call1 (rsfix_ok w0 A10 (A.next + 1) s10 2 j10.rd hw10) ?_
  obtain ⟨hw11, c10, d10⟩ := fixS_rw hw10 (w := 2) (by omega) (by omega)
  change T13 ⟨kd, sr, ds, vw, la, nn, cm, acc, cl, sq, ⟨(fixS 2 s10).1, [], verN⟩, zeroH, ByteArray.empty⟩ (fixS 2 s10).2 = _ at hT
  rcases hq10 : fixS 2 s10 with ⟨er, s11⟩
  rw [hq10] at hw11 c10 d10 hT
  dsimp only at hw11 c10 d10 hT ⊢
  clear hq10
  have d10' := d10
  simp only [Int.reduceToNat, Int.reducePow] at d10'
  have wr10 : IntKind.wrap .i64 er = er := IntWalk.i64_in _ (by constructor <;> omega)
  have j11 := j10.step (.int .i64 kd :: .int .i64 sr :: .int .i64 ds :: .int .u32 vw :: .int .u32 la :: .int .i64 nn :: .int .i64 cm :: lg :: .int .i64 cl :: .int .u32 sq :: .int .i64 er :: .slice none 0 0 :: .int .u32 0 :: .slice none 0 0 :: .slice none 0 0 :: .slice none 0 0 :: (hsC zeroH ++ [.string ByteArray.empty])) s11
  have hlgN := hlg.kp (KeepLo.two (a := A.next + 2) (c := A.next + 1) (B1 := some (rsB s11)) (B2 := some (.cells (.int .i64 kd :: .int .i64 sr :: .int .i64 ds :: .int .u32 vw :: .int .u32 la :: .int .i64 nn :: .int .i64 cm :: lg :: .int .i64 cl :: .int .u32 sq :: .int .i64 er :: .slice none 0 0 :: .int .u32 0 :: .slice none 0 0 :: .slice none 0 0 :: .slice none 0 0 :: (hsC zeroH ++ [.string ByteArray.empty])) 53 (some 0))) (by omega) (by omega))
  clear hlg
  have hlg := hlgN
  clear hlgN
  simp (maxSteps := 1000000) (disch := (first | omega | (simp only [nx_alloc, nx_upd, len_cons, len_nil, List.length_set, List.length_map, List.length_append] <;> omega) | fail)) only [go_sem, r2, r4, r5, hm10, wr10]
  change ACalls _ _ _ _ ((A10.upd (A.next + 1) (some (rsB s11))).upd (A.next + 2) (some (.cells (.int .i64 kd :: .int .i64 sr :: .int .i64 ds :: .int .u32 vw :: .int .u32 la :: .int .i64 nn :: .int .i64 cm :: lg :: .int .i64 cl :: .int .u32 sq :: .int .i64 er :: .slice none 0 0 :: .int .u32 0 :: .slice none 0 0 :: .slice none 0 0 :: .slice none 0 0 :: (hsC zeroH ++ [.string ByteArray.empty])) 53 (some 0)))) _
  generalize ((A10.upd (A.next + 1) (some (rsB s11))).upd (A.next + 2) (some (.cells (.int .i64 kd :: .int .i64 sr :: .int .i64 ds :: .int .u32 vw :: .int .u32 la :: .int .i64 nn :: .int .i64 cm :: lg :: .int .i64 cl :: .int .u32 sq :: .int .i64 er :: .slice none 0 0 :: .int .u32 0 :: .slice none 0 0 :: .slice none 0 0 :: .slice none 0 0 :: (hsC zeroH ++ [.string ByteArray.empty])) 53 (some 0)))) = A11 at *
  clear j10 hm10 hn10
  have hn11 := j11.n
  refine call1 (rsmany_ok w0 A11 (A.next + 1) s11 8 j11.rd hw11) ?_
  obtain ⟨hw12, c11, d11⟩ := manyQ_rw (most := 8) hw11 (by omega)
  change T14 ⟨kd, sr, ds, vw, la, nn, cm, acc, cl, sq, ⟨er, [], verN⟩, zeroH, ByteArray.empty⟩ (idsN (manyQ 8 s11).1.toNat (manyQ 8 s11).2 []) = _ at hT
  rcases hq11 : manyQ 8 s11 with ⟨kk, s12⟩
  rw [hq11] at hw12 c11 d11 hT
  dsimp only at hw12 c11 d11 hT ⊢
  clear hq11
  obtain ⟨k2, rfl⟩ := Int.eq_ofNat_of_zero_le c11
  rw [Int.toNat_natCast] at hT
  have j12 := j11.rdr s12
  have hlgN := hlg.kp (KeepLo.one (a := A.next + 1) (B1 := some (rsB s12)) (by omega))
  clear hlg
  have hlg := hlgN
  clear hlgN
  generalize hA8 : A11.upd (A.next + 1) (some (rsB s12)) = A12 at *
  simp (maxSteps := 1000000) (disch := (first | omega | (simp only [nx_alloc, nx_upd, len_cons, len_nil, List.length_set, List.length_map, List.length_append] <;> omega) | fail)) only [go_sem, r2, r4, r5,]
  refine aw_loop (fun y x A' => ∃ (ρ : Nat → Value) (i : Nat) (ids : List Int) (t : RS) (w : Value), x = E 117 ρ [] ∧ y = k2 - i ∧ i ≤ k2 ∧ ids.length = i ∧ RW t.1 ∧ DK A (.int .i64 kd :: .int .i64 sr :: .int .i64 ds :: .int .u32 vw :: .int .u32 la :: .int .i64 nn :: .int .i64 cm :: lg :: .int .i64 cl :: .int .u32 sq :: .int .i64 er :: w :: .int .u32 0 :: .slice none 0 0 :: .slice none 0 0 :: .slice none 0 0 :: (hsC zeroH ++ [.string ByteArray.empty])) t A' ∧ LgRow A' (A.next + 3) acc lg ∧ IdRow A' (A.next + 3) ids w ∧ T14 ⟨kd, sr, ds, vw, la, nn, cm, acc, cl, sq, ⟨er, [], verN⟩, zeroH, ByteArray.empty⟩ (idsN (k2 - i) t ids) = decP r ∧
      ρ 2 = .pointer (some ⟨A.next, 0, none⟩) ∧ ρ 4 = .pointer (some ⟨A.next + 1, 0, none⟩) ∧ ρ 5 = .pointer (some ⟨A.next + 2, 0, none⟩) ∧ ρ 8 = .int .i64 k2 ∧ ρ 9 = .int .i64 i) k2
    ⟨_, 0, [], s12, _, rfl, rfl, Nat.zero_le _, rfl, hw12, j12, hlg, Row.nil .., hT, by first | rfl | exact r2, by first | rfl | exact r4, by first | rfl | exact r5, rfl, rfl⟩ ?_
  clear hT j11 j12 hA8 hlg r2 r4 r5 r6 r7
  rintro y x A' ⟨ρ, i, ids, t, w, rfl, hy, hi, hil, wt, j, hlg, hid, hT, r2, r4, r5, r8, r9⟩
  refine aw_of ?_
  have hms := j.ms
  have jn := j.n
  have hwv := Row.sing hid
  have hwc := cellOf1 hwv
  by_cases hend : i = k2
  rotate_left
  · have e1 : (i : Int) < k2 := by omega
    obtain ⟨q, hq⟩ : ∃ q, k2 - i = q + 1 := ⟨k2 - i - 1, by omega⟩
    rw [hq] at hT
    change T14 ⟨kd, sr, ds, vw, la, nn, cm, acc, cl, sq, ⟨er, [], verN⟩, zeroH, ByteArray.empty⟩ (idsN q (fixS 4 t).2 (ids ++ [(fixS 4 t).1])) = _ at hT
    obtain ⟨wt2, cx, dx⟩ := fixS_rw wt (w := 4) (by omega) (by omega)
    have hcall := rsfix_ok w0 A' (A.next + 1) t 4 j.rd wt
    rcases hq9 : fixS 4 t with ⟨x, t2⟩
    rw [hq9] at wt2 cx dx hT hcall
    dsimp only at wt2 cx dx hT hcall
    clear hq9
    have dx' : x < 4294967296 := by simpa using dx
    have wrx : IntKind.wrap .u32 x = x := IntWalk.u32_in _ (by constructor <;> omega)
    have j2 := j.rdr t2
    have hms2 := j2.ms
    have hid2 := Row.kp hid (KeepLo.one (a := A.next + 1) (B1 := some (rsB t2)) (by omega))
    have hlg2 := hlg.kp (KeepLo.one (a := A.next + 1) (B1 := some (rsB t2)) (by omega))
    obtain ⟨A2, hA2⟩ : ∃ A2, A2 = A'.upd (A.next + 1) (some (rsB t2)) := ⟨_, rfl⟩
    rw [← hA2] at j2 hms2 hid2 hlg2 hcall
    obtain ⟨w', A4, hap, hid4, n4, hrb, hf4⟩ := id_push hid2 x j2.n (by omega)
    have hwv' := Row.sing hid4
    have hlg4 : LgRow A4 (A.next + 3) acc lg := hlg2.keepU hid2 (by omega) hf4
    have j4 : DK A (.int .i64 kd :: .int .i64 sr :: .int .i64 ds :: .int .u32 vw :: .int .u32 la :: .int .i64 nn :: .int .i64 cm :: lg :: .int .i64 cl :: .int .u32 sq :: .int .i64 er :: w :: .int .u32 0 :: .slice none 0 0 :: .slice none 0 0 :: .slice none 0 0 :: (hsC zeroH ++ [.string ByteArray.empty])) t2 A4 := j2.kp (by omega) fun b hb => hf4 b (by have := j2.n; omega) (Row.ne hid2 hb)
    have hms4 := j4.ms
    have j5 := j4.set (.int .i64 kd :: .int .i64 sr :: .int .i64 ds :: .int .u32 vw :: .int .u32 la :: .int .i64 nn :: .int .i64 cm :: lg :: .int .i64 cl :: .int .u32 sq :: .int .i64 er :: w' :: .int .u32 0 :: .slice none 0 0 :: .slice none 0 0 :: .slice none 0 0 :: (hsC zeroH ++ [.string ByteArray.empty]))
    have hid5 := Row.kp hid4 (KeepLo.one (a := A.next + 2) (B1 := some (.cells (.int .i64 kd :: .int .i64 sr :: .int .i64 ds :: .int .u32 vw :: .int .u32 la :: .int .i64 nn :: .int .i64 cm :: lg :: .int .i64 cl :: .int .u32 sq :: .int .i64 er :: w' :: .int .u32 0 :: .slice none 0 0 :: .slice none 0 0 :: .slice none 0 0 :: (hsC zeroH ++ [.string ByteArray.empty])) 53 (some 0))) (by omega))
    have hlg5 := hlg4.kp (KeepLo.one (a := A.next + 2) (B1 := some (.cells (.int .i64 kd :: .int .i64 sr :: .int .i64 ds :: .int .u32 vw :: .int .u32 la :: .int .i64 nn :: .int .i64 cm :: lg :: .int .i64 cl :: .int .u32 sq :: .int .i64 er :: w' :: .int .u32 0 :: .slice none 0 0 :: .slice none 0 0 :: .slice none 0 0 :: (hsC zeroH ++ [.string ByteArray.empty])) 53 (some 0))) (by omega))
    have hms3 : (A2.alloc (.cells [.int .u32 x] 22 (some 0))).get (A.next + 2) = _ := (get_alloc_old (by have := j2.n; omega)).trans hms2
    simp (maxSteps := 1000000) (disch := (first | omega | (simp only [nx_alloc, nx_upd, len_cons, len_nil, List.length_set, List.length_map, List.length_append] <;> omega) | fail)) only [go_sem, r2, r4, r5, r8, r9]
    refine aw_draw2 [⟨false, [], [0, 1, 2]⟩, ⟨false, [0], [0, 1, 2]⟩, ⟨false, [0, 1], [0, 1, 2]⟩, ⟨false, [], [0]⟩, ⟨true, [3], [0]⟩, ⟨false, [3, 4], [1]⟩, ⟨true, [3, 4, 5], [1]⟩, ⟨true, [0, 1, 2, 3, 4, 5, 6], [2]⟩, ⟨false, [0, 1, 2, 3, 4, 5, 6, 7], [3]⟩, ⟨false, [0, 1, 2, 3, 4, 5, 6, 7, 8], [3]⟩, ⟨true, [0, 1, 2, 3, 4, 5, 6, 7, 8, 9], [3]⟩] [A', A2, A2.alloc (.cells [.int .u32 x] 22 (some 0)), A4, A4.upd (A.next + 2) (some (.cells (.int .i64 kd :: .int .i64 sr :: .int .i64 ds :: .int .u32 vw :: .int .u32 la :: .int .i64 nn :: .int .i64 cm :: lg :: .int .i64 cl :: .int .u32 sq :: .int .i64 er :: w' :: .int .u32 0 :: .slice none 0 0 :: .slice none 0 0 :: .slice none 0 0 :: (hsC zeroH ++ [.string ByteArray.empty])) 53 (some 0)))] 4 (by kernel_rfl) (by kernel_rfl) rfl ?_
    simp (maxSteps := 1000000) (disch := (first | omega | (simp only [nx_alloc, nx_upd, len_cons, len_nil, List.length_set, List.length_map, List.length_append] <;> omega) | fail)) only [go_sem, r4, r5, hms, hms2, hms3]
    refine ⟨_, hcall, ?_⟩
    have hsv := fun (X : St) => storeC_val (A := X) (b := A.next + 2) (off := 11) (k := 0) (cs := .int .i64 kd :: .int .i64 sr :: .int .i64 ds :: .int .u32 vw :: .int .u32 la :: .int .i64 nn :: .int .i64 cm :: lg :: .int .i64 cl :: .int .u32 sq :: .int .i64 er :: w :: .int .u32 0 :: .slice none 0 0 :: .slice none 0 0 :: .slice none 0 0 :: (hsC zeroH ++ [.string ByteArray.empty])) (e := 53) hwv' (Nat.zero_le _) (by rw [mcl_len]; decide)
    simp (maxSteps := 1000000) (disch := (first | omega | (simp only [nx_alloc, nx_upd, len_cons, len_nil, List.length_set, List.length_map, List.length_append] <;> omega) | fail)) only [go_sem, r4, r5, r9, wrx, hms3, hms4, hap, hsv]
    refine ⟨y - 1, by omega, _, i + 1, ids ++ [x], t2, w', rfl, by omega, by omega, by simp [hil], wt2, j5, hlg5, hid5, ?_, ?_, ?_, ?_, ?_, ?_⟩
    · rw [show k2 - (i + 1) = q by omega]; exact hT
    · simp (maxSteps := 1000000) (disch := (first | omega | (simp only [nx_alloc, nx_upd, len_cons, len_nil, List.length_set, List.length_map, List.length_append] <;> omega) | fail)) only [go_sem, r2]
    · simp (maxSteps := 1000000) (disch := (first | omega | (simp only [nx_alloc, nx_upd, len_cons, len_nil, List.length_set, List.length_map, List.length_append] <;> omega) | fail)) only [go_sem, r4]
    · simp (maxSteps := 1000000) (disch := (first | omega | (simp only [nx_alloc, nx_upd, len_cons, len_nil, List.length_set, List.length_map, List.length_append] <;> omega) | fail)) only [go_sem, r5]
    · simp (maxSteps := 1000000) (disch := (first | omega | (simp only [nx_alloc, nx_upd, len_cons, len_nil, List.length_set, List.length_map, List.length_append] <;> omega) | fail)) only [go_sem, r8]
    · simp (maxSteps := 1000000) (disch := (first | omega | (simp only [nx_alloc, nx_upd, len_cons, len_nil, List.length_set, List.length_map, List.length_append] <;> omega) | fail)) only [go_sem]
      rfl
  have e1 : ¬ ((i : Int) < k2) := by omega
  rw [hend, Nat.sub_self] at hT
  have hil8 : ids.length ≤ 8 := by omega
  change T15 ⟨kd, sr, ds, vw, la, nn, cm, acc, cl, sq, ⟨er, ids, verN⟩, zeroH, ByteArray.empty⟩ t = _ at hT
  simp (maxSteps := 1000000) (disch := (first | omega | (simp only [nx_alloc, nx_upd, len_cons, len_nil, List.length_set, List.length_map, List.length_append] <;> omega) | fail)) only [go_sem, r2, r4, r5, r8, r9]
  generalize hA8' : A' = A12 at *
  clear hA8'
  refine (rsver_ok w0 A12 (A.next + 1) t j.rd wt).mono ?_
  obtain ⟨wt2, hVs⟩ := verS_sm wt
  change T16 ⟨kd, sr, ds, vw, la, nn, cm, acc, cl, sq, ⟨er, ids, (verS t).1⟩, zeroH, ByteArray.empty⟩ (verS t).2 = _ at hT
  rcases hq9 : verS t with ⟨V, s13⟩
  rw [hq9] at wt2 hVs hT
  dsimp only at wt2 hVs hT
  clear hq9
  rintro e A13 ⟨v, rfl, o13, p, q', u, rfl, v1, v2, v3⟩
  dsimp only at o13 v1 v2 v3
  have n13 := o13.next
  change A12.next ≤ A13.next at n13
  have j13 : DK A (.int .i64 kd :: .int .i64 sr :: .int .i64 ds :: .int .u32 vw :: .int .u32 la :: .int .i64 nn :: .int .i64 cm :: lg :: .int .i64 cl :: .int .u32 sq :: .int .i64 er :: w :: .int .u32 0 :: .slice none 0 0 :: .slice none 0 0 :: .slice none 0 0 :: (hsC zeroH ++ [.string ByteArray.empty])) s13 A13 := (j.rdr s13).ext o13
  have hlg13 : LgRow A13 (A.next + 3) acc lg := hlg.keep n13 (fun b h1 h2 => (o13.get b h2).trans (get_upd_old (by omega))) (Nat.le_refl _)
  have hid13 : IdRow A13 (A.next + 3) ids w := Row.keep hid n13 (fun b _ h1 h2 => (o13.get b h2).trans (get_upd_old (by omega))) (Nat.le_refl _)
  have hms13 := j13.ms
  have p1 := cellOf1 (Row.sing v1)
  have p2 := cellOf1 (Row.sing v2)
  have p3 := cellOf1 (Row.sing v3)
  have j14 := j13.set (.int .i64 kd :: .int .i64 sr :: .int .i64 ds :: .int .u32 vw :: .int .u32 la :: .int .i64 nn :: .int .i64 cm :: lg :: .int .i64 cl :: .int .u32 sq :: .int .i64 er :: w :: .int .u32 V.id :: p :: q' :: u :: (hsC zeroH ++ [.string ByteArray.empty]))
  have k14 : KeepLo (A.next + 3) A13 (A13.upd (A.next + 2) (some (.cells (.int .i64 kd :: .int .i64 sr :: .int .i64 ds :: .int .u32 vw :: .int .u32 la :: .int .i64 nn :: .int .i64 cm :: lg :: .int .i64 cl :: .int .u32 sq :: .int .i64 er :: w :: .int .u32 V.id :: p :: q' :: u :: (hsC zeroH ++ [.string ByteArray.empty])) 53 (some 0)))) := KeepLo.one (by omega)
  have hlg14 := hlg13.kp k14
  have hid14 := Row.kp hid13 k14
  have u1 := Row.kp (Row.keep (lo' := A.next + 3) v1 (Nat.le_refl _) (fun b _ _ _ => rfl) jn) k14
  have u2 := Row.kp (Row.keep (lo' := A.next + 3) v2 (Nat.le_refl _) (fun b _ _ _ => rfl) jn) k14
  have u3 := Row.kp (Row.keep (lo' := A.next + 3) v3 (Nat.le_refl _) (fun b _ _ _ => rfl) jn) k14
  simp (maxSteps := 1000000) (disch := (first | omega | (simp only [nx_alloc, nx_upd, len_cons, len_nil, List.length_set, List.length_map, List.length_append] <;> omega) | fail)) only [go_sem, r2, r4, r5, hms13, p1, p2, p3]
  change ACalls _ _ _ _ (A13.upd (A.next + 2) (some (.cells (.int .i64 kd :: .int .i64 sr :: .int .i64 ds :: .int .u32 vw :: .int .u32 la :: .int .i64 nn :: .int .i64 cm :: lg :: .int .i64 cl :: .int .u32 sq :: .int .i64 er :: w :: .int .u32 V.id :: p :: q' :: u :: (hsC zeroH ++ [.string ByteArray.empty])) 53 (some 0)))) _
  clear k14
  generalize A13.upd (A.next + 2) (some (.cells (.int .i64 kd :: .int .i64 sr :: .int .i64 ds :: .int .u32 vw :: .int .u32 la :: .int .i64 nn :: .int .i64 cm :: lg :: .int .i64 cl :: .int .u32 sq :: .int .i64 er :: w :: .int .u32 V.id :: p :: q' :: u :: (hsC zeroH ++ [.string ByteArray.empty])) 53 (some 0))) = A14 at *
  have hms14 := j14.ms
  have jn14 := j14.n
  refine call1 (rshash_ok w0 A14 (A.next + 1) s13 j14.rd wt2) ?_
  have wt3 := hashS_rw wt2
  change T17 ⟨kd, sr, ds, vw, la, nn, cm, acc, cl, sq, ⟨er, ids, V⟩, (hashS s13).1, ByteArray.empty⟩ (hashS s13).2 = _ at hT
  rcases hq9 : hashS s13 with ⟨hh, s15⟩
  rw [hq9] at wt3 hT
  dsimp only at wt3 hT ⊢
  clear hq9
  have hhl := hsC_len hh
  have hhc := hsC_cell hh
  have j15 := j14.step (.int .i64 kd :: .int .i64 sr :: .int .i64 ds :: .int .u32 vw :: .int .u32 la :: .int .i64 nn :: .int .i64 cm :: lg :: .int .i64 cl :: .int .u32 sq :: .int .i64 er :: w :: .int .u32 V.id :: p :: q' :: u :: (hsC hh ++ [.string ByteArray.empty])) s15
  have k15 : KeepLo (A.next + 3) A14 ((A14.upd (A.next + 1) (some (rsB s15))).upd (A.next + 2) (some (.cells (.int .i64 kd :: .int .i64 sr :: .int .i64 ds :: .int .u32 vw :: .int .u32 la :: .int .i64 nn :: .int .i64 cm :: lg :: .int .i64 cl :: .int .u32 sq :: .int .i64 er :: w :: .int .u32 V.id :: p :: q' :: u :: (hsC hh ++ [.string ByteArray.empty])) 53 (some 0)))) := KeepLo.two (by omega) (by omega)
  have hlg15 := hlg14.kp k15
  have hid15 := Row.kp hid14 k15
  have x1 := Row.kp u1 k15
  have x2 := Row.kp u2 k15
  have x3 := Row.kp u3 k15
  have hl14 := mcl_len kd sr ds vw la nn cm lg cl sq er w V.id p q' u zeroH (.string ByteArray.empty)
  simp (maxSteps := 1000000) (disch := (first | omega | (simp only [nx_alloc, nx_upd, len_cons, len_nil, List.length_set, List.length_map, List.length_append] <;> omega) | fail)) only [go_sem, r2, r4, r5, hms14, mcl_hset, hhl, hhc, hl14]
  change ACalls _ _ _ _ ((A14.upd (A.next + 1) (some (rsB s15))).upd (A.next + 2) (some (.cells (.int .i64 kd :: .int .i64 sr :: .int .i64 ds :: .int .u32 vw :: .int .u32 la :: .int .i64 nn :: .int .i64 cm :: lg :: .int .i64 cl :: .int .u32 sq :: .int .i64 er :: w :: .int .u32 V.id :: p :: q' :: u :: (hsC hh ++ [.string ByteArray.empty])) 53 (some 0)))) _
  clear k15
  generalize ((A14.upd (A.next + 1) (some (rsB s15))).upd (A.next + 2) (some (.cells (.int .i64 kd :: .int .i64 sr :: .int .i64 ds :: .int .u32 vw :: .int .u32 la :: .int .i64 nn :: .int .i64 cm :: lg :: .int .i64 cl :: .int .u32 sq :: .int .i64 er :: w :: .int .u32 V.id :: p :: q' :: u :: (hsC hh ++ [.string ByteArray.empty])) 53 (some 0)))) = A15 at *
  have hms15 := j15.ms
  have jn15 := j15.n
  refine call1 (rstext_ok w0 A15 (A.next + 1) s15 j15.rd wt3) ?_
  obtain ⟨wt4, hxl⟩ := textS_rw wt3
  unfold T17 at hT
  rcases hq9 : textS s15 with ⟨bx, rr, ee⟩
  rw [hq9] at wt4 hxl hT
  dsimp only at wt4 hxl hT ⊢
  clear hq9
  have j16 := j15.step (.int .i64 kd :: .int .i64 sr :: .int .i64 ds :: .int .u32 vw :: .int .u32 la :: .int .i64 nn :: .int .i64 cm :: lg :: .int .i64 cl :: .int .u32 sq :: .int .i64 er :: w :: .int .u32 V.id :: p :: q' :: u :: (hsC hh ++ [.string (strOfNums bx)])) (rr, ee)
  have k16 : KeepLo (A.next + 3) A15 ((A15.upd (A.next + 1) (some (rsB (rr, ee)))).upd (A.next + 2) (some (.cells (.int .i64 kd :: .int .i64 sr :: .int .i64 ds :: .int .u32 vw :: .int .u32 la :: .int .i64 nn :: .int .i64 cm :: lg :: .int .i64 cl :: .int .u32 sq :: .int .i64 er :: w :: .int .u32 V.id :: p :: q' :: u :: (hsC hh ++ [.string (strOfNums bx)])) 53 (some 0)))) := KeepLo.two (by omega) (by omega)
  have hlg16 := hlg15.kp k16
  have hid16 := Row.kp hid15 k16
  have y1 := Row.kp x1 k16
  have y2 := Row.kp x2 k16
  have y3 := Row.kp x3 k16
  have hl15 := mcl_len kd sr ds vw la nn cm lg cl sq er w V.id p q' u hh (.string ByteArray.empty)
  have hl16 := mcl_len kd sr ds vw la nn cm lg cl sq er w V.id p q' u hh (.string (strOfNums bx))
  have hc16 := mcl_cell kd sr ds vw la nn cm lg cl sq er w V.id p q' u hh (strOfNums bx) (cellOf1 hlg16.one) (cellOf1 (Row.sing hid16)) p1 p2 p3
  obtain ⟨A16, hA16⟩ : ∃ A16, A16 = ((A15.upd (A.next + 1) (some (rsB (rr, ee)))).upd (A.next + 2) (some (.cells (.int .i64 kd :: .int .i64 sr :: .int .i64 ds :: .int .u32 vw :: .int .u32 la :: .int .i64 nn :: .int .i64 cm :: lg :: .int .i64 cl :: .int .u32 sq :: .int .i64 er :: w :: .int .u32 V.id :: p :: q' :: u :: (hsC hh ++ [.string (strOfNums bx)])) 53 (some 0)))) := ⟨_, rfl⟩
  simp (maxSteps := 1000000) (disch := (first | omega | (simp only [nx_alloc, nx_upd, len_cons, len_nil, List.length_set, List.length_map, List.length_append] <;> omega) | fail)) only [go_sem, r2, r4, r5, hms15, blk_set, hl15]
  rw [← hA16]
  rw [← hA16] at j16 hlg16 hid16 y1 y2 y3
  clear k16
  have hms16 := j16.ms
  have hrd16 := j16.rd
  have hrs16 := j16.res
  unfold rsB at hrd16
  dsimp only at hrd16
  have ov16 := j16.ov
  rw [← hT]
  by_cases he : ee = 0
  rotate_left
  · rw [if_pos he]
    simp (maxSteps := 1000000) (disch := (first | omega | (simp only [nx_alloc, nx_upd, len_cons, len_nil, List.length_set, List.length_map, List.length_append] <;> omega) | fail)) only [go_sem, r2, r4, r5, hrd16, rsB, he]
    refine aw_draw2 [⟨false, [], [0]⟩, ⟨false, [], [0, 1]⟩, ⟨false, [1], [0, 1]⟩, ⟨false, [1, 2], [0, 1]⟩, ⟨false, [1, 2, 3], [0, 1]⟩, ⟨true, [0], [0]⟩, ⟨false, [0, 1, 2, 3, 4, 5], [1]⟩] [A16, A16.upd A.next (some (.cells zL 53 (some 0)))] 1 (by kernel_rfl) (by kernel_rfl) rfl ?_
    simp (maxSteps := 1000000) (disch := (first | omega | (simp only [nx_alloc, nx_upd, len_cons, len_nil, List.length_set, List.length_map, List.length_append] <;> omega) | fail)) only [go_sem, r2, r4, r5, hrd16, rsB, hrs16, hbld, hstR, hldz, hZ, hZc, Try.results17]
    exact gc_here ⟨msgZ, rfl, ov16.upd (Nat.le_refl _) _, msgZ_c _⟩
  subst he
  rw [if_neg (by simp)]
  by_cases hrr : rr = []
  rotate_left
  · rw [if_pos hrr]
    have hne : (strOfNums rr == ⟨#[]⟩) = false := by rw [beq_emptyS, str_size]; exact decide_eq_false (by intro h; exact hrr (List.eq_nil_of_length_eq_zero h))
    simp (maxSteps := 1000000) (disch := (first | omega | (simp only [nx_alloc, nx_upd, len_cons, len_nil, List.length_set, List.length_map, List.length_append] <;> omega) | fail)) only [go_sem, r2, r4, r5, hrd16, rsB, hne, hrs16, hbld, hstR, hldz, hZ, hZc, Try.results17]
    exact gc_here ⟨msgZ, rfl, ov16.upd (Nat.le_refl _) _, msgZ_c _⟩
  subst hrr
  rw [if_neg (by simp)]
  have hne : (strOfNums [] == ⟨#[]⟩) = true := by rw [beq_emptyS, str_size]; rfl
  have hmc : MsgC A16 ⟨kd, sr, ds, vw, la, nn, cm, acc, cl, sq, ⟨er, ids, V⟩, hh, strOfNums bx⟩ (.int .i64 kd :: .int .i64 sr :: .int .i64 ds :: .int .u32 vw :: .int .u32 la :: .int .i64 nn :: .int .i64 cm :: lg :: .int .i64 cl :: .int .u32 sq :: .int .i64 er :: w :: .int .u32 V.id :: p :: q' :: u :: (hsC hh ++ [.string (strOfNums bx)])) := ⟨_, _, _, _, _, rfl, hlg16.view, Row.view hid16, Row.view y1, Row.view y2, Row.view y3⟩
  have hldm := ldN (n := 49) (e := 53) (m := some 0) hl16
  simp (maxSteps := 1000000) (disch := (first | omega | (simp only [nx_alloc, nx_upd, len_cons, len_nil, List.length_set, List.length_map, List.length_append] <;> omega) | fail)) only [go_sem, r2, r4, r5, hrd16, rsB, hne]
  try simp (maxSteps := 1000000) (disch := (first | omega | (simp only [nx_alloc, nx_upd, len_cons, len_nil, List.length_set, List.length_map, List.length_append] <;> omega) | fail)) only [go_sem, hms16, hldm]
  refine call1 (rmaym_ok w0 A16 _ _ hmc ⟨hsm, hVs, by show acc.length ≤ 1000; omega, by show ids.length ≤ 1000; omega, by show (strOfNums bx).size ≤ 2000000; rw [str_size]; omega⟩) ?_
  cases hmay : mayM ⟨kd, sr, ds, vw, la, nn, cm, acc, cl, sq, ⟨er, ids, V⟩, hh, strOfNums bx⟩
  · rw [if_pos rfl]
    simp (maxSteps := 1000000) (disch := (first | omega | (simp only [nx_alloc, nx_upd, len_cons, len_nil, List.length_set, List.length_map, List.length_append] <;> omega) | fail)) only [go_sem, r2, r4, r5, hrs16, hbld, hstR, hldz, hZ, hZc, Try.results17]
    exact gc_here ⟨msgZ, rfl, ov16.upd (Nat.le_refl _) _, msgZ_c _⟩
  · rw [if_neg (by simp)]
    have hstM := fun (X : St) => stN (n := 49) (X := X) (b := A.next) (z := msgZ) (e := 53) rfl hl16 hc16
    simp (maxSteps := 1000000) (disch := (first | omega | (simp only [nx_alloc, nx_upd, len_cons, len_nil, List.length_set, List.length_map, List.length_append] <;> omega) | fail)) only [go_sem, r2, r4, r5, hms16, hldm, hrs16, hstM, Try.results17]
    refine gc_here ⟨_, rfl, ov16.upd (Nat.le_refl _) _, ?_⟩
    have k17 : KeepLo (A.next + 3) A16 (A16.upd A.next (some (.cells (.int .i64 kd :: .int .i64 sr :: .int .i64 ds :: .int .u32 vw :: .int .u32 la :: .int .i64 nn :: .int .i64 cm :: lg :: .int .i64 cl :: .int .u32 sq :: .int .i64 er :: w :: .int .u32 V.id :: p :: q' :: u :: (hsC hh ++ [.string (strOfNums bx)])) 53 (some 0)))) := KeepLo.one (by omega)
    exact ⟨_, _, _, _, _, rfl, (hlg16.kp k17).view, Row.view (Row.kp hid16 k17), Row.view (Row.kp y1 k17), Row.view (Row.kp y2 k17), Row.view (Row.kp y3 k17)⟩
end Go.Fw
