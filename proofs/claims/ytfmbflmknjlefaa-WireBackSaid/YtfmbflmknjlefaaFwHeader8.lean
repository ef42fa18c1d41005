import Derived.Test.YtfmbflmknjlefaaFwHeader7
set_option linter.unusedSimpArgs false
set_option linter.unusedVariables false
set_option maxRecDepth 4000
namespace Go.Fw
open Go.Proofs Go.RowKit
theorem Try.enters104 : Enters Try.prog 104 := enters_of Try.func104 rfl (by kernel_rfl)
theorem Try.enters96 : Enters Try.prog 96 := enters_of Try.func96 rfl (by kernel_rfl)
theorem Try.enters99 : Enters Try.prog 99 := enters_of Try.func99 rfl (by kernel_rfl)
theorem Try.enters98 : Enters Try.prog 98 := enters_of Try.func98 rfl (by kernel_rfl)
theorem Try.enters97 : Enters Try.prog 97 := enters_of Try.func97 rfl (by kernel_rfl)
/-- A reader's state: what is left, its error. -/
abbrev RS := List Int × Int
def rdB (s : RS) : Blk := .cells [.string (strOfNums s.1), .int .i64 s.2] 134 (some 0)
theorem rdB_bnd (n : Nat) (s : RS) : ∀ v ∈ [Value.string (strOfNums s.1), Value.int .i64 s.2], Bnd n v := by
  intro v hv
  rcases List.mem_cons.1 hv with rfl | hv
  · exact .string _
  · simp at hv; subst hv; exact .int _ _
theorem gc_rd {A A' : St} {c : Nat} {s s' : RS} {v v' : Value} (hw : WF A) (hc : A.get c = some (rdB s)) (h : Over (A.upd c (some (rdB s'))) A') (hv : v' = v) (hb : Bnd A.next v) : GcE A (fin v (A.upd c (some (rdB s')))) (.returned v') A' :=
  gc_upd hw (hw c _ hc).1 (rdB_bnd _ s') h hv hb
theorem upd_self {A : St} {c : Nat} {s : RS} (hc : A.get c = some (rdB s)) : Over (A.upd c (some (rdB s))) A := over_upd (Nat.le_refl _) hc (fun b _ _ => rfl)
theorem done_ok (w0 : World) (A : St) (c : Nat) (s s' : RS) (hc : A.get c = some (rdB s)) : ACalls Try.prog w0 104 #[.pointer (some ⟨c, 0, none⟩), .string (strOfNums s'.1), .int .i64 s'.2] A (fin (.bool (decide (s'.2 = 0))) (A.upd c (some (rdB s')))) := by
  refine call_E Try.enters104 Try.func104 rfl (Nat.le_of_ble_eq_true rfl) fun hw hbd => ?_
  have hc' := hc
  unfold rdB at hc'
  simp (maxSteps := 1000000) (disch := (first | omega | (simp only [nx_alloc, nx_upd, len_cons, len_nil, List.length_set, List.length_map, List.length_append] <;> omega) | fail)) only [go_sem, Try.ntmps104, Try.results104, hc']
  refine gc_rd hw hc (over_upd (by (try simp (disch := (first | omega | (simp only [nx_alloc, nx_upd, len_cons, len_nil, List.length_set, List.length_map, List.length_append] <;> omega) | fail)) only [St.get_upd, St.get_alloc, St.next_alloc, St.next_upd, ↓reduceIte, natF_lt, natF_gt, natF_ne, Nat.add_assoc, Nat.reduceAdd, Nat.reduceEqDiff, Nat.add_left_cancel_iff]); omega) (by simp (disch := (first | omega | (simp only [nx_alloc, nx_upd, len_cons, len_nil, List.length_set, List.length_map, List.length_append] <;> omega) | fail)) only [St.get_upd, St.get_alloc, St.next_alloc, St.next_upd, ↓reduceIte, natF_lt, natF_gt, natF_ne, Nat.add_assoc, Nat.reduceAdd, Nat.reduceEqDiff, Nat.add_left_cancel_iff]; rfl) (fun b hb hne => by simp (disch := (first | omega | (simp only [nx_alloc, nx_upd, len_cons, len_nil, List.length_set, List.length_map, List.length_append] <;> omega) | fail)) only [St.get_upd, St.get_alloc, St.next_alloc, St.next_upd, ↓reduceIte, natF_lt, natF_gt, natF_ne, Nat.add_assoc, Nat.reduceAdd, Nat.reduceEqDiff, Nat.add_left_cancel_iff])) rfl (.bool _)
/-- A number, that is at most so much. -/
def manyS (most : Int) (s : RS) : Int × RS :=
  if s.2 ≠ 0 then (0, s) else if (getL 10 0 0 s.1).2.2 = 0 ∧ (getL 10 0 0 s.1).1 > most then (0, ((getL 10 0 0 s.1).2.1, 111)) else
  (if (getL 10 0 0 s.1).2.2 = 0 then (getL 10 0 0 s.1).1 else 0, ((getL 10 0 0 s.1).2.1, (getL 10 0 0 s.1).2.2))
set_option maxHeartbeats 2000000 in
theorem many_ok (w0 : World) (A : St) (c : Nat) (s : RS) (most : Int) (hc : A.get c = some (rdB s)) (hb : ∀ x ∈ s.1, Byte x) (hl : s.1.length ≤ 1048576) (hm : 0 ≤ most ∧ most ≤ 1000000) :
    ACalls Try.prog w0 99 #[.pointer (some ⟨c, 0, none⟩), .int .u64 most] A (fin (.int .i64 (manyS most s).1) (A.upd c (some (rdB (manyS most s).2)))) := by
  refine call_E Try.enters99 Try.func99 rfl (Nat.le_of_ble_eq_true rfl) fun hw hbd => ?_
  obtain ⟨r, e⟩ := s
  have hc' := hc
  unfold rdB at hc'
  simp only at hc' hb hl
  by_cases he : e = 0
  rotate_left
  · have hr : manyS most (r, e) = (0, (r, e)) := if_pos he
    rw [hr]
    simp (maxSteps := 1000000) (disch := (first | omega | (simp only [nx_alloc, nx_upd, len_cons, len_nil, List.length_set, List.length_map, List.length_append] <;> omega) | fail)) only [go_sem, Try.ntmps99, Try.results99, hc']
    exact gc_rd hw hc (upd_self hc) rfl (.int _ _)
  subst he
  simp (maxSteps := 1000000) (disch := (first | omega | (simp only [nx_alloc, nx_upd, len_cons, len_nil, List.length_set, List.length_map, List.length_append] <;> omega) | fail)) only [go_sem, Try.ntmps99, Try.results99, hc']
  refine call1 (get_ok w0 A (strOfNums r) (by rw [str_size]; omega)) ?_
  rw [nums_str hb]
  rcases hg : getL 10 0 0 r with ⟨n, t, e⟩
  obtain ⟨hn0, hn1, hr, hrl, he0, he1⟩ := getL_facts _ hb n t e hg
  unfold getV
  by_cases hbig : e = 0 ∧ n > most
  · obtain ⟨rfl, hbig⟩ := hbig
    have hres : manyS most (r, 0) = (0, (t, 111)) := by unfold manyS; rw [if_neg (by simp), if_pos (by rw [hg]; exact ⟨rfl, hbig⟩), hg]
    rw [hres]
    simp (maxSteps := 1000000) (disch := (first | omega | (simp only [nx_alloc, nx_upd, len_cons, len_nil, List.length_set, List.length_map, List.length_append] <;> omega) | fail)) only [go_sem]
    refine call1 (done_ok w0 A c (r, 0) (t, 111) hc) ?_
    simp (maxSteps := 1000000) (disch := (first | omega | (simp only [nx_alloc, nx_upd, len_cons, len_nil, List.length_set, List.length_map, List.length_append] <;> omega) | fail)) only [go_sem, Try.results99]
    exact gc_rd hw hc (Over.refl _) rfl (.int _ _)
  · have hres : manyS most (r, 0) = (if e = 0 then n else 0, (t, e)) := by unfold manyS; rw [if_neg (by simp), if_neg (by rw [hg]; exact hbig), hg]
    rw [hres]
    by_cases he : e = 0
    · subst he
      have hnb : ¬ n > most := fun h => hbig ⟨rfl, h⟩
      simp (maxSteps := 1000000) (disch := (first | omega | (simp only [nx_alloc, nx_upd, len_cons, len_nil, List.length_set, List.length_map, List.length_append] <;> omega) | fail)) only [go_sem]
      refine call1 (done_ok w0 A c (r, 0) (t, 0) hc) ?_
      simp (maxSteps := 1000000) (disch := (first | omega | (simp only [nx_alloc, nx_upd, len_cons, len_nil, List.length_set, List.length_map, List.length_append] <;> omega) | fail)) only [go_sem, Try.results99]
      exact gc_rd hw hc (Over.refl _) rfl (.int _ _)
    · rw [if_neg he]
      simp (maxSteps := 1000000) (disch := (first | omega | (simp only [nx_alloc, nx_upd, len_cons, len_nil, List.length_set, List.length_map, List.length_append] <;> omega) | fail)) only [go_sem]
      refine call1 (done_ok w0 A c (r, 0) (t, e) hc) ?_
      simp (maxSteps := 1000000) (disch := (first | omega | (simp only [nx_alloc, nx_upd, len_cons, len_nil, List.length_set, List.length_map, List.length_append] <;> omega) | fail)) only [go_sem, he, Try.results99]
      exact gc_rd hw hc (Over.refl _) rfl (.int _ _)
/-- A text. -/
def textS (s : RS) : List Int × RS := if s.2 ≠ 0 then ([], s) else ((readL s.1).1, ((readL s.1).2.1, (readL s.1).2.2))
set_option maxHeartbeats 2000000 in
theorem rtxt_ok (w0 : World) (A : St) (c : Nat) (s : RS) (hc : A.get c = some (rdB s)) (hb : ∀ x ∈ s.1, Byte x) (hl : s.1.length ≤ 1048576) :
    ACalls Try.prog w0 98 #[.pointer (some ⟨c, 0, none⟩)] A (fin (.string (strOfNums (textS s).1)) (A.upd c (some (rdB (textS s).2)))) := by
  refine call_E Try.enters98 Try.func98 rfl (Nat.le_of_ble_eq_true rfl) fun hw hbd => ?_
  obtain ⟨r, e⟩ := s
  have hc' := hc
  unfold rdB at hc'
  simp only at hc' hb hl
  by_cases he : e = 0
  rotate_left
  · have hr : textS (r, e) = ([], (r, e)) := if_pos he
    rw [hr]
    simp (maxSteps := 1000000) (disch := (first | omega | (simp only [nx_alloc, nx_upd, len_cons, len_nil, List.length_set, List.length_map, List.length_append] <;> omega) | fail)) only [go_sem, Try.ntmps98, Try.results98, hc']
    exact gc_rd hw hc (upd_self hc) rfl (.string _)
  subst he
  have hres : textS (r, 0) = ((readL r).1, ((readL r).2.1, (readL r).2.2)) := if_neg (by simp)
  rw [hres]
  simp (maxSteps := 1000000) (disch := (first | omega | (simp only [nx_alloc, nx_upd, len_cons, len_nil, List.length_set, List.length_map, List.length_append] <;> omega) | fail)) only [go_sem, Try.ntmps98, Try.results98, hc']
  refine call1 (read_ok w0 A (strOfNums r) (by rw [str_size]; omega)) ?_
  rw [nums_str hb]
  rcases hg : readL r with ⟨x, t, e⟩
  unfold readV
  simp (maxSteps := 1000000) (disch := (first | omega | (simp only [nx_alloc, nx_upd, len_cons, len_nil, List.length_set, List.length_map, List.length_append] <;> omega) | fail)) only [go_sem]
  refine call1 (done_ok w0 A c (r, 0) (t, e) hc) ?_
  simp (maxSteps := 1000000) (disch := (first | omega | (simp only [nx_alloc, nx_upd, len_cons, len_nil, List.length_set, List.length_map, List.length_append] <;> omega) | fail)) only [go_sem, Try.results98]
  exact gc_rd hw hc (Over.refl _) rfl (.string _)
def idS (s : RS) : Int × RS := ((fixL s.1 4).1, ((fixL s.1 4).2.1, (fixL s.1 4).2.2))
theorem rid_ok (w0 : World) (A : St) (c : Nat) (r : List Int) (hc : A.get c = some (rdB (r, 0))) (hb : ∀ x ∈ r, Byte x) (hl : r.length ≤ 1048576) :
    ACalls Try.prog w0 96 #[.pointer (some ⟨c, 0, none⟩)] A (fin (.int .u64 (idS (r, 0)).1) (A.upd c (some (rdB (idS (r, 0)).2)))) := by
  refine call_E Try.enters96 Try.func96 rfl (Nat.le_of_ble_eq_true rfl) fun hw hbd => ?_
  have hc' := hc
  unfold rdB at hc'
  simp only at hc'
  simp (maxSteps := 1000000) (disch := (first | omega | (simp only [nx_alloc, nx_upd, len_cons, len_nil, List.length_set, List.length_map, List.length_append] <;> omega) | fail)) only [go_sem, Try.ntmps96, Try.results96, hc']
  refine call1 (fixed_ok w0 A (strOfNums r) 4 (by rw [str_size]; omega)) ?_
  rw [nums_str hb]
  unfold idS
  rcases hg : fixL r 4 with ⟨n, t, e⟩
  unfold getV
  simp (maxSteps := 1000000) (disch := (first | omega | (simp only [nx_alloc, nx_upd, len_cons, len_nil, List.length_set, List.length_map, List.length_append] <;> omega) | fail)) only [go_sem, hc', Try.results96]
  refine gc_rd hw hc (over_upd (by (try simp (disch := (first | omega | (simp only [nx_alloc, nx_upd, len_cons, len_nil, List.length_set, List.length_map, List.length_append] <;> omega) | fail)) only [St.get_upd, St.get_alloc, St.next_alloc, St.next_upd, ↓reduceIte, natF_lt, natF_gt, natF_ne, Nat.add_assoc, Nat.reduceAdd, Nat.reduceEqDiff, Nat.add_left_cancel_iff]); omega) (by simp (disch := (first | omega | (simp only [nx_alloc, nx_upd, len_cons, len_nil, List.length_set, List.length_map, List.length_append] <;> omega) | fail)) only [St.get_upd, St.get_alloc, St.next_alloc, St.next_upd, ↓reduceIte, natF_lt, natF_gt, natF_ne, Nat.add_assoc, Nat.reduceAdd, Nat.reduceEqDiff, Nat.add_left_cancel_iff]; rfl) (fun b hb hne => by simp (disch := (first | omega | (simp only [nx_alloc, nx_upd, len_cons, len_nil, List.length_set, List.length_map, List.length_append] <;> omega) | fail)) only [St.get_upd, St.get_alloc, St.next_alloc, St.next_upd, ↓reduceIte, natF_lt, natF_gt, natF_ne, Nat.add_assoc, Nat.reduceAdd, Nat.reduceEqDiff, Nat.add_left_cancel_iff])) rfl (.int _ _)
def zeroH : HashT := ⟨List.replicate 32 0, by simp⟩
/-- A hash. -/
def hashS (s : RS) : HashT × RS := if s.2 ≠ 0 then (zeroH, s) else if h : 32 ≤ s.1.length then (⟨s.1.take 32, by rw [List.length_take]; omega⟩, (s.1.drop 32, 0)) else (zeroH, (s.1, 40))
theorem copy_str {P : Program} {A : St} {b dT : Nat} {e : TypeId} {s : ByteArray} {z : List Value} (hz : z.length = 32) (hel : telem P dT = some 5) (hsz : tsz P 5 = some 1) (hb : A.get b = some (.cells z e (some 0))) (hs : 32 ≤ s.size) :
    acopy P A dT (.slice (some ⟨b, 0, none⟩) 32 32) (.string s) = some (.int .i64 32, A.upd b (some (.cells (((nums s).take 32).map (.int .u8 ·)) e (some 0)))) := by
  have hmin : Nat.min s.size 32 = 32 := Nat.min_eq_right hs
  have hl : (((nums s).take 32).map (Value.int .u8 ·)).length = 32 := by rw [List.length_map, List.length_take, nums_length]; omega
  have hc : (((nums s).take 32).map (Value.int .u8 ·)).all cell1 = true := by rw [List.all_map, List.all_eq_true]; intro x _; rfl
  have hset := setList_at0 (((nums s).take 32).map (Value.int .u8 ·)) [] z [] (by rw [hl, hz])
  rw [List.nil_append, List.append_nil, List.nil_append, List.append_nil, List.length_nil] at hset
  unfold acopy
  simp only [hel, hsz, srcCells_string, hmin, hb, bcells_nums, Nat.mul_one, ← List.map_take]
  rw [if_neg (by decide), if_pos ⟨Nat.zero_le _, by rw [hz]; decide, hc⟩, hset]
  rfl
set_option maxHeartbeats 2000000 in
theorem rhash_ok (w0 : World) (A : St) (c : Nat) (s : RS) (hc : A.get c = some (rdB s)) (hb : ∀ x ∈ s.1, Byte x) (hl : s.1.length ≤ 1048576) :
    ACalls Try.prog w0 97 #[.pointer (some ⟨c, 0, none⟩)] A (fin (.agg (hsC (hashS s).1).toArray) (A.upd c (some (rdB (hashS s).2)))) := by
  refine call_E Try.enters97 Try.func97 rfl (Nat.le_of_ble_eq_true rfl) fun hw hbd => ?_
  obtain ⟨r, e⟩ := s
  have hc' := hc
  have hcn := (hw c _ hc).1
  unfold rdB at hc'
  simp only at hc' hb hl
  have hsz := str_size r
  have bndH : ∀ h : HashT, Bnd A.next (.agg (hsC h).toArray) := fun h => by
    refine .agg _ fun i v hv => ?_
    have hv : v ∈ hsC h := List.mem_of_getElem? (by simpa using hv)
    obtain ⟨i, _, rfl⟩ := List.mem_map.1 hv
    exact .int _ _
  by_cases he : e = 0
  rotate_left
  · have hr : hashS (r, e) = (zeroH, (r, e)) := if_pos he
    rw [hr]
    simp (maxSteps := 1000000) (disch := (first | omega | (simp only [nx_alloc, nx_upd, len_cons, len_nil, List.length_set, List.length_map, List.length_append] <;> omega) | fail)) only [go_sem, Try.ntmps97, Try.results97, hc']
    exact gc_rd hw hc (over_upd (by (try simp (disch := (first | omega | (simp only [nx_alloc, nx_upd, len_cons, len_nil, List.length_set, List.length_map, List.length_append] <;> omega) | fail)) only [St.get_upd, St.get_alloc, St.next_alloc, St.next_upd, ↓reduceIte, natF_lt, natF_gt, natF_ne, Nat.add_assoc, Nat.reduceAdd, Nat.reduceEqDiff, Nat.add_left_cancel_iff]); omega) (by simp (disch := (first | omega | (simp only [nx_alloc, nx_upd, len_cons, len_nil, List.length_set, List.length_map, List.length_append] <;> omega) | fail)) only [St.get_upd, St.get_alloc, St.next_alloc, St.next_upd, ↓reduceIte, natF_lt, natF_gt, natF_ne, Nat.add_assoc, Nat.reduceAdd, Nat.reduceEqDiff, Nat.add_left_cancel_iff]; exact hc) (fun b hb hne => by simp (disch := (first | omega | (simp only [nx_alloc, nx_upd, len_cons, len_nil, List.length_set, List.length_map, List.length_append] <;> omega) | fail)) only [St.get_upd, St.get_alloc, St.next_alloc, St.next_upd, ↓reduceIte, natF_lt, natF_gt, natF_ne, Nat.add_assoc, Nat.reduceAdd, Nat.reduceEqDiff, Nat.add_left_cancel_iff])) rfl (bndH _)
  subst he
  by_cases h32 : 32 ≤ r.length
  rotate_left
  · have hr : hashS (r, 0) = (zeroH, (r, 40)) := by unfold hashS; rw [if_neg (by simp), dif_neg h32]
    have h32' : ((strOfNums r).size : Int) < 32 := by omega
    rw [hr]
    simp (maxSteps := 1000000) (disch := (first | omega | (simp only [nx_alloc, nx_upd, len_cons, len_nil, List.length_set, List.length_map, List.length_append] <;> omega) | fail)) only [go_sem, Try.ntmps97, Try.results97, hc']
    exact gc_rd hw hc (over_upd (by (try simp (disch := (first | omega | (simp only [nx_alloc, nx_upd, len_cons, len_nil, List.length_set, List.length_map, List.length_append] <;> omega) | fail)) only [St.get_upd, St.get_alloc, St.next_alloc, St.next_upd, ↓reduceIte, natF_lt, natF_gt, natF_ne, Nat.add_assoc, Nat.reduceAdd, Nat.reduceEqDiff, Nat.add_left_cancel_iff]); omega) (by simp (disch := (first | omega | (simp only [nx_alloc, nx_upd, len_cons, len_nil, List.length_set, List.length_map, List.length_append] <;> omega) | fail)) only [St.get_upd, St.get_alloc, St.next_alloc, St.next_upd, ↓reduceIte, natF_lt, natF_gt, natF_ne, Nat.add_assoc, Nat.reduceAdd, Nat.reduceEqDiff, Nat.add_left_cancel_iff]; rfl) (fun b hb hne => by simp (disch := (first | omega | (simp only [nx_alloc, nx_upd, len_cons, len_nil, List.length_set, List.length_map, List.length_append] <;> omega) | fail)) only [St.get_upd, St.get_alloc, St.next_alloc, St.next_upd, ↓reduceIte, natF_lt, natF_gt, natF_ne, Nat.add_assoc, Nat.reduceAdd, Nat.reduceEqDiff, Nat.add_left_cancel_iff])) rfl (bndH _)
  have hr : hashS (r, 0) = (⟨r.take 32, by rw [List.length_take]; omega⟩, (r.drop 32, 0)) := by unfold hashS; rw [if_neg (by simp), dif_pos h32]
  have h32' : ¬ ((strOfNums r).size : Int) < 32 := by omega
  rw [hr]
  simp (maxSteps := 1000000) (disch := (first | omega | (simp only [nx_alloc, nx_upd, len_cons, len_nil, List.length_set, List.length_map, List.length_append] <;> omega) | fail)) only [go_sem, Try.ntmps97, Try.results97, hc']
  have h32n : 32 ≤ (strOfNums r).size := by omega
  have hnr := nums_str hb
  have x2 := str_drop hb 32
  rw [← hsz] at x2
  refine aw_draw2 [⟨false, [], [0]⟩, ⟨false, [], [0]⟩, ⟨false, [1], [0]⟩, ⟨false, [1, 2], [0]⟩, ⟨false, [1, 2, 3], [0]⟩, ⟨true, [0, 1, 2, 3, 4], [0]⟩] [A.alloc (.cells [.int .u8 0, .int .u8 0, .int .u8 0, .int .u8 0, .int .u8 0, .int .u8 0, .int .u8 0, .int .u8 0, .int .u8 0, .int .u8 0, .int .u8 0, .int .u8 0, .int .u8 0, .int .u8 0, .int .u8 0, .int .u8 0, .int .u8 0, .int .u8 0, .int .u8 0, .int .u8 0, .int .u8 0, .int .u8 0, .int .u8 0, .int .u8 0, .int .u8 0, .int .u8 0, .int .u8 0, .int .u8 0, .int .u8 0, .int .u8 0, .int .u8 0, .int .u8 0] 43 (some 0)), (A.alloc (.cells [.int .u8 0, .int .u8 0, .int .u8 0, .int .u8 0, .int .u8 0, .int .u8 0, .int .u8 0, .int .u8 0, .int .u8 0, .int .u8 0, .int .u8 0, .int .u8 0, .int .u8 0, .int .u8 0, .int .u8 0, .int .u8 0, .int .u8 0, .int .u8 0, .int .u8 0, .int .u8 0, .int .u8 0, .int .u8 0, .int .u8 0, .int .u8 0, .int .u8 0, .int .u8 0, .int .u8 0, .int .u8 0, .int .u8 0, .int .u8 0, .int .u8 0, .int .u8 0] 43 (some 0))).upd A.next (some (.cells ((r.take 32).map (.int .u8 ·)) 43 (some 0)))] 1 (by kernel_rfl) (by kernel_rfl) rfl ?_
  simp (maxSteps := 1000000) (disch := (first | omega | (simp only [nx_alloc, nx_upd, len_cons, len_nil, List.length_set, List.length_map, List.length_append] <;> omega) | fail)) only [go_sem, hc']
  rw [copy_str (z := [.int .u8 0, .int .u8 0, .int .u8 0, .int .u8 0, .int .u8 0, .int .u8 0, .int .u8 0, .int .u8 0, .int .u8 0, .int .u8 0, .int .u8 0, .int .u8 0, .int .u8 0, .int .u8 0, .int .u8 0, .int .u8 0, .int .u8 0, .int .u8 0, .int .u8 0, .int .u8 0, .int .u8 0, .int .u8 0, .int .u8 0, .int .u8 0, .int .u8 0, .int .u8 0, .int .u8 0, .int .u8 0, .int .u8 0, .int .u8 0, .int .u8 0, .int .u8 0]) rfl Try.el66 Try.sz5 (get_alloc_same ..) h32n, hnr]
  have hL : ((r.take 32).map (Value.int .u8 ·)).length = 32 := by rw [List.length_map, List.length_take]; omega
  have hLc : ((r.take 32).map (Value.int .u8 ·)).all cell1 = true := by rw [List.all_map, List.all_eq_true]; intro x _; rfl
  have hLe : hsC ⟨r.take 32, by rw [List.length_take]; omega⟩ = (r.take 32).map (Value.int .u8 ·) := rfl
  have hbn := bndH ⟨r.take 32, by rw [List.length_take]; omega⟩
  rw [hLe] at hbn ⊢
  generalize (r.take 32).map (Value.int .u8 ·) = L at *
  have hld : loadC (some true) (some 32) (some (.cells L 43 (some 0))) 0 = some (.agg L.toArray) := by rw [loadC_agg _ _ _ _ _ (by omega), List.drop_zero, List.take_of_length_le (by omega)]
  have hse := set_all L L rfl
  simp (maxSteps := 1000000) (disch := (first | omega | (simp only [nx_alloc, nx_upd, len_cons, len_nil, List.length_set, List.length_map, List.length_append] <;> omega) | fail)) only [go_sem, hc', x2, hld, hLc, hse, Try.results97]
  exact gc_rd hw hc (over_upd (by (try simp (disch := (first | omega | (simp only [nx_alloc, nx_upd, len_cons, len_nil, List.length_set, List.length_map, List.length_append] <;> omega) | fail)) only [St.get_upd, St.get_alloc, St.next_alloc, St.next_upd, ↓reduceIte, natF_lt, natF_gt, natF_ne, Nat.add_assoc, Nat.reduceAdd, Nat.reduceEqDiff, Nat.add_left_cancel_iff]); omega) (by simp (disch := (first | omega | (simp only [nx_alloc, nx_upd, len_cons, len_nil, List.length_set, List.length_map, List.length_append] <;> omega) | fail)) only [St.get_upd, St.get_alloc, St.next_alloc, St.next_upd, ↓reduceIte, natF_lt, natF_gt, natF_ne, Nat.add_assoc, Nat.reduceAdd, Nat.reduceEqDiff, Nat.add_left_cancel_iff]; rfl) (fun b hb hne => by simp (disch := (first | omega | (simp only [nx_alloc, nx_upd, len_cons, len_nil, List.length_set, List.length_map, List.length_append] <;> omega) | fail)) only [St.get_upd, St.get_alloc, St.next_alloc, St.next_upd, ↓reduceIte, natF_lt, natF_gt, natF_ne, Nat.add_assoc, Nat.reduceAdd, Nat.reduceEqDiff, Nat.add_left_cancel_iff])) rfl hbn
end Go.Fw
