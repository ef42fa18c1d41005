import Derived.Test.YtfmbflmknjlefaaFwVarint2
import Derived.Test.YtfmbflmknjlefaaFwFiles
set_option linter.unusedSimpArgs false
set_option linter.unusedVariables false
set_option maxRecDepth 4000
namespace Go.Fw
open Go.Proofs Go.RowKit
theorem Try.enters76 : Enters Try.prog 76 := enters_of Try.func76 rfl (by kernel_rfl)
theorem Try.enters77 : Enters Try.prog 77 := enters_of Try.func77 rfl (by kernel_rfl)
theorem Try.enters95 : Enters Try.prog 95 := enters_of Try.func95 rfl (by kernel_rfl)
theorem Try.enters79 : Enters Try.prog 79 := enters_of Try.func79 rfl (by kernel_rfl)
theorem Try.enters38 : Enters Try.prog 38 := enters_of Try.func38 rfl (by kernel_rfl)
def StView (A : St) (l : List ByteArray) (v : Value) : Prop := View A 1 (l.flatMap strE) l.length v
def InView (A : St) (l : List Int) (v : Value) : Prop := View A 1 (l.flatMap i64E) l.length v
def StRow (A : St) (lo : Nat) (l : List ByteArray) (v : Value) : Prop := Row A 9 1 lo (l.flatMap strE) l.length v
def InRow (A : St) (lo : Nat) (l : List Int) (v : Value) : Prop := Row A 3 1 lo (l.flatMap i64E) l.length v
/-- A hash: its bytes. -/
abbrev HashT := {l : List Int // l.length = 32}
def hsC (h : HashT) : List Value := h.1.map (.int .u8 ·)
theorem hsC_len (h : HashT) : (hsC h).length = 32 := by unfold hsC; rw [List.length_map]; exact h.2
theorem hsC_pl (h : HashT) : (hsC h).all plainV = true := by unfold hsC; rw [List.all_map, List.all_eq_true]; intro x _; rfl
theorem hsC_cell (h : HashT) : (hsC h).all cell1 = true := by unfold hsC; rw [List.all_map, List.all_eq_true]; intro x _; rfl
def HsView (A : St) (l : List HashT) (v : Value) : Prop := View A 32 (l.flatMap hsC) l.length v
def HsRow (A : St) (lo : Nat) (l : List HashT) (v : Value) : Prop := Row A 43 32 lo (l.flatMap hsC) l.length v
/-- A version. -/
structure VerT where
  id : Int
  blocks : List HashT
  names : List ByteArray
  sizes : List Int
def okSz (k : Int) : Nat := if 0 ≤ k ∧ k ≤ 300 then k.toNat else 0
def sumSz (l : List Int) : Nat := (l.map okSz).sum
/-- How many blocks files have. -/
def blocksN (l : List Int) : Nat := (sumSz l + 255) / 256
theorem okSz_le (k : Int) : okSz k ≤ 300 := by unfold okSz; split <;> omega
theorem sumSz_le : ∀ l : List Int, sumSz l ≤ 300 * l.length
  | [] => Nat.le_refl _
  | k :: l => by
    have := sumSz_le l
    have := okSz_le k
    unfold sumSz at *
    simp only [List.map_cons, List.sum_cons, List.length_cons]; omega
theorem sumSz_take (l : List Int) (i : Nat) (k : Int) (h : l[i]? = some k) : sumSz (l.take (i + 1)) = sumSz (l.take i) + okSz k := by
  unfold sumSz; rw [List.take_add_one, h]; simp
theorem blocks_quo (n : Nat) : (((n : Int) + 256 - 1).tdiv 256) = (((n + 255) / 256 : Nat) : Int) := by
  rw [show (n : Int) + 256 - 1 = ((n + 255 : Nat) : Int) by omega]; rfl
set_option maxHeartbeats 2000000 in
theorem blocks_ok (w0 : World) (A : St) (l : List Int) (v : Value) (hv : InView A l v) (hl : l.length ≤ 1073741824) : ACalls Try.prog w0 76 #[v] A (fin (.int .i64 (blocksN l : Nat)) A) := by
  refine call_E Try.enters76 Try.func76 rfl (Nat.le_of_ble_eq_true rfl) fun hw hbd => ?_
  have hlen := View.lenU (e := 3) hv
  simp (maxSteps := 1000000) (disch := (first | omega | (simp only [nx_alloc, nx_upd, len_cons, len_nil, List.length_set, List.length_map, List.length_append] <;> omega) | fail)) only [go_sem, Try.ntmps76, Try.results76, hlen]
  refine aw_loop (fun k x A' => ∃ (ρ : Nat → Value) (i : Nat), x = E 26 ρ [] ∧ A' = A ∧ k = l.length - i ∧ i ≤ l.length ∧ ρ 3 = .int .i64 (sumSz (l.take i) : Nat) ∧ ρ 6 = v ∧ ρ 7 = .int .i64 l.length ∧ ρ 8 = .int .i64 i) l.length
    ⟨_, 0, rfl, rfl, rfl, Nat.zero_le _, rfl, rfl, rfl, rfl⟩ ?_
  rintro k x A' ⟨ρ, i, rfl, rfl, hk, hi, g3, g6, g7, g8⟩
  refine aw_of ?_
  have hsl := sumSz_le (l.take i)
  have htl : (l.take i).length ≤ i := List.length_take_le ..
  by_cases hend : i = l.length
  · have e1 : ¬ ((i : Int) < l.length) := by omega
    rw [hend, List.take_length] at g3 hsl
    simp (maxSteps := 1000000) (disch := (first | omega | (simp only [nx_alloc, nx_upd, len_cons, len_nil, List.length_set, List.length_map, List.length_append] <;> omega) | fail)) only [go_sem, g3, g6, g7, g8, blocks_quo, Try.results76]
    exact gc_fin' hw (Over.refl _) rfl (.int _ _)
  have e1 : ((i : Int) < l.length) := by omega
  obtain ⟨n, hx⟩ : ∃ x, l[i]? = some x := ⟨_, List.getElem?_eq_getElem (by omega)⟩
  obtain ⟨pb, po, hb1, hb2, hb3, cells, e', md, hb4, hb5⟩ := View.at1 (P := Try.prog) (e := 3) hv Try.sz3 (i64E_at _ i n hx)
  have hst := sumSz_take l i n hx
  by_cases h0 : n < 0
  · have hok : okSz n = 0 := by unfold okSz; rw [if_neg (by omega)]
    have h0' : ¬ n ≥ 0 := by omega
    simp (maxSteps := 1000000) (disch := (first | omega | (simp only [nx_alloc, nx_upd, len_cons, len_nil, List.length_set, List.length_map, List.length_append] <;> omega) | fail)) only [go_sem, g3, g6, g7, g8, hb3, hb4, hb5]
    refine ⟨k - 1, by omega, _, i + 1, rfl, by omega, by omega, ?_, ?_, ?_, ?_⟩
    · simp (maxSteps := 1000000) (disch := (first | omega | (simp only [nx_alloc, nx_upd, len_cons, len_nil, List.length_set, List.length_map, List.length_append] <;> omega) | fail)) only [go_sem, g3, hst, hok]
    · simp (maxSteps := 1000000) (disch := (first | omega | (simp only [nx_alloc, nx_upd, len_cons, len_nil, List.length_set, List.length_map, List.length_append] <;> omega) | fail)) only [go_sem, g6]
    · simp (maxSteps := 1000000) (disch := (first | omega | (simp only [nx_alloc, nx_upd, len_cons, len_nil, List.length_set, List.length_map, List.length_append] <;> omega) | fail)) only [go_sem, g7]
    · simp (maxSteps := 1000000) (disch := (first | omega | (simp only [nx_alloc, nx_upd, len_cons, len_nil, List.length_set, List.length_map, List.length_append] <;> omega) | fail)) only [go_sem]
      rfl
  have h0' : n ≥ 0 := by omega
  by_cases h3 : n ≤ 300
  · have hok : okSz n = n.toNat := by unfold okSz; rw [if_pos ⟨by omega, h3⟩]
    obtain ⟨n, rfl⟩ := Int.eq_ofNat_of_zero_le h0'
    rw [Int.toNat_natCast] at hok
    simp (maxSteps := 1000000) (disch := (first | omega | (simp only [nx_alloc, nx_upd, len_cons, len_nil, List.length_set, List.length_map, List.length_append] <;> omega) | fail)) only [go_sem, g3, g6, g7, g8, hb3, hb4, hb5]
    refine ⟨k - 1, by omega, _, i + 1, rfl, by omega, by omega, ?_, ?_, ?_, ?_⟩
    · simp (maxSteps := 1000000) (disch := (first | omega | (simp only [nx_alloc, nx_upd, len_cons, len_nil, List.length_set, List.length_map, List.length_append] <;> omega) | fail)) only [go_sem, hst, hok]
      rfl
    · simp (maxSteps := 1000000) (disch := (first | omega | (simp only [nx_alloc, nx_upd, len_cons, len_nil, List.length_set, List.length_map, List.length_append] <;> omega) | fail)) only [go_sem, g6]
    · simp (maxSteps := 1000000) (disch := (first | omega | (simp only [nx_alloc, nx_upd, len_cons, len_nil, List.length_set, List.length_map, List.length_append] <;> omega) | fail)) only [go_sem, g7]
    · simp (maxSteps := 1000000) (disch := (first | omega | (simp only [nx_alloc, nx_upd, len_cons, len_nil, List.length_set, List.length_map, List.length_append] <;> omega) | fail)) only [go_sem]
      rfl
  · have hok : okSz n = 0 := by unfold okSz; rw [if_neg (by omega)]
    simp (maxSteps := 1000000) (disch := (first | omega | (simp only [nx_alloc, nx_upd, len_cons, len_nil, List.length_set, List.length_map, List.length_append] <;> omega) | fail)) only [go_sem, g3, g6, g7, g8, hb3, hb4, hb5]
    refine ⟨k - 1, by omega, _, i + 1, rfl, by omega, by omega, ?_, ?_, ?_, ?_⟩
    · simp (maxSteps := 1000000) (disch := (first | omega | (simp only [nx_alloc, nx_upd, len_cons, len_nil, List.length_set, List.length_map, List.length_append] <;> omega) | fail)) only [go_sem, g3, hst, hok]
    · simp (maxSteps := 1000000) (disch := (first | omega | (simp only [nx_alloc, nx_upd, len_cons, len_nil, List.length_set, List.length_map, List.length_append] <;> omega) | fail)) only [go_sem, g6]
    · simp (maxSteps := 1000000) (disch := (first | omega | (simp only [nx_alloc, nx_upd, len_cons, len_nil, List.length_set, List.length_map, List.length_append] <;> omega) | fail)) only [go_sem, g7]
    · simp (maxSteps := 1000000) (disch := (first | omega | (simp only [nx_alloc, nx_upd, len_cons, len_nil, List.length_set, List.length_map, List.length_append] <;> omega) | fail)) only [go_sem]
      rfl
/-- A size that may not be. -/
def wrongB (n : Int) : Bool := decide (n < 0) || decide (300 < n)
theorem wrong_ok (w0 : World) (A : St) (n : Int) : ACalls Try.prog w0 77 #[.int .i64 n] A (fin (.bool (wrongB n)) A) := by
  refine call_E Try.enters77 Try.func77 rfl (Nat.le_of_ble_eq_true rfl) fun hw hbd => ?_
  by_cases a1 : n < 0
  · simp (maxSteps := 1000000) (disch := (first | omega | (simp only [nx_alloc, nx_upd, len_cons, len_nil, List.length_set, List.length_map, List.length_append] <;> omega) | fail)) only [go_sem, Try.ntmps77, Try.results77]
    exact gc_fin' hw (Over.refl _) (by simp [wrongB, a1]) (.bool _)
  by_cases a2 : n > 300
  · simp (maxSteps := 1000000) (disch := (first | omega | (simp only [nx_alloc, nx_upd, len_cons, len_nil, List.length_set, List.length_map, List.length_append] <;> omega) | fail)) only [go_sem, Try.ntmps77, Try.results77]
    exact gc_fin' hw (Over.refl _) (by simp [wrongB]; try omega) (.bool _)
  simp (maxSteps := 1000000) (disch := (first | omega | (simp only [nx_alloc, nx_upd, len_cons, len_nil, List.length_set, List.length_map, List.length_append] <;> omega) | fail)) only [go_sem, Try.ntmps77, Try.results77]
  exact gc_fin' hw (Over.refl _) (by simp [wrongB]; try omega) (.bool _)
set_option maxHeartbeats 2000000 in
theorem indexI_ok (w0 : World) (A : St) (l : List Int) (v : Value) (hv : InView A l v) (hl : l.length ≤ 1073741824) : ACalls Try.prog w0 95 #[v, .func (.func 77) #[] #[]] A fun e A' => ∃ r : Int, e = .returned (.int .i64 r) ∧ A' = A ∧ ((0 ≤ r) ↔ l.any wrongB = true) := by
  refine call_E Try.enters95 Try.func95 rfl (Nat.le_of_ble_eq_true rfl) fun hw hbd => ?_
  have hlen := View.lenU (e := 3) hv
  simp (maxSteps := 1000000) (disch := (first | omega | (simp only [nx_alloc, nx_upd, len_cons, len_nil, List.length_set, List.length_map, List.length_append] <;> omega) | fail)) only [go_sem, Try.ntmps95, Try.results95, hlen]
  refine aw_loop (fun k x A' => ∃ (ρ : Nat → Value) (i : Nat), x = E 19 ρ [] ∧ A' = A ∧ k = l.length - i ∧ i ≤ l.length ∧ (l.take i).any wrongB = false ∧
      ρ 0 = v ∧ ρ 1 = .func (.func 77) #[] #[] ∧ ρ 7 = .int .i64 l.length ∧ ρ 8 = .int .i64 i) l.length
    ⟨_, 0, rfl, rfl, rfl, Nat.zero_le _, rfl, rfl, rfl, rfl, rfl⟩ ?_
  rintro k x A' ⟨ρ, i, rfl, rfl, hk, hi, hno, g0, g1, g7, g8⟩
  refine aw_of ?_
  by_cases hend : i = l.length
  · have e1 : ¬ ((i : Int) < l.length) := by omega
    rw [hend, List.take_length] at hno
    simp (maxSteps := 1000000) (disch := (first | omega | (simp only [nx_alloc, nx_upd, len_cons, len_nil, List.length_set, List.length_map, List.length_append] <;> omega) | fail)) only [go_sem, g0, g1, g7, g8, Try.results95]
    exact gc_here ⟨-1, rfl, rfl, by rw [hno]; simp⟩
  have e1 : ((i : Int) < l.length) := by omega
  obtain ⟨n, hx⟩ : ∃ x, l[i]? = some x := ⟨_, List.getElem?_eq_getElem (by omega)⟩
  obtain ⟨pb, po, hb1, hb2, hb3, cells, e', md, hb4, hb5⟩ := View.at1 (P := Try.prog) (e := 3) hv Try.sz3 (i64E_at _ i n hx)
  simp (maxSteps := 1000000) (disch := (first | omega | (simp only [nx_alloc, nx_upd, len_cons, len_nil, List.length_set, List.length_map, List.length_append] <;> omega) | fail)) only [go_sem, g0, g1, g7, g8, hb3, hb4, hb5]
  refine call1 (wrong_ok w0 A' n) ?_
  cases hlo : wrongB n
  · simp (maxSteps := 1000000) (disch := (first | omega | (simp only [nx_alloc, nx_upd, len_cons, len_nil, List.length_set, List.length_map, List.length_append] <;> omega) | fail)) only [go_sem, g8]
    refine ⟨k - 1, by omega, _, i + 1, rfl, by omega, by omega, ?_, ?_, ?_, ?_, ?_⟩
    · rw [List.take_add_one, hx, List.any_append, hno]; simp [hlo]
    · simp (maxSteps := 1000000) (disch := (first | omega | (simp only [nx_alloc, nx_upd, len_cons, len_nil, List.length_set, List.length_map, List.length_append] <;> omega) | fail)) only [go_sem, g0]
    · simp (maxSteps := 1000000) (disch := (first | omega | (simp only [nx_alloc, nx_upd, len_cons, len_nil, List.length_set, List.length_map, List.length_append] <;> omega) | fail)) only [go_sem, g1]
    · simp (maxSteps := 1000000) (disch := (first | omega | (simp only [nx_alloc, nx_upd, len_cons, len_nil, List.length_set, List.length_map, List.length_append] <;> omega) | fail)) only [go_sem, g7]
    · simp (maxSteps := 1000000) (disch := (first | omega | (simp only [nx_alloc, nx_upd, len_cons, len_nil, List.length_set, List.length_map, List.length_append] <;> omega) | fail)) only [go_sem]
      rfl
  · simp (maxSteps := 1000000) (disch := (first | omega | (simp only [nx_alloc, nx_upd, len_cons, len_nil, List.length_set, List.length_map, List.length_append] <;> omega) | fail)) only [go_sem, g8, Try.results95]
    refine gc_here ⟨i, rfl, rfl, ?_⟩
    have : l.any wrongB = true := List.any_eq_true.2 ⟨_, List.mem_of_getElem? hx, hlo⟩
    rw [this]; simp
theorem containsI_ok (w0 : World) (A : St) (l : List Int) (v : Value) (hv : InView A l v) (hl : l.length ≤ 1073741824) : ACalls Try.prog w0 79 #[v, .func (.func 77) #[] #[]] A (fin (.bool (l.any wrongB)) A) := by
  refine call_E Try.enters79 Try.func79 rfl (Nat.le_of_ble_eq_true rfl) fun hw hbd => ?_
  simp (maxSteps := 1000000) (disch := (first | omega | (simp only [nx_alloc, nx_upd, len_cons, len_nil, List.length_set, List.length_map, List.length_append] <;> omega) | fail)) only [go_sem, Try.ntmps79, Try.results79]
  refine (indexI_ok w0 A l v hv hl).mono ?_
  rintro e A' ⟨r, rfl, rfl, hr⟩
  simp (maxSteps := 1000000) (disch := (first | omega | (simp only [nx_alloc, nx_upd, len_cons, len_nil, List.length_set, List.length_map, List.length_append] <;> omega) | fail)) only [go_sem, Try.results79]
  refine gc_fin' hw (Over.refl _) (congrArg Value.bool ?_) (.bool _)
  rw [Bool.eq_iff_iff, decide_eq_true_iff]; exact hr
end Go.Fw
