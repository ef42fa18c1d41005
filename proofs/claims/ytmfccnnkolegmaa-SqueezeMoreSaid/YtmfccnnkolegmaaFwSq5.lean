import Derived.Test.YtmfccnnkolegmaaFwWin2
import Derived.Test.YtmfccnnkolegmaaFwPre34
import Derived.Test.YtmfccnnkolegmaaFwPre39
set_option linter.unusedSimpArgs false
set_option linter.unusedVariables false
set_option maxRecDepth 4000
namespace Go.Fw
open Go.Proofs Go.RowKit
/-! How often symbols come in tokens. -/
theorem Try.enters19 : Enters Try.prog 19 := enters_of Try.func19 rfl (by kernel_rfl)
theorem Try.enters13 : Enters Try.prog 13 := enters_of Try.func13 rfl (by kernel_rfl)
/-- A token's symbol, if it has one. -/
def symP (t : Tok) : Int × Bool := if t.2.1 = 0 then (t.1, true) else if t.2.1 < 3 ∨ t.2.1 > 34 then (0, false) else (t.2.1 + 253, true)
def TokB (t : Tok) : Prop := 0 ≤ t.1 ∧ t.1 ≤ 255
theorem symP_lt {t : Tok} (h : TokB t) : 0 ≤ (symP t).1 ∧ (symP t).1 < 288 := by
  unfold symP
  split
  · have := h.1; have := h.2; exact ⟨h.1, by simp only; omega⟩
  · split
    · exact ⟨Int.le_refl _, by decide⟩
    · exact ⟨by simp only; omega, by simp only; omega⟩
theorem symP_zero (c b : Int) : symP (c, 0, b) = (c, true) := rfl
theorem symP_no {c n b : Int} (h0 : n ≠ 0) (h : n < 3 ∨ n > 34) : symP (c, n, b) = (0, false) := by unfold symP; rw [if_neg h0, if_pos h]
theorem symP_yes {c n b : Int} (h3 : 3 ≤ n) (h : n ≤ 34) : symP (c, n, b) = (n + 253, true) := by
  unfold symP
  rw [if_neg (show ¬ n = 0 by omega), if_neg (show ¬ (n < 3 ∨ n > 34) by omega)]
set_option maxHeartbeats 2000000 in
theorem symbol_ok (w0 : World) (A : St) (t : Tok) (ht : TokB t) : ACalls Try.prog w0 19 #[.agg (tkC t).toArray] A (fin (.tuple #[.int .i64 (symP t).1, .bool (symP t).2]) A) := by
  obtain ⟨c, n, b⟩ := t
  obtain ⟨h0, h1⟩ := ht
  refine call_E (l := [.agg (tkC (c, n, b)).toArray]) Try.enters19 Try.func19 rfl (Nat.le_of_ble_eq_true rfl) fun hw hbd => ?_
  have o1 := (Over.refl A).alloc (.cells [.int .u8 c, .int .i64 n, .int .i64 b] 34 (some 0))
  have hc0 : (0 : Int) ≤ c := h0
  have hc1 : c ≤ 255 := h1
  have hwc : IntKind.i64.wrap c = c := wrap_small hc0 (by omega)
  have bn : ∀ (x : Int) (b : Bool), Bnd A.next (.tuple #[.int .i64 x, .bool b]) := fun x b => by simp only [bnd_tuple, bndL_cons, bndL_nil, bnd_int, bnd_bool, and_self]
  by_cases e1 : n = 0
  · subst e1
    rw [symP_zero]
    unfold tkC
    simp (maxSteps := 1000000) (disch := first | omega | (simp only [Fw.z1, Fw.z2, Fw.z3, Fw.z4, Fw.z5, Fw.z6, Fw.z7] <;> omega) | fail) only [go_sem, Try.ntmps19, Try.results19, hwc]
    exact gc_fin' hw ((Over.refl A).alloc _) rfl (bn _ _)
  by_cases e2 : n < 3
  · rw [symP_no e1 (.inl e2)]
    unfold tkC
    simp (maxSteps := 1000000) (disch := first | omega | (simp only [Fw.z1, Fw.z2, Fw.z3, Fw.z4, Fw.z5, Fw.z6, Fw.z7] <;> omega) | fail) only [go_sem, Try.ntmps19, Try.results19, e1, e2]
    exact gc_fin' hw ((Over.refl A).alloc _) rfl (bn _ _)
  by_cases e3 : n > 34
  · rw [symP_no e1 (.inr e3)]
    unfold tkC
    simp (maxSteps := 1000000) (disch := first | omega | (simp only [Fw.z1, Fw.z2, Fw.z3, Fw.z4, Fw.z5, Fw.z6, Fw.z7] <;> omega) | fail) only [go_sem, Try.ntmps19, Try.results19, e1, e2, e3]
    exact gc_fin' hw ((Over.refl A).alloc _) rfl (bn _ _)
  have hw1 : IntKind.i64.wrap (256 + n) = 256 + n := wrap_small (by omega) (by omega)
  have hw2 : IntKind.i64.wrap (256 + n - 3) = n + 253 := by rw [wrap_small (by omega) (by omega)]; omega
  rw [symP_yes (by omega) (by omega)]
  unfold tkC
  simp (maxSteps := 1000000) (disch := first | omega | (simp only [Fw.z1, Fw.z2, Fw.z3, Fw.z4, Fw.z5, Fw.z6, Fw.z7] <;> omega) | fail) only [go_sem, Try.ntmps19, Try.results19, e1, e2, e3, hw1, hw2]
  exact gc_fin' hw ((Over.refl A).alloc _) rfl (bn _ _)
def cntF (l : List Tok) (k : Nat) : Nat := l.countP fun t => decide (symP t = ((k : Int), true))
theorem cntF_snoc (l : List Tok) (t : Tok) (k : Nat) : cntF (l ++ [t]) k = cntF l k + if symP t = ((k : Int), true) then 1 else 0 := by
  unfold cntF
  rw [List.countP_append, List.countP_singleton]
  congr 1
  by_cases h : symP t = ((k : Int), true)
  · rw [if_pos h, if_pos (by simpa using h)]
  · rw [if_neg h, if_neg (by simpa using h)]
theorem cntF_le (l : List Tok) (k : Nat) : cntF l k ≤ l.length := List.countP_le_length
def freqF (l : List Tok) (k : Nat) : Nat := if k = 288 then 1 else cntF l k
def freqL (l : List Tok) : List Int := (List.range 289).map fun k => ((freqF l k : Nat) : Int)
theorem freqL_len (l : List Tok) : (freqL l).length = 289 := by unfold freqL; rw [List.length_map, List.length_range]
theorem freqL_num (l : List Tok) : numC .i64 289 (freqF l) = (freqL l).map (Value.int .i64 ·) := by
  unfold numC freqL; rw [List.map_map]; rfl
theorem freqL_at {l : List Tok} {k : Nat} (h : k < 289) : (freqL l)[k]? = some ((freqF l k : Nat) : Int) := by
  unfold freqL; rw [List.getElem?_map, List.getElem?_range h]; rfl
/-- A token in a slice of tokens. -/
theorem tks_at {A : St} {v : Value} {l : List Tok} {P : Program} {e i : Nat} {t : Tok} (h : TokView A l v) (hsz : tsz P e = some 3) (hp : l[i]? = some t) : ∃ b off, b < A.next ∧ rowB v = some b ∧ (∀ k : IntKind, indexAddrU P (some (.slice e)) v (.int k i) = some (.pointer (some ⟨b, off, none⟩))) ∧
    ∃ cells e' m, A.get b = some (.cells cells e' m) ∧ off + 3 ≤ cells.length ∧ (cells.drop off).take 3 = tkC t ∧ cells[off]? = some (.int .u8 t.1) ∧ cells[off + 1]? = some (.int .i64 t.2.1) ∧ cells[off + 2]? = some (.int .i64 t.2.2) := by
  obtain ⟨b, off, h1, h2, h3, cells, e', m, h4, h5, h6⟩ := View.at (e := e) h hsz (List.getElem?_eq_some_iff.1 hp).1
  rw [tk_at l i t hp] at h6
  have h7 := congrArg (·[0]?) h6
  have h8 := congrArg (·[1]?) h6
  have h9 := congrArg (·[2]?) h6
  simp only [List.getElem?_take, List.getElem?_drop, Nat.add_zero] at h7 h8 h9
  exact ⟨b, off, h1, h2, h3, cells, e', m, h4, h5, h6, h7, h8, h9⟩
theorem zeros289 : List.replicate 289 (Value.int .i64 0) = numC .i64 289 fun _ => 0 := by
  unfold numC
  rw [List.map_const', List.length_range]; rfl
set_option maxHeartbeats 4000000 in
theorem freq_ok (w0 : World) (A : St) (l : List Tok) (v : Value) (hv : TokView A l v) (hl : l.length ≤ 1000000) (hb : ∀ t ∈ l, TokB t) : ACalls Try.prog w0 13 #[v] A (RowPost A (freqL l)) := by
  refine call_E (l := [v]) Try.enters13 Try.func13 rfl (Nat.le_of_ble_eq_true rfl) fun hw hbd => ?_
  have hlv : ∀ X, lenU X (some (.slice 34)) v = some (.int .i64 l.length, X) := View.lenX hv
  have hmk : amakeSlice Try.prog A 35 (.int .i64 289) (.int .i64 289) = some (.slice (some ⟨A.next, 0, none⟩) 289 289, A.alloc (.cells (numC .i64 289 fun _ => 0) 3 (some 0))) := by
    rw [← zeros289]
    exact makeSlice_ints (n := 289) Try.el35 Try.sz3 Try.byt3 Try.zero3 (by decide) (by decide)
  simp (maxSteps := 1000000) (disch := first | omega | (simp only [Fw.z1, Fw.z2, Fw.z3, Fw.z4, Fw.z5, Fw.z6, Fw.z7] <;> omega) | fail) only [go_sem, Try.ntmps13, Try.results13, hlv, hmk]
  refine aw_loop (fun k x A' => ∃ (ρ : Nat → Value) (i : Nat), x = E 31 ρ [] ∧ Over A A' ∧ A.next < A'.next ∧ A'.get A.next = some (.cells (numC .i64 289 (cntF (l.take i))) 3 (some 0)) ∧ k = l.length - i ∧ i ≤ l.length ∧ ρ 3 = .slice (some ⟨A.next, 0, none⟩) 289 289 ∧ ρ 9 = v ∧ ρ 10 = .int .i64 l.length ∧ ρ 11 = .int .i64 i) l.length
    ⟨_, 0, rfl, (Over.refl A).alloc _, by rw [nx_alloc]; omega, get_alloc_same .., rfl, Nat.zero_le _, rfl, rfl, rfl, rfl⟩ ?_
  rintro k x A' ⟨ρ, i, rfl, oA, hnx, gA, hk, hi, r3, r9, r10, r11⟩
  refine aw_of ?_
  have hL := numC_len .i64 289 (cntF (l.take i))
  by_cases hend : i = l.length
  · have e1 : ¬ ((i : Int) < (l.length : Int)) := by omega
    rw [hend, List.take_length] at gA
    have hset := numC_set .i64 (n := 289) (j := 288) (f := cntF l) (g := freqF l) (fun j hj => if_neg hj)
    have hset' : (numC .i64 289 (cntF l)).set 288 (.int .i64 1) = numC .i64 289 (freqF l) := hset
    have hL2 := numC_len .i64 289 (cntF l)
    simp (maxSteps := 1000000) (disch := first | omega | (simp only [Fw.z1, Fw.z2, Fw.z3, Fw.z4, Fw.z5, Fw.z6, Fw.z7] <;> omega) | fail) only [go_sem, r3, r9, r10, r11, e1, gA, hset', Try.results13]
    refine gc_here ⟨_, rfl, oA.upd (Nat.le_refl _) _, InRow.of ?_⟩
    refine ⟨?_, .inr ⟨A.next, none, by rw [freqL_len], .inl rfl, Nat.le_refl _, hnx, ?_⟩⟩
    · rw [List.length_map, Nat.mul_one]
    · rw [← freqL_num]; exact get_upd_same ..
  have e1 : ((i : Int) < (l.length : Int)) := by omega
  obtain ⟨t, ht⟩ : ∃ x, l[i]? = some x := ⟨_, List.getElem?_eq_getElem (by omega)⟩
  obtain ⟨b, off, hb1, hb2, hb3, cells, e', m, hb4, hb5, hb6, _⟩ := tks_at (P := Try.prog) (e := 34) (View.over hv oA) Try.sz34 ht
  have htB := hb t (List.mem_of_getElem? ht)
  have htk : l.take (i + 1) = l.take i ++ [t] := by rw [List.take_add_one, ht]; rfl
  have hso := fun X => symbol_ok w0 X t htB
  have hlt := symP_lt htB
  have hcs := cntF_snoc (l.take i) t
  rw [← htk] at hcs
  generalize symP t = sy at *
  obtain ⟨sk, sb⟩ := sy
  unfold tkC at hb6 hso
  simp (maxSteps := 1000000) (disch := first | omega | (simp only [Fw.z1, Fw.z2, Fw.z3, Fw.z4, Fw.z5, Fw.z6, Fw.z7] <;> omega) | fail) only [go_sem, r3, r9, r10, r11, e1, hb3, hb4, hb5, hb6]
  refine call1 (hso _) ?_
  obtain ⟨A2, hA2⟩ : ∃ A2, A2 = (A'.alloc (.cells [.int .u8 0, .int .i64 0, .int .i64 0] 34 (some 0))).upd A'.next (some (.cells [.int .u8 t.1, .int .i64 t.2.1, .int .i64 t.2.2] 34 (some 0))) := ⟨_, rfl⟩
  have oA2 : Over A A2 := by rw [hA2]; exact (oA.alloc _).upd (by omega) _
  have hn2 : A.next < A2.next := by rw [hA2, nx_upd, nx_alloc]; omega
  have g2 : A2.get A.next = some (.cells (numC .i64 289 (cntF (l.take i))) 3 (some 0)) := by rw [hA2]; simp (disch := first | omega | (simp only [Fw.z1, Fw.z2, Fw.z3, Fw.z4, Fw.z5, Fw.z6, Fw.z7] <;> omega) | fail) only [St.get_upd, St.get_alloc, St.next_alloc, St.next_upd, ↓reduceIte, natF_lt, natF_gt, natF_ne, Nat.add_assoc, Nat.reduceAdd, Nat.reduceEqDiff, Nat.add_left_cancel_iff] ; exact gA
  rw [← hA2]
  cases sb with
  | false =>
    have hce : cntF (l.take (i + 1)) = cntF (l.take i) := by
      funext j
      rw [hcs j, if_neg (by intro h; cases h)]; rfl
    simp (maxSteps := 1000000) (disch := first | omega | (simp only [Fw.z1, Fw.z2, Fw.z3, Fw.z4, Fw.z5, Fw.z6, Fw.z7] <;> omega) | fail) only [go_sem, r3, r9, r10, r11]
    refine ⟨k - 1, by omega, _, i + 1, rfl, oA2, hn2, by rw [hce]; exact g2, by omega, by omega, ?_, ?_, ?_, ?_⟩
    · simp (maxSteps := 1000000) (disch := first | omega | (simp only [Fw.z1, Fw.z2, Fw.z3, Fw.z4, Fw.z5, Fw.z6, Fw.z7] <;> omega) | fail) only [go_sem, r3]
    · simp (maxSteps := 1000000) (disch := first | omega | (simp only [Fw.z1, Fw.z2, Fw.z3, Fw.z4, Fw.z5, Fw.z6, Fw.z7] <;> omega) | fail) only [go_sem, r9]
    · simp (maxSteps := 1000000) (disch := first | omega | (simp only [Fw.z1, Fw.z2, Fw.z3, Fw.z4, Fw.z5, Fw.z6, Fw.z7] <;> omega) | fail) only [go_sem, r10]
    · simp (maxSteps := 1000000) (disch := first | omega | (simp only [Fw.z1, Fw.z2, Fw.z3, Fw.z4, Fw.z5, Fw.z6, Fw.z7] <;> omega) | fail) only [go_sem]
      rfl
  | true =>
    obtain ⟨n, hn⟩ := Int.eq_ofNat_of_zero_le hlt.1
    simp only at hn hlt
    subst hn
    have hat := numC_at .i64 (n := 289) (j := n) (cntF (l.take i)) (by omega)
    have hset := numC_set .i64 (n := 289) (j := n) (f := cntF (l.take i)) (g := cntF (l.take (i + 1))) (fun j hj => by
      rw [hcs j, if_neg (by intro h; injection h with h _; omega)]; rfl)
    have hcn := hcs n
    rw [if_pos rfl] at hcn
    rw [hcn, Int.natCast_add] at hset
    have hset' : (numC .i64 289 (cntF (l.take i))).set n (.int .i64 ((cntF (l.take i) n : Int) + 1)) = numC .i64 289 (cntF (l.take (i + 1))) := hset
    have hcl := cntF_le (l.take i) n
    have htl : (l.take i).length ≤ i := List.length_take_le ..
    have e2 : (n : Int) < 289 := by omega
    simp (maxSteps := 1000000) (disch := first | omega | (simp only [Fw.z1, Fw.z2, Fw.z3, Fw.z4, Fw.z5, Fw.z6, Fw.z7] <;> omega) | fail) only [go_sem, r3, r9, r10, r11, g2, hat, e2, hset']
    refine ⟨k - 1, by omega, _, i + 1, rfl, oA2.upd (Nat.le_refl _) _, hn2, rfl, by omega, by omega, ?_, ?_, ?_, ?_⟩
    · simp (maxSteps := 1000000) (disch := first | omega | (simp only [Fw.z1, Fw.z2, Fw.z3, Fw.z4, Fw.z5, Fw.z6, Fw.z7] <;> omega) | fail) only [go_sem, r3]
    · simp (maxSteps := 1000000) (disch := first | omega | (simp only [Fw.z1, Fw.z2, Fw.z3, Fw.z4, Fw.z5, Fw.z6, Fw.z7] <;> omega) | fail) only [go_sem, r9]
    · simp (maxSteps := 1000000) (disch := first | omega | (simp only [Fw.z1, Fw.z2, Fw.z3, Fw.z4, Fw.z5, Fw.z6, Fw.z7] <;> omega) | fail) only [go_sem, r10]
    · simp (maxSteps := 1000000) (disch := first | omega | (simp only [Fw.z1, Fw.z2, Fw.z3, Fw.z4, Fw.z5, Fw.z6, Fw.z7] <;> omega) | fail) only [go_sem]
      rfl
end Go.Fw

set_option linter.unusedSimpArgs false
set_option linter.unusedVariables false
set_option maxRecDepth 4000
namespace Go.Fw
open Go.Proofs Go.RowKit
/-! How often symbols come in tokens, the document's way. -/
theorem Try.enters14 : Enters Try.prog 14 := enters_of Try.func14 rfl (by kernel_rfl)
def numL (f : Nat → Nat) : List Int := (List.range 289).map fun k => ((f k : Nat) : Int)
theorem numL_len (f : Nat → Nat) : (numL f).length = 289 := by unfold numL; rw [List.length_map, List.length_range]
theorem numL_num (f : Nat → Nat) : (numL f).map (Value.int .i64 ·) = numC .i64 289 f := by unfold numC numL; rw [List.map_map]; rfl
theorem numL_zero : List.replicate 289 (0 : Int) = numL fun _ => 0 := by
  unfold numL
  rw [List.map_const', List.length_range]; rfl
set_option maxHeartbeats 8000000 in
theorem rfreq_ok (w0 : World) (A : St) (l : List Tok) (v : Value) (hv : TokView A l v) (hl : l.length ≤ 1000000) (hb : ∀ t ∈ l, TokB t) : ACalls Try.prog w0 14 #[v] A (RowPost A (freqL l)) := by
  refine call_E (l := [v]) Try.enters14 Try.func14 rfl (Nat.le_of_ble_eq_true rfl) fun hw hbd => ?_
  have hlv : ∀ X, lenU X (some (.slice 33)) v = some (.int .i64 l.length, X) := View.lenX hv
  simp (maxSteps := 1000000) (disch := first | omega | (simp only [Fw.z1, Fw.z2, Fw.z3, Fw.z4, Fw.z5, Fw.z6, Fw.z7] <;> omega) | fail) only [go_sem, Try.ntmps14, Try.results14]
  refine aw_loop (fun k x A' => ∃ (ρ : Nat → Value) (i : Nat) (fv : Value), x = E 77 ρ [] ∧ Over A A' ∧ Row A' 3 1 A.next ((List.replicate i (0 : Int)).map (Value.int .i64 ·)) (List.replicate i (0 : Int)).length fv ∧ k = 289 - i ∧ i ≤ 289 ∧ ρ 0 = v ∧ ρ 3 = fv ∧ ρ 4 = .int .i64 i) 289
    ⟨_, 0, _, rfl, (Over.refl A).alloc _, ⟨rfl, .inr ⟨A.next, none, rfl, .inl rfl, Nat.le_refl _, by rw [nx_alloc]; omega, get_alloc_same ..⟩⟩, rfl, Nat.zero_le _, rfl, rfl, rfl⟩ ?_
  rintro k x A' ⟨ρ, i, fv, rfl, oA, rf, hk, hi, r0, r3, r4⟩
  refine aw_of ?_
  by_cases hend : i = 289
  rotate_left
  · have e1 : (i : Int) < 289 := by omega
    obtain ⟨v', A2, q1, q2, q3, q4, q5⟩ := int_push rf 0 oA.next (by rw [List.length_replicate]; omega)
    rw [← List.replicate_succ'] at q2
    have oA2 : Over A A2 := ⟨by have := oA.next; omega, fun b hb => (q5 b (by have := oA.next; omega) (rf.ne hb)).trans (oA.get b hb)⟩
    simp (maxSteps := 1000000) (disch := first | omega | (simp only [Fw.z1, Fw.z2, Fw.z3, Fw.z4, Fw.z5, Fw.z6, Fw.z7] <;> omega) | fail) only [go_sem, r0, r3, r4, e1, q1]
    refine ⟨k - 1, by omega, _, i + 1, v', rfl, oA2, q2, by omega, by omega, ?_, ?_, ?_⟩
    · simp (maxSteps := 1000000) (disch := first | omega | (simp only [Fw.z1, Fw.z2, Fw.z3, Fw.z4, Fw.z5, Fw.z6, Fw.z7] <;> omega) | fail) only [go_sem, r0]
    · simp (maxSteps := 1000000) (disch := first | omega | (simp only [Fw.z1, Fw.z2, Fw.z3, Fw.z4, Fw.z5, Fw.z6, Fw.z7] <;> omega) | fail) only [go_sem]
    · simp (maxSteps := 1000000) (disch := first | omega | (simp only [Fw.z1, Fw.z2, Fw.z3, Fw.z4, Fw.z5, Fw.z6, Fw.z7] <;> omega) | fail) only [go_sem]
      rfl
  have e1 : ¬ (i : Int) < 289 := by omega
  rw [hend, numL_zero] at rf
  obtain ⟨fb, sp, hfv, hb1, hb2, hb3, hb4, hb5⟩ := row_block rf (by rw [numL_len]; decide)
  rw [numL_len] at hb4 hb5
  unfold intB at hb3 hb5
  rw [numL_num] at hb3
  simp (maxSteps := 1000000) (disch := first | omega | (simp only [Fw.z1, Fw.z2, Fw.z3, Fw.z4, Fw.z5, Fw.z6, Fw.z7] <;> omega) | fail) only [go_sem, r0, r3, r4, e1]
  refine aw_loop (fun k x B => ∃ (ρ : Nat → Value) (i : Nat), x = E 77 ρ [] ∧ Over A B ∧ fb < B.next ∧ B.get fb = some (.cells (numC .i64 289 (cntF (l.take i))) 3 (some 0)) ∧ k = l.length - i ∧ i ≤ l.length ∧ ρ 0 = v ∧ ρ 3 = fv ∧ ρ 5 = .int .i64 i) l.length
    ⟨_, 0, rfl, oA, hb2, hb3, rfl, Nat.zero_le _, by first | rfl | exact r0, by first | rfl | exact r3, rfl⟩ ?_
  clear r0 r3 r4 e1 hend
  rintro k x B ⟨ρ, i, rfl, oB, hnx, gB, hk, hi, r0, r3, r5⟩
  refine aw_of ?_
  have hL := numC_len .i64 289 (cntF (l.take i))
  by_cases hend : i = l.length
  · have e1 : ¬ ((i : Int) < (l.length : Int)) := by omega
    rw [hend, List.take_length] at gB
    have hset := numC_set .i64 (n := 289) (j := 288) (f := cntF l) (g := freqF l) (fun j hj => if_neg hj)
    have hset' : (numC .i64 289 (cntF l)).set 288 (.int .i64 1) = numC .i64 289 (freqF l) := hset
    have hL2 := numC_len .i64 289 (cntF l)
    have hix : indexAddrU Try.prog (some (.slice 3)) fv (.int .i64 288) = _ := hb4 288 (by decide)
    simp (maxSteps := 1000000) (disch := first | omega | (simp only [Fw.z1, Fw.z2, Fw.z3, Fw.z4, Fw.z5, Fw.z6, Fw.z7] <;> omega) | fail) only [go_sem, r0, r3, r5, hlv, e1, hix, gB, hset', Try.results14]
    refine gc_here ⟨_, rfl, oB.upd hb1 _, InRow.of ?_⟩
    rw [freqL_len]
    have := hb5 (B.upd fb (some (.cells (numC .i64 289 (freqF l)) 3 (some 0)))) (freqL l) (freqL_len l) hnx (by rw [← freqL_num]; exact get_upd_same ..)
    rw [freqL_len] at this
    exact this
  have e1 : ((i : Int) < (l.length : Int)) := by omega
  obtain ⟨t, ht⟩ : ∃ x, l[i]? = some x := ⟨_, List.getElem?_eq_getElem (by omega)⟩
  obtain ⟨b, off, hc1, hc2, hc3, cells, e', m, hc4, hc5, hc6, hc7, hc8, hc9⟩ := tks_at (P := Try.prog) (e := 33) (View.over hv oB) Try.sz33 ht
  have htB := hb t (List.mem_of_getElem? ht)
  have htk : l.take (i + 1) = l.take i ++ [t] := by rw [List.take_add_one, ht]; rfl
  have hcs := cntF_snoc (l.take i) t
  rw [← htk] at hcs
  have htl : (l.take i).length ≤ i := List.length_take_le ..
  have key : ∀ n : Nat, symP t = ((n : Int), true) → n < 289 → (numC .i64 289 (cntF (l.take i)))[n]? = some (.int .i64 ((cntF (l.take i) n : Nat) : Int)) ∧ (numC .i64 289 (cntF (l.take i))).set n (.int .i64 ((cntF (l.take i) n : Int) + 1)) = numC .i64 289 (cntF (l.take (i + 1))) ∧ cntF (l.take i) n ≤ l.length := fun n hn h => by
    refine ⟨numC_at .i64 _ h, ?_, by have := cntF_le (l.take i) n; omega⟩
    have hset := numC_set .i64 (n := 289) (j := n) (f := cntF (l.take i)) (g := cntF (l.take (i + 1))) (fun j hj => by
      rw [hcs j, hn, if_neg (by intro h; injection h with h _; omega)]; rfl)
    have hcn := hcs n
    rw [hn, if_pos rfl] at hcn
    rw [hcn, Int.natCast_add] at hset
    exact hset
  obtain ⟨c, n, bk⟩ := t
  have hc0 : (0 : Int) ≤ c := htB.1
  have hcm : c ≤ 255 := htB.2
  simp only at hc7 hc8 hc9
  have nxt : ∀ (ρ' : Nat → Value) (B' : St), Over A B' → fb < B'.next → B'.get fb = some (.cells (numC .i64 289 (cntF (l.take (i + 1)))) 3 (some 0)) → ρ' 0 = v → ρ' 3 = fv → ρ' 5 = .int .i64 ((i : Int) + 1) → ∃ m', m' < k ∧ ∃ (ρ : Nat → Value) (i : Nat), E 77 ρ' [] = E 77 ρ [] ∧ Over A B' ∧ fb < B'.next ∧ B'.get fb = some (.cells (numC .i64 289 (cntF (l.take i))) 3 (some 0)) ∧ m' = l.length - i ∧ i ≤ l.length ∧ ρ 0 = v ∧ ρ 3 = fv ∧ ρ 5 = .int .i64 i :=
    fun ρ' B' h1 h2 h3 a0 a3 a5 => ⟨k - 1, by omega, ρ', i + 1, rfl, h1, h2, h3, by omega, by omega, a0, a3, a5⟩
  by_cases d1 : n = 0
  · obtain ⟨m0, rfl⟩ := Int.eq_ofNat_of_zero_le hc0
    obtain ⟨k1, k2, k3⟩ := key m0 (by rw [d1]; rfl) (by omega)
    have hwc : IntKind.i64.wrap (m0 : Int) = (m0 : Int) := wrap_small hc0 (by omega)
    have hix := hb4 m0 (by omega)
    simp (maxSteps := 1000000) (disch := first | omega | (simp only [Fw.z1, Fw.z2, Fw.z3, Fw.z4, Fw.z5, Fw.z6, Fw.z7] <;> omega) | fail) only [go_sem, r0, r3, r5, hlv, e1, hc3, hc4, hc7, hc8, d1]
    refine aw_draw2 [⟨false, [], [0]⟩, ⟨false, [], [0]⟩, ⟨false, [], [0]⟩, ⟨false, [1, 2], [0]⟩, ⟨false, [1, 2, 3], [0]⟩, ⟨false, [1, 2, 3, 4], [0]⟩, ⟨false, [1, 2, 3, 4, 5], [0]⟩, ⟨false, [], [0]⟩, ⟨false, [], [0]⟩, ⟨false, [], [0]⟩, ⟨false, [8, 9], [0]⟩, ⟨false, [8, 9, 10], [0]⟩, ⟨false, [8, 9, 10, 11], [0]⟩, ⟨false, [8, 9, 10, 11, 12], [0]⟩, ⟨false, [7, 8, 9, 10, 11, 12, 13], [0]⟩, ⟨false, [7, 8, 9, 10, 11, 12, 13, 14], [0]⟩, ⟨false, [7, 8, 9, 10, 11, 12, 13, 14, 15], [0]⟩, ⟨false, [0, 1, 2, 3, 4, 5, 6, 7, 8, 9, 10, 11, 12, 13, 14, 15, 16], [0]⟩, ⟨true, [0, 1, 2, 3, 4, 5, 6, 7, 8, 9, 10, 11, 12, 13, 14, 15, 16, 17], [0]⟩] [B, B.upd fb (some (.cells (numC .i64 289 (cntF (l.take (i + 1)))) 3 (some 0)))] 1 (by kernel_rfl) (by kernel_rfl) rfl ?_
    simp (maxSteps := 1000000) (disch := first | omega | (simp only [Fw.z1, Fw.z2, Fw.z3, Fw.z4, Fw.z5, Fw.z6, Fw.z7] <;> omega) | fail) only [go_sem, r0, r3, r5, hc3, hc4, hc7, hwc, hix, gB, k1, k2]
    refine ⟨k - 1, by omega, _, i + 1, rfl, oB.upd hb1 _, hnx, rfl, by omega, by omega, ?_, ?_, ?_⟩
    · simp (maxSteps := 1000000) (disch := first | omega | (simp only [Fw.z1, Fw.z2, Fw.z3, Fw.z4, Fw.z5, Fw.z6, Fw.z7] <;> omega) | fail) only [go_sem, r0]
    · simp (maxSteps := 1000000) (disch := first | omega | (simp only [Fw.z1, Fw.z2, Fw.z3, Fw.z4, Fw.z5, Fw.z6, Fw.z7] <;> omega) | fail) only [go_sem, r3]
    · simp (maxSteps := 1000000) (disch := first | omega | (simp only [Fw.z1, Fw.z2, Fw.z3, Fw.z4, Fw.z5, Fw.z6, Fw.z7] <;> omega) | fail) only [go_sem]
      rfl
  by_cases d2 : n ≥ 3
  · by_cases d3 : n ≤ 34
    · obtain ⟨m0, hm0⟩ := Int.eq_ofNat_of_zero_le (show 0 ≤ n + 253 by omega)
      obtain ⟨k1, k2, k3⟩ := key m0 (by rw [symP_yes (by omega) d3, hm0]) (by omega)
      have hw1 : IntKind.i64.wrap (256 + n) = 256 + n := wrap_small (by omega) (by omega)
      have hw2 : IntKind.i64.wrap (256 + n - 3) = (m0 : Int) := by rw [wrap_small (by omega) (by omega)]; omega
      have hix := hb4 m0 (by omega)
      simp (maxSteps := 1000000) (disch := first | omega | (simp only [Fw.z1, Fw.z2, Fw.z3, Fw.z4, Fw.z5, Fw.z6, Fw.z7] <;> omega) | fail) only [go_sem, r0, r3, r5, hlv, e1, hc3, hc4, hc7, hc8, d1, d2, d3, hw1, hw2, hix, gB, k1, k2]
      refine ⟨k - 1, by omega, _, i + 1, rfl, oB.upd hb1 _, hnx, rfl, by omega, by omega, ?_, ?_, ?_⟩
      · simp (maxSteps := 1000000) (disch := first | omega | (simp only [Fw.z1, Fw.z2, Fw.z3, Fw.z4, Fw.z5, Fw.z6, Fw.z7] <;> omega) | fail) only [go_sem, r0]
      · simp (maxSteps := 1000000) (disch := first | omega | (simp only [Fw.z1, Fw.z2, Fw.z3, Fw.z4, Fw.z5, Fw.z6, Fw.z7] <;> omega) | fail) only [go_sem, r3]
      · simp (maxSteps := 1000000) (disch := first | omega | (simp only [Fw.z1, Fw.z2, Fw.z3, Fw.z4, Fw.z5, Fw.z6, Fw.z7] <;> omega) | fail) only [go_sem]
        rfl
    · have hce : cntF (l.take (i + 1)) = cntF (l.take i) := by
        funext j
        rw [hcs j, symP_no d1 (.inr (by omega)), if_neg (by intro h; cases h)]; rfl
      simp (maxSteps := 1000000) (disch := first | omega | (simp only [Fw.z1, Fw.z2, Fw.z3, Fw.z4, Fw.z5, Fw.z6, Fw.z7] <;> omega) | fail) only [go_sem, r0, r3, r5, hlv, e1, hc3, hc4, hc7, hc8, d1, d2, d3]
      refine nxt _ _ oB hnx (by rw [hce]; exact gB) ?_ ?_ ?_
      · simp (maxSteps := 1000000) (disch := first | omega | (simp only [Fw.z1, Fw.z2, Fw.z3, Fw.z4, Fw.z5, Fw.z6, Fw.z7] <;> omega) | fail) only [go_sem, r0]
      · simp (maxSteps := 1000000) (disch := first | omega | (simp only [Fw.z1, Fw.z2, Fw.z3, Fw.z4, Fw.z5, Fw.z6, Fw.z7] <;> omega) | fail) only [go_sem, r3]
      · simp (maxSteps := 1000000) (disch := first | omega | (simp only [Fw.z1, Fw.z2, Fw.z3, Fw.z4, Fw.z5, Fw.z6, Fw.z7] <;> omega) | fail) only [go_sem]
  · have hce : cntF (l.take (i + 1)) = cntF (l.take i) := by
      funext j
      rw [hcs j, symP_no d1 (.inl (by omega)), if_neg (by intro h; cases h)]; rfl
    simp (maxSteps := 1000000) (disch := first | omega | (simp only [Fw.z1, Fw.z2, Fw.z3, Fw.z4, Fw.z5, Fw.z6, Fw.z7] <;> omega) | fail) only [go_sem, r0, r3, r5, hlv, e1, hc3, hc4, hc7, hc8, d1, d2]
    refine nxt _ _ oB hnx (by rw [hce]; exact gB) ?_ ?_ ?_
    · simp (maxSteps := 1000000) (disch := first | omega | (simp only [Fw.z1, Fw.z2, Fw.z3, Fw.z4, Fw.z5, Fw.z6, Fw.z7] <;> omega) | fail) only [go_sem, r0]
    · simp (maxSteps := 1000000) (disch := first | omega | (simp only [Fw.z1, Fw.z2, Fw.z3, Fw.z4, Fw.z5, Fw.z6, Fw.z7] <;> omega) | fail) only [go_sem, r3]
    · simp (maxSteps := 1000000) (disch := first | omega | (simp only [Fw.z1, Fw.z2, Fw.z3, Fw.z4, Fw.z5, Fw.z6, Fw.z7] <;> omega) | fail) only [go_sem]
end Go.Fw

set_option linter.unusedSimpArgs false
set_option linter.unusedVariables false
set_option maxRecDepth 4000
namespace Go.Fw
open Go.Proofs Go.RowKit
/-! What a text is squeezed to: plain. -/
/-- Tokens as a text has them. -/
def TokS (t : Tok) : Prop := (t.2.1 = 0 ∧ 0 ≤ t.1 ∧ t.1 ≤ 255 ∧ t.2.2 = 0) ∨ (t.1 = 0 ∧ 3 ≤ t.2.1 ∧ t.2.1 ≤ 34 ∧ 1 ≤ t.2.2 ∧ t.2.2 ≤ 512)
theorem TokS.b {t : Tok} (h : TokS t) : TokB t := by
  unfold TokB
  rcases h with h | h <;> omega
theorem splitN_S (s : ByteArray) : ∀ (k p : Nat), ∀ t ∈ splitN s k p, TokS t
  | 0, p, t, ht => by cases ht
  | k + 1, p, t, ht => by
    unfold splitN at ht
    split at ht
    · split at ht
      · rcases List.mem_cons.1 ht with rfl | ht
        · have := sbt_byte s p
          unfold Byte at this
          exact .inl ⟨rfl, this.1, by show sbt s p ≤ 255; omega, rfl⟩
        · exact splitN_S s k _ t ht
      · rename_i hz
        rcases List.mem_cons.1 ht with rfl | ht
        · rcases matM_law s p with h | ⟨h1, h2, h3, h4, _⟩
          · rw [h] at hz; exact absurd rfl hz
          · have := (matM_le s p).1
            exact .inr ⟨rfl, by show (3 : Int) ≤ ((matM s p).1 : Nat); omega, by show (((matM s p).1 : Nat) : Int) ≤ 34; omega, by show (1 : Int) ≤ ((matM s p).2 : Nat); omega, by show (((matM s p).2 : Nat) : Int) ≤ 512; omega⟩
        · exact splitN_S s k _ t ht
    · cases ht
theorem splitL_S (s : ByteArray) : ∀ t ∈ splitL s, TokS t := splitN_S s _ _
/-- The lengths of a text's words. -/
def sqL (s : ByteArray) : List Int := lenF 20 (freqL (splitL s)) 15
def tabP (g : List Int) : Nat → List (Int × Int)
  | 0 => []
  | k + 1 => tabP g k ++ if 0 < g.getD k 0 then [(((k : Nat) : Int), 9), (g.getD k 0, 4)] else []
def tokP (g : List Int) (t : Tok) : List (Int × Int) := if t.2.1 = 0 then [pieceAt g t.1.toNat] else [pieceAt g (t.2.1 + 253).toNat, (t.2.2 - 1, 9)]
def sqP (s : ByteArray) : List (Int × Int) := (((lng (sqL s) 0 : Nat) : Int), 9) :: (tabP (sqL s) 289 ++ ((splitL s).flatMap (tokP (sqL s)) ++ [pieceAt (sqL s) 288]))
def squeezeP (s : ByteArray) : ByteArray × Int := if 4096 < s.size then (.empty, 90) else packS (sqP s)
theorem tabP_len (g : List Int) : ∀ k, (tabP g k).length ≤ 2 * k
  | 0 => Nat.le_refl _
  | k + 1 => by
    have := tabP_len g k
    rw [tabP, List.length_append]
    split <;> simp <;> omega
theorem tokP_len (g : List Int) (t : Tok) : (tokP g t).length ≤ 2 := by unfold tokP; split <;> simp
theorem bodyP_len (g : List Int) : ∀ l : List Tok, (l.flatMap (tokP g)).length ≤ 2 * l.length
  | [] => Nat.le_refl _
  | t :: l => by
    have := bodyP_len g l
    have := tokP_len g t
    rw [List.flatMap_cons, List.length_append, List.length_cons]; omega
structure SqOk (s : ByteArray) : Prop where
  lens : lengthsP (freqL (splitL s)) 15 = (sqL s, 0)
  len : (sqL s).length = 289
  code : isCode (sqL s) = true
  codes : codesP (sqL s) = (codeL (sqL s), 0)
  used : ∀ k, k < 289 → ∃ x : Nat, (sqL s)[k]? = some (x : Int) ∧ x ≤ 15 ∧ (0 < x ↔ freqF (splitL s) k ≠ 0)
theorem sq_ok {s : ByteArray} (h : s.size ≤ 4096) : SqOk s := by
  have hsl := splitL_len s
  have hfl := freqL_len (splitL s)
  have hf : ∀ x ∈ freqL (splitL s), 0 ≤ x ∧ x ≤ 1048576 := fun x hx => by
    obtain ⟨k, hk⟩ := List.mem_iff_getElem?.1 hx
    have hkl := (List.getElem?_eq_some_iff.1 hk).1
    rw [hfl] at hkl
    rw [freqL_at hkl] at hk
    injection hk with hk
    have := cntF_le (splitL s) k
    unfold freqF at hk
    split at hk <;> omega
  have hus := usedN_le (freqL (splitL s))
  have h215 : (2 : Nat) ^ 15 = 32768 := rfl
  have hP := lengthsP_of (L := 15) hf (by omega) (by decide) (by decide) (by omega)
  have hH := hok_of (L := 15) hf (by omega)
  have hu0 : usedN (freqL (splitL s)) ≠ 0 := by
    rw [usedN_lng]
    exact lng_of (freqL_at (l := splitL s) (k := 288) (by decide)) (by unfold freqF; simp)
  have hc : isCode (sqL s) = true := lenF_code (by decide) (by decide) hH (by omega) hu0
  have hlen : (sqL s).length = 289 := (lenF_len 20 _ ((15 : Nat) : Int)).trans hfl
  obtain ⟨_, _, hp⟩ := lenF_like (by decide) (by decide) hH
  refine ⟨hP, hlen, hc, by unfold codesP; rw [if_pos hc], fun k hk => ?_⟩
  obtain ⟨x, hx⟩ : ∃ x, (sqL s)[k]? = some x := ⟨_, List.getElem?_eq_getElem (by omega)⟩
  have h15 := (isCode_kr hc).2.2 x (List.mem_of_getElem? hx)
  obtain ⟨n, rfl⟩ := Int.eq_ofNat_of_zero_le h15.1
  have h1 := hp k n _ hx (freqL_at hk)
  exact ⟨n, hx, by omega, by omega⟩
/-- A token's symbol has a word. -/
theorem sym_used {l : List Tok} {t : Tok} (ht : t ∈ l) {k : Nat} (hk : symP t = ((k : Int), true)) : freqF l k ≠ 0 := by
  unfold freqF
  split
  · decide
  · have : 0 < cntF l k := by
      unfold cntF
      rw [List.countP_pos_iff]
      exact ⟨t, ht, by simpa using hk⟩
    omega
theorem codeL_at {g : List Int} {k : Nat} (h : k < g.length) : (codeL g)[k]? = some (pieceAt g k) := by
  unfold codeL
  rw [List.getElem?_map, List.getElem?_range h]; rfl
end Go.Fw

set_option linter.unusedSimpArgs false
set_option linter.unusedVariables false
set_option maxRecDepth 4000
namespace Go.Fw
open Go.Proofs Go.RowKit
/-! Squeeze. -/
theorem Try.enters18 : Enters Try.prog 18 := enters_of Try.func18 rfl (by kernel_rfl)
theorem Try.enters10 : Enters Try.prog 10 := enters_of Try.func10 rfl (by kernel_rfl)
/-- The table, while it grows: its variable, and its row. -/
def TJ (A : St) (tb lo : Nat) (l : List (Int × Int)) (A' : St) : Prop := Over A A' ∧ tb < lo ∧ lo ≤ A'.next ∧ ∃ v, A'.get tb = some (.cells [v] 46 (some 0)) ∧ Row A' 51 2 lo (l.flatMap pcE) l.length v
theorem row_one1 {A : St} {e sz lo len : Nat} {cs : List Value} {v : Value} (h : Row A e sz lo cs len v) : one1 v = true := by
  rcases h.2 with ⟨_, rfl⟩ | ⟨b, sp, rfl, _⟩ <;> rfl
set_option maxHeartbeats 2000000 in
theorem put_ok (w0 : World) (A B : St) (tb lo : Nat) (l : List (Int × Int)) (n wd : Nat) (htb : A.next ≤ tb) (h : TJ A tb lo l B) (hl : l.length ≤ 100000) (hn : n < 65536) (hwd : wd < 65536) :
    ACalls Try.prog w0 18 #[.int .i64 n, .int .i64 wd, .pointer (some ⟨tb, 0, none⟩)] B (fun e B' => e = .returned (.tuple #[]) ∧ TJ A tb lo (l ++ [((n : Int), (wd : Int))]) B') := by
  refine call_E (l := [.int .i64 n, .int .i64 wd, .pointer (some ⟨tb, 0, none⟩)]) Try.enters18 Try.func18 rfl (Nat.le_of_ble_eq_true rfl) fun hw hbd => ?_
  obtain ⟨o, h1, h2, v, h3, h4⟩ := h
  obtain ⟨v', A2, q1, q2, q3, q4, q5⟩ := pcb_push h4 ((n : Int), (wd : Int)) h2 (by omega)
  unfold pcE at q1
  have hwn : IntKind.u32.wrap (n : Int) = (n : Int) := by simp only [IntKind.wrap, IntKind.signed, IntKind.bits]; simp; omega
  have g2 : A2.get tb = some (.cells [v] 46 (some 0)) := (q5 tb (by omega) (h4.ne h1)).trans h3
  have hst : storeC A2 (some 1) (some (.cells [v] 46 (some 0))) tb 0 v' = some (A2.upd tb (some (.cells [v'] 46 (some 0)))) := storeC_val (row_one1 q2) (Nat.le_refl _) (by simp)
  simp (maxSteps := 1000000) (disch := first | omega | (simp only [Fw.z1, Fw.z2, Fw.z3, Fw.z4, Fw.z5, Fw.z6, Fw.z7] <;> omega) | fail) only [go_sem, Try.ntmps18, Try.results18, h3, hwn, q1, g2, hst]
  refine gc_here ⟨rfl, ⟨by have := o.next; show A.next ≤ A2.next; omega, fun b hb => ?_⟩, h1, by show lo ≤ A2.next; omega, v', get_upd_same .., q2.keep (Nat.le_refl _) (fun b hb hlo hlt => get_upd_old (by omega)) (Nat.le_refl _)⟩
  rw [get_upd_old (by omega), q5 b (by have := o.next; omega) (h4.ne (by omega))]
  exact o.get b hb
end Go.Fw

set_option linter.unusedSimpArgs false
set_option linter.unusedVariables false
set_option maxRecDepth 4000
namespace Go.Fw
open Go.Proofs Go.RowKit
theorem pc_mem {g : List Int} (hc : isCode g = true) (k : Nat) : PcOk (pieceAt g k) ∧ mayB (pieceAt g k) = true := by
  unfold pieceAt
  split
  · rename_i h0
    have hx : g[k]? = some (g.getD k 0) := by
      rw [List.getD_eq_getElem?_getD] at h0 ⊢
      cases h : g[k]? with
      | none => rw [h] at h0; simp at h0
      | some x => rfl
    have h15 := (isCode_kr hc).2.2 _ (List.mem_of_getElem? hx)
    generalize g.getD k 0 = x at *
    obtain ⟨n, rfl⟩ := Int.eq_ofNat_of_zero_le h15.1
    simp only [Int.toNat_natCast]
    have hlt := rv_lt n (wrd g k n)
    have h2 : 2 ^ n ≤ 2 ^ 15 := Nat.pow_le_pow_right (by decide) (by omega)
    have h215 : (2 : Nat) ^ 15 = 32768 := rfl
    unfold PcOk mayB
    rw [decide_eq_true_eq]
    simp only [Int.toNat_natCast]
    refine ⟨⟨by omega, by omega, by omega, by omega⟩, by omega, by omega, ?_⟩
    rw [show ((2 : Int) ^ n) = ((2 ^ n : Nat) : Int) by rw [Int.natCast_pow]; rfl]
    omega
  · exact ⟨⟨by decide, by decide, by decide, by decide⟩, by decide⟩
theorem pc_num {n w : Nat} (hw : w ≤ 24) (hn : n < 2 ^ w) : PcOk ((n : Int), (w : Int)) ∧ mayB ((n : Int), (w : Int)) = true := by
  have h2 : 2 ^ w ≤ 2 ^ 24 := Nat.pow_le_pow_right (by decide) hw
  have h24 : (2 : Nat) ^ 24 = 16777216 := rfl
  unfold PcOk mayB
  rw [decide_eq_true_eq]
  simp only [Int.toNat_natCast]
  refine ⟨⟨by omega, by omega, by omega, by omega⟩, by omega, by omega, ?_⟩
  rw [show ((2 : Int) ^ w) = ((2 ^ w : Nat) : Int) by rw [Int.natCast_pow]; rfl]
  omega
theorem tabP_mem {g : List Int} (hc : isCode g = true) : ∀ i, i ≤ 512 → ∀ p ∈ tabP g i, PcOk p ∧ mayB p = true
  | 0, _, p, hp => by cases hp
  | i + 1, hi, p, hp => by
    rw [tabP] at hp
    rcases List.mem_append.1 hp with hp | hp
    · exact tabP_mem hc i (by omega) p hp
    · split at hp
      · rename_i h0
        have hx : g[i]? = some (g.getD i 0) := by
          rw [List.getD_eq_getElem?_getD] at h0 ⊢
          cases h : g[i]? with
          | none => rw [h] at h0; simp at h0
          | some x => rfl
        have h15 := (isCode_kr hc).2.2 _ (List.mem_of_getElem? hx)
        generalize g.getD i 0 = x at *
        obtain ⟨n, rfl⟩ := Int.eq_ofNat_of_zero_le h15.1
        rcases List.mem_cons.1 hp with rfl | hp
        · exact pc_num (w := 9) (by decide) (by show i < 512; omega)
        · rw [List.mem_singleton.1 hp]
          exact pc_num (n := n) (w := 4) (by decide) (by show n < 16; omega)
      · cases hp
theorem sqP_mem {s : ByteArray} (h : s.size ≤ 4096) : ∀ p ∈ sqP s, PcOk p ∧ mayB p = true := fun p hp => by
  have hq := sq_ok h
  unfold sqP at hp
  rcases List.mem_cons.1 hp with rfl | hp
  · have := lng_le (sqL s) 0
    have := hq.len
    exact pc_num (w := 9) (by decide) (by show lng (sqL s) 0 < 512; omega)
  rcases List.mem_append.1 hp with hp | hp
  · exact tabP_mem hq.code 289 (by decide) p hp
  rcases List.mem_append.1 hp with hp | hp
  · obtain ⟨t, ht, hp⟩ := List.mem_flatMap.1 hp
    have hS := splitL_S s t ht
    unfold tokP at hp
    split at hp
    · rw [List.mem_singleton.1 hp]; exact pc_mem hq.code _
    · rename_i hz
      rcases List.mem_cons.1 hp with rfl | hp
      · exact pc_mem hq.code _
      · rw [List.mem_singleton.1 hp]
        rcases hS with hS | ⟨_, _, _, h1, h2⟩
        · exact absurd hS.1 hz
        · obtain ⟨n, hn⟩ := Int.eq_ofNat_of_zero_le (show 0 ≤ t.2.2 - 1 by omega)
          rw [hn]
          exact pc_num (w := 9) (by decide) (by show n < 512; omega)
  · rw [List.mem_singleton.1 hp]; exact pc_mem hq.code _
theorem sqP_ok {s : ByteArray} (h : s.size ≤ 4096) : (∀ p ∈ sqP s, PcOk p) ∧ packOk (sqP s) = true := ⟨fun p hp => (sqP_mem h p hp).1, by
  unfold packOk
  rw [List.all_eq_true]
  exact fun p hp => (sqP_mem h p hp).2⟩
theorem sqP_len {s : ByteArray} : (sqP s).length ≤ 2 * s.size + 600 := by
  have h1 := tabP_len (sqL s) 289
  have h2 := bodyP_len (sqL s) (splitL s)
  have h3 := splitL_len s
  unfold sqP
  rw [List.length_cons, List.length_append, List.length_append, List.length_singleton]
  omega
def sqV (s : ByteArray) : Value := .tuple #[.string (squeezeP s).1, .int .i64 (squeezeP s).2]
theorem bnd_sqV (n : Nat) (s : ByteArray) : Bnd n (sqV s) := by unfold sqV; simp only [bnd_tuple, bndL_cons, bndL_nil, bnd_int, bnd_string, and_self]
/-- A piece more. -/
theorem pc_more {B C : St} {l : List (Int × Int)} {v : Value} (o : Over B C) (h : Row C 51 2 B.next (l.flatMap pcE) l.length v) (x : Int × Int) (hl : l.length ≤ 1000000) :
    ∃ v' C2, aappend Try.prog (C.alloc (.cells [.int .u32 x.1, .int .i64 x.2] 51 (some 0))) 46 46 v (.slice (some ⟨C.next, 0, none⟩) 1 1) = some (v', C2) ∧ Row C2 51 2 B.next ((l ++ [x]).flatMap pcE) (l ++ [x]).length v' ∧ Over B C2 ∧ ∀ b, b < C.next → rowB v ≠ some b → C2.get b = C.get b := by
  obtain ⟨v', A2, q1, q2, q3, q4, q5⟩ := pcb_push h x o.next hl
  exact ⟨v', A2, q1, q2, ⟨by have := o.next; omega, fun b hb => (q5 b (by have := o.next; omega) (h.ne hb)).trans (o.get b hb)⟩, q5⟩
set_option maxHeartbeats 16000000 in
theorem squeeze_ok (w0 : World) (A : St) (s : ByteArray) (hs : s.size ≤ 1000000) : ACalls Try.prog w0 10 #[.string s] A (fin (sqV s) A) := by
  refine call_E (l := [.string s]) Try.enters10 Try.func10 rfl (Nat.le_of_ble_eq_true rfl) fun hw hbd => ?_
  by_cases hcap : 4096 < s.size
  · have e1 : ((s.size : Nat) : Int) > 4096 := by omega
    simp (maxSteps := 1000000) (disch := first | omega | (simp only [Fw.z1, Fw.z2, Fw.z3, Fw.z4, Fw.z5, Fw.z6, Fw.z7] <;> omega) | fail) only [go_sem, Try.ntmps10, Try.results10, e1]
    exact gc_fin' hw (Over.refl _) (by unfold sqV squeezeP; rw [if_pos hcap]; rfl) (bnd_sqV _ _)
  have e1 : ¬ ((s.size : Nat) : Int) > 4096 := by omega
  have hq := sq_ok (s := s) (by omega)
  have hsq : sqV s = .tuple #[.string (packS (sqP s)).1, .int .i64 (packS (sqP s)).2] := by unfold sqV squeezeP; rw [if_neg hcap]
  have hpl := sqP_len (s := s)
  obtain ⟨hpc, hpo⟩ := sqP_ok (s := s) (by omega)
  have hsl := splitL_len s
  have hS := splitL_S s
  have hbv := bnd_sqV A.next s
  simp (maxSteps := 1000000) (disch := first | omega | (simp only [Fw.z1, Fw.z2, Fw.z3, Fw.z4, Fw.z5, Fw.z6, Fw.z7] <;> omega) | fail) only [go_sem, Try.ntmps10, Try.results10, e1]
  refine (Split_ok w0 A s (by omega)).mono ?_
  rintro e A1 ⟨tv, rfl, o1, rt⟩
  have vt : TokView A1 (splitL s) tv := rt.view
  simp (maxSteps := 1000000) (disch := first | omega | (simp only [Fw.z1, Fw.z2, Fw.z3, Fw.z4, Fw.z5, Fw.z6, Fw.z7] <;> omega) | fail) only [go_sem]
  refine (freq_ok w0 A1 (splitL s) tv vt (by omega) (fun t ht => (hS t ht).b)).mono ?_
  rintro e A2 ⟨fv, rfl, o2, rf⟩
  have hLo := lengths_ok w0 A2 _ fv 15 rf.view (by rw [freqL_len]; decide)
  rw [hq.lens] at hLo
  simp (maxSteps := 1000000) (disch := first | omega | (simp only [Fw.z1, Fw.z2, Fw.z3, Fw.z4, Fw.z5, Fw.z6, Fw.z7] <;> omega) | fail) only [go_sem]
  refine hLo.mono ?_
  rintro e A3 ⟨gv, rfl, o3, rg⟩
  have vg : InView A3 (sqL s) gv := rg.view
  have hlen := hq.len
  simp (maxSteps := 1000000) (disch := first | omega | (simp only [Fw.z1, Fw.z2, Fw.z3, Fw.z4, Fw.z5, Fw.z6, Fw.z7] <;> omega) | fail) only [go_sem]
  have hco := codes_ok w0 A3 (sqL s) gv vg (by omega)
  rw [hq.codes] at hco
  refine hco.mono ?_
  rintro e A4 ⟨cv, rfl, o4, rc⟩
  have rcv := rc.view
  rw [flatP_eq] at rcv
  have hcl := codeL_len (sqL s)
  have hlg : ∀ X, lenU X (some (.slice 3)) gv = some (.int .i64 (sqL s).length, X) := View.lenX vg
  have vg4 : InView A4 (sqL s) gv := View.over vg o4
  have vt4 : TokView A4 (splitL s) tv := View.over (View.over (View.over vt o2) o3) o4
  have oA4 : Over A A4 := ((o1.trans o2).trans o3).trans o4
  have hlt : ∀ X, lenU X (some (.slice 34)) tv = some (.int .i64 (splitL s).length, X) := View.lenX vt
  simp (maxSteps := 1000000) (disch := first | omega | (simp only [Fw.z1, Fw.z2, Fw.z3, Fw.z4, Fw.z5, Fw.z6, Fw.z7] <;> omega) | fail) only [go_sem, hlg]
  refine aw_loop (fun k x B => ∃ (ρ : Nat → Value) (i : Nat), x = E 106 ρ [] ∧ TJ A4 A4.next (A4.next + 1) (tabP (sqL s) i) B ∧ k = 289 - i ∧ i ≤ 289 ∧ ρ 4 = tv ∧ ρ 7 = cv ∧ ρ 8 = .slice none 0 0 ∧ ρ 9 = .pointer (some ⟨A4.next, 0, none⟩) ∧ ρ 10 = .func (.func 18) #[] #[.pointer (some ⟨A4.next, 0, none⟩)] ∧ ρ 11 = .int .i64 (lng ((sqL s).take i) 0 : Nat) ∧ ρ 41 = gv ∧ ρ 42 = .int .i64 ((sqL s).length : Nat) ∧ ρ 43 = .int .i64 i) 289
    ⟨_, 0, rfl, ⟨(Over.refl A4).alloc _, by omega, Nat.le_refl _, _, get_alloc_same .., Row.nil ..⟩, rfl, Nat.zero_le _, rfl, rfl, rfl, rfl, rfl, rfl, rfl, rfl, rfl⟩ ?_
  rintro k x B ⟨ρ, i, rfl, tj, hk, hi, r4, r7, r8, r9, r10, r11, r41, r42, r43⟩
  refine aw_of ?_
  have hlgi := lng_le ((sqL s).take i) 0
  have htl : ((sqL s).take i).length ≤ i := List.length_take_le ..
  by_cases hend : i = 289
  rotate_left
  · have e2 : (i : Int) < ((sqL s).length : Nat) := by omega
    obtain ⟨x, hx, hx15, _⟩ := hq.used i (by omega)
    obtain ⟨pb, po, hb1, hb2, hb3, cells, e', md, hb4, hb5⟩ := View.at1 (P := Try.prog) (e := 3) (View.over vg4 tj.1) Try.sz3 (i64E_at _ i _ hx)
    have htk : (sqL s).take (i + 1) = (sqL s).take i ++ [(x : Int)] := by rw [List.take_add_one, hx]; rfl
    have hsn := lng_snoc ((sqL s).take i) (x : Int) 0
    rw [← htk] at hsn
    have hgd := getD_some hx
    have htl2 := tabP_len (sqL s) i
    by_cases h0 : (x : Int) > 0
    · have htp : tabP (sqL s) (i + 1) = tabP (sqL s) i ++ [((i : Int), ((9 : Nat) : Int))] ++ [((x : Int), ((4 : Nat) : Int))] := by
        rw [tabP, hgd, if_pos h0, List.append_assoc]; rfl
      rw [if_pos (by omega)] at hsn
      simp (maxSteps := 1000000) (disch := first | omega | (simp only [Fw.z1, Fw.z2, Fw.z3, Fw.z4, Fw.z5, Fw.z6, Fw.z7] <;> omega) | fail) only [go_sem, r4, r7, r8, r9, r10, r11, r41, r42, r43, e2, hb3, hb4, hb5, h0]
      refine (put_ok w0 A4 B A4.next (A4.next + 1) _ i 9 (Nat.le_refl _) tj (by omega) (by omega) (by decide)).mono ?_
      rintro e B1 ⟨rfl, tj1⟩
      simp (maxSteps := 1000000) (disch := first | omega | (simp only [Fw.z1, Fw.z2, Fw.z3, Fw.z4, Fw.z5, Fw.z6, Fw.z7] <;> omega) | fail) only [go_sem, r10]
      refine (put_ok w0 A4 B1 A4.next (A4.next + 1) _ x 4 (Nat.le_refl _) tj1 (by rw [List.length_append, List.length_singleton]; omega) (by omega) (by decide)).mono ?_
      rintro e B2 ⟨rfl, tj2⟩
      rw [← htp] at tj2
      simp (maxSteps := 1000000) (disch := first | omega | (simp only [Fw.z1, Fw.z2, Fw.z3, Fw.z4, Fw.z5, Fw.z6, Fw.z7] <;> omega) | fail) only [go_sem, r11, r43]
      refine ⟨k - 1, by omega, _, i + 1, rfl, tj2, by omega, by omega, ?_, ?_, ?_, ?_, ?_, ?_, ?_, ?_, ?_⟩
      · simp (maxSteps := 1000000) (disch := first | omega | (simp only [Fw.z1, Fw.z2, Fw.z3, Fw.z4, Fw.z5, Fw.z6, Fw.z7] <;> omega) | fail) only [go_sem, r4]
      · simp (maxSteps := 1000000) (disch := first | omega | (simp only [Fw.z1, Fw.z2, Fw.z3, Fw.z4, Fw.z5, Fw.z6, Fw.z7] <;> omega) | fail) only [go_sem, r7]
      · simp (maxSteps := 1000000) (disch := first | omega | (simp only [Fw.z1, Fw.z2, Fw.z3, Fw.z4, Fw.z5, Fw.z6, Fw.z7] <;> omega) | fail) only [go_sem, r8]
      · simp (maxSteps := 1000000) (disch := first | omega | (simp only [Fw.z1, Fw.z2, Fw.z3, Fw.z4, Fw.z5, Fw.z6, Fw.z7] <;> omega) | fail) only [go_sem, r9]
      · simp (maxSteps := 1000000) (disch := first | omega | (simp only [Fw.z1, Fw.z2, Fw.z3, Fw.z4, Fw.z5, Fw.z6, Fw.z7] <;> omega) | fail) only [go_sem, r10]
      · simp (maxSteps := 1000000) (disch := first | omega | (simp only [Fw.z1, Fw.z2, Fw.z3, Fw.z4, Fw.z5, Fw.z6, Fw.z7] <;> omega) | fail) only [go_sem]
        rw [hsn]; rfl
      · simp (maxSteps := 1000000) (disch := first | omega | (simp only [Fw.z1, Fw.z2, Fw.z3, Fw.z4, Fw.z5, Fw.z6, Fw.z7] <;> omega) | fail) only [go_sem, r41]
      · simp (maxSteps := 1000000) (disch := first | omega | (simp only [Fw.z1, Fw.z2, Fw.z3, Fw.z4, Fw.z5, Fw.z6, Fw.z7] <;> omega) | fail) only [go_sem, r42]
      · simp (maxSteps := 1000000) (disch := first | omega | (simp only [Fw.z1, Fw.z2, Fw.z3, Fw.z4, Fw.z5, Fw.z6, Fw.z7] <;> omega) | fail) only [go_sem]
        rfl
    · have htp : tabP (sqL s) (i + 1) = tabP (sqL s) i := by
        rw [tabP, hgd, if_neg h0, List.append_nil]
      rw [if_neg (by omega)] at hsn
      simp (maxSteps := 1000000) (disch := first | omega | (simp only [Fw.z1, Fw.z2, Fw.z3, Fw.z4, Fw.z5, Fw.z6, Fw.z7] <;> omega) | fail) only [go_sem, r4, r7, r8, r9, r10, r11, r41, r42, r43, e2, hb3, hb4, hb5, h0]
      refine ⟨k - 1, by omega, _, i + 1, rfl, by rw [htp]; exact tj, by omega, by omega, ?_, ?_, ?_, ?_, ?_, ?_, ?_, ?_, ?_⟩
      · simp (maxSteps := 1000000) (disch := first | omega | (simp only [Fw.z1, Fw.z2, Fw.z3, Fw.z4, Fw.z5, Fw.z6, Fw.z7] <;> omega) | fail) only [go_sem, r4]
      · simp (maxSteps := 1000000) (disch := first | omega | (simp only [Fw.z1, Fw.z2, Fw.z3, Fw.z4, Fw.z5, Fw.z6, Fw.z7] <;> omega) | fail) only [go_sem, r7]
      · simp (maxSteps := 1000000) (disch := first | omega | (simp only [Fw.z1, Fw.z2, Fw.z3, Fw.z4, Fw.z5, Fw.z6, Fw.z7] <;> omega) | fail) only [go_sem, r8]
      · simp (maxSteps := 1000000) (disch := first | omega | (simp only [Fw.z1, Fw.z2, Fw.z3, Fw.z4, Fw.z5, Fw.z6, Fw.z7] <;> omega) | fail) only [go_sem, r9]
      · simp (maxSteps := 1000000) (disch := first | omega | (simp only [Fw.z1, Fw.z2, Fw.z3, Fw.z4, Fw.z5, Fw.z6, Fw.z7] <;> omega) | fail) only [go_sem, r10]
      · simp (maxSteps := 1000000) (disch := first | omega | (simp only [Fw.z1, Fw.z2, Fw.z3, Fw.z4, Fw.z5, Fw.z6, Fw.z7] <;> omega) | fail) only [go_sem, r11]
        rw [hsn]; rfl
      · simp (maxSteps := 1000000) (disch := first | omega | (simp only [Fw.z1, Fw.z2, Fw.z3, Fw.z4, Fw.z5, Fw.z6, Fw.z7] <;> omega) | fail) only [go_sem, r41]
      · simp (maxSteps := 1000000) (disch := first | omega | (simp only [Fw.z1, Fw.z2, Fw.z3, Fw.z4, Fw.z5, Fw.z6, Fw.z7] <;> omega) | fail) only [go_sem, r42]
      · simp (maxSteps := 1000000) (disch := first | omega | (simp only [Fw.z1, Fw.z2, Fw.z3, Fw.z4, Fw.z5, Fw.z6, Fw.z7] <;> omega) | fail) only [go_sem]
        rfl
  have e2 : ¬ (i : Int) < ((sqL s).length : Nat) := by omega
  rw [hend, List.take_of_length_le (by omega)] at r11
  rw [hend] at tj
  have htab := tabP_len (sqL s) 289
  have hsqP : sqP s = (((lng (sqL s) 0 : Nat) : Int), 9) :: (tabP (sqL s) 289 ++ ((splitL s).flatMap (tokP (sqL s)) ++ [pieceAt (sqL s) 288])) := rfl
  generalize tabP (sqL s) 289 = T at *
  obtain ⟨oB, _, hlo, bv, gtb, rb⟩ := tj
  obtain ⟨p1, C1, q1, row1, oc1, _⟩ := pc_more (l := []) (Over.refl B) (Row.nil B 51 2 B.next) (((lng (sqL s) 0 : Nat) : Int), 9) (Nat.zero_le _)
  have hlgB := lng_le (sqL s) 0
  have hwu : IntKind.u32.wrap ((lng (sqL s) 0 : Nat) : Int) = ((lng (sqL s) 0 : Nat) : Int) := by simp only [IntKind.wrap, IntKind.signed, IntKind.bits]; simp; omega
  have gtb1 : C1.get A4.next = some (.cells [bv] 46 (some 0)) := (oc1.get _ (by omega)).trans gtb
  have rb1 := rb.over oc1
  obtain ⟨p2, C2, s1, s2, s3, s4, s5, s6⟩ := row_src (A := C1) (x := bv) (m := (T).length) (new := (T).flatMap pcE) Try.el46 Try.underlying46 (by intro k; exact TypeDesc.noConfusion) Try.sz51 Try.byt51 Try.zero51 rfl row1 oc1.next (View.src rb1.view) (flatMap_len _ pcE_len) (by simp only [List.nil_append, List.length_singleton]; omega) (by simp only [List.nil_append, List.length_singleton]; omega) (by
    rw [List.all_eq_true]
    intro v hv
    obtain ⟨p, _, hp⟩ := List.mem_flatMap.1 hv
    unfold pcE at hp
    simp at hp
    rcases hp with rfl | rfl <;> rfl)
  have oc2 : Over B C2 := ⟨Nat.le_trans oc1.next s3, fun b hb => (s4 b (by have := oc1.next; omega) (row1.ne hb)).trans (oc1.get b hb)⟩
  have row2 : Row C2 51 2 B.next (((((lng (sqL s) 0 : Nat) : Int), 9) :: T).flatMap pcE) ((((lng (sqL s) 0 : Nat) : Int), 9) :: T).length p2 := by
    have := s2
    rw [show ([] ++ [(((lng (sqL s) 0 : Nat) : Int), (9 : Int))] : List (Int × Int)).flatMap pcE ++ (T).flatMap pcE = ((((lng (sqL s) 0 : Nat) : Int), 9) :: T).flatMap pcE by rw [← List.flatMap_append]; rfl] at this
    rw [List.length_cons, Nat.add_comm]
    exact this
  simp (maxSteps := 1000000) (disch := first | omega | (simp only [Fw.z1, Fw.z2, Fw.z3, Fw.z4, Fw.z5, Fw.z6, Fw.z7] <;> omega) | fail) only [go_sem, r4, r7, r8, r9, r10, r11, r41, r42, r43, e2, hwu, q1, gtb1, s1, hlt]
  have hused := hq.used
  have hcode := hq.code
  have oAB : Over A B := oA4.trans oB
  generalize hLd : splitL s = L at *
  generalize hgd : sqL s = g at *
  obtain ⟨U, hU⟩ : ∃ U : List (Int × Int), U = (((lng g 0 : Nat) : Int), 9) :: T := ⟨_, rfl⟩
  have hsqU : sqP s = U ++ L.flatMap (tokP g) ++ [pieceAt g 288] := by rw [hsqP, hU]; simp
  rw [← hU] at row2
  have hUl : U.length ≤ 579 := by rw [hU, List.length_cons]; omega
  have vtB : TokView B L tv := View.over vt4 oB
  have rcvB := View.over rcv oB
  clear q1 row1 gtb1 rb1 s1 s2 s3 s4 s5 s6 gtb rb hwu e2 r41 r42 r43 r9 r10 r11 hsqP hU hlg vg4 vg hLo hco rf rg
  refine aw_loop (fun k x C => ∃ (ρ : Nat → Value) (i : Nat) (pv : Value), x = E 106 ρ [] ∧ Over B C ∧ Row C 51 2 B.next ((U ++ (L.take i).flatMap (tokP g)).flatMap pcE) (U ++ (L.take i).flatMap (tokP g)).length pv ∧ k = L.length - i ∧ i ≤ L.length ∧ ρ 7 = cv ∧ ρ 8 = pv ∧ ρ 68 = tv ∧ ρ 69 = .int .i64 L.length ∧ ρ 70 = .int .i64 i) L.length
    ⟨_, 0, p2, rfl, oc2, ?_, rfl, Nat.zero_le _, by first | rfl | exact r7, rfl, by first | rfl | exact r4, rfl, rfl⟩ ?_
  · rw [List.take_zero, List.flatMap_nil, List.append_nil]; exact row2
  clear row2 oc2 r4 r7 r8
  rintro k x C ⟨ρ, i, pv, rfl, oC, rp, hk, hi, r7, r8, r68, r69, r70⟩
  refine aw_of ?_
  have hbl := bodyP_len g (L.take i)
  have htl2 : (L.take i).length ≤ i := List.length_take_le ..
  have hUl2 : (U ++ (L.take i).flatMap (tokP g)).length ≤ 20000 := by rw [List.length_append]; omega
  by_cases hend2 : i = L.length
  · have e2 : ¬ (i : Int) < (L.length : Nat) := by omega
    obtain ⟨b1, f1, x1, _, x3, cs1, e1', m1, x4, x5, x6, _⟩ := pcs_at (P := Try.prog) (e := 51) (View.over rcvB oC) Try.sz51 (codeL_at (g := g) (k := 288) (by omega))
    have x3' : indexAddrU Try.prog (some (.slice 51)) cv (.int .i64 288) = _ := x3 .i64
    rw [hend2, List.take_length] at rp hUl2
    obtain ⟨p', C', q1, row', oc', _⟩ := pc_more oC rp (pieceAt g 288) (by omega)
    rw [← hsqU] at row'
    have rv := row'.view
    rw [flatP_eq] at rv
    simp (maxSteps := 1000000) (disch := first | omega | (simp only [Fw.z1, Fw.z2, Fw.z3, Fw.z4, Fw.z5, Fw.z6, Fw.z7] <;> omega) | fail) only [go_sem, r7, r8, r68, r69, r70, e2, x3', x4, x5, x6, q1]
    refine call1 (pack_ok w0 C' p' (sqP s) hpc (by omega) rv) ?_
    simp (maxSteps := 1000000) (disch := first | omega | (simp only [Fw.z1, Fw.z2, Fw.z3, Fw.z4, Fw.z5, Fw.z6, Fw.z7] <;> omega) | fail) only [go_sem, packR_eq, Try.results10]
    exact gc_fin' hw (oAB.trans oc') hsq.symm hbv
  have e2 : (i : Int) < (L.length : Nat) := by omega
  obtain ⟨t, ht⟩ : ∃ x, L[i]? = some x := ⟨_, List.getElem?_eq_getElem (by omega)⟩
  have htS := hS t (List.mem_of_getElem? ht)
  have htm := List.mem_of_getElem? ht
  obtain ⟨b, off, hb1, hb2, hb3, cells, e', m, hb4, hb5, hb6, _⟩ := tks_at (P := Try.prog) (e := 34) (View.over vtB oC) Try.sz34 ht
  have htk : L.take (i + 1) = L.take i ++ [t] := by rw [List.take_add_one, ht]; rfl
  have hso := fun X => symbol_ok w0 X t htS.b
  unfold tkC at hb6 hso
  simp (maxSteps := 1000000) (disch := first | omega | (simp only [Fw.z1, Fw.z2, Fw.z3, Fw.z4, Fw.z5, Fw.z6, Fw.z7] <;> omega) | fail) only [go_sem, r7, r8, r68, r69, r70, e2, hb3, hb4, hb5, hb6]
  refine call1 (hso _) ?_
  obtain ⟨C2, hC2⟩ : ∃ C2, C2 = (C.alloc (.cells [.int .u8 0, .int .i64 0, .int .i64 0] 34 (some 0))).upd C.next (some (.cells [.int .u8 t.1, .int .i64 t.2.1, .int .i64 t.2.2] 34 (some 0))) := ⟨_, rfl⟩
  have oC2' : Over C C2 := by rw [hC2]; exact ((Over.refl C).alloc _).upd (Nat.le_refl _) _
  have oC2 : Over B C2 := oC.trans oC2'
  have gC2 : C2.get C.next = some (.cells [.int .u8 t.1, .int .i64 t.2.1, .int .i64 t.2.2] 34 (some 0)) := by rw [hC2]; exact get_upd_same ..
  have rp2 := rp.over oC2'
  have hnx2 : C.next < C2.next := by rw [hC2, nx_upd, nx_alloc]; omega
  rw [← hC2]
  have hrb : rowB pv ≠ some C.next := fun h => by have := (rp.rb _ h).2; omega
  clear hC2 rp hb1 hb2 hb3 hb4 hb5 hb6
  obtain ⟨sk, hsk, hsk2⟩ : ∃ sk : Nat, symP t = ((sk : Int), true) ∧ sk < 288 := by
    have h1 := symP_lt htS.b
    obtain ⟨n, hn⟩ := Int.eq_ofNat_of_zero_le h1.1
    refine ⟨n, ?_, by omega⟩
    have : (symP t).2 = true := by
      unfold symP
      rcases htS with h | h
      · rw [if_pos h.1]
      · rw [if_neg (by omega), if_neg (by omega)]
    exact Prod.ext hn this
  obtain ⟨b1, f1, x1, _, x3, cs1, e1', m1, x4, x5, x6, _⟩ := pcs_at (P := Try.prog) (e := 51) (View.over rcvB oC2) Try.sz51 (codeL_at (g := g) (k := sk) (by omega))
  obtain ⟨p3, C3, q1, row3, oc3, k3⟩ := pc_more oC2 rp2 (pieceAt g sk) (by omega)
  have gC3 : C3.get C.next = some (.cells [.int .u8 t.1, .int .i64 t.2.1, .int .i64 t.2.2] 34 (some 0)) := (k3 _ hnx2 hrb).trans gC2
  rw [hsk]
  rcases htS with ⟨z1, z2, z3, z4⟩ | ⟨z1, z2, z3, z4, z5⟩
  · have hske : ((sk : Nat) : Int) = t.1 := by
      unfold symP at hsk
      rw [if_pos z1] at hsk
      injection hsk with h _
      exact h.symm
    have e3 : ¬ ((sk : Nat) : Int) ≥ 256 := by omega
    have htp : tokP g t = [pieceAt g sk] := by unfold tokP; rw [if_pos z1, show t.1.toNat = sk by omega]
    have hst : U ++ (L.take (i + 1)).flatMap (tokP g) = U ++ (L.take i).flatMap (tokP g) ++ [pieceAt g sk] := by
      rw [htk, List.flatMap_append, List.flatMap_singleton, htp, List.append_assoc]
    rw [← hst] at row3
    simp (maxSteps := 1000000) (disch := first | omega | (simp only [Fw.z1, Fw.z2, Fw.z3, Fw.z4, Fw.z5, Fw.z6, Fw.z7] <;> omega) | fail) only [go_sem, r7, r8, r68, r69, r70, x3, x4, x5, x6, q1, e3]
    refine ⟨k - 1, by omega, _, i + 1, p3, rfl, oc3, row3, by omega, by omega, ?_, ?_, ?_, ?_, ?_⟩
    · simp (maxSteps := 1000000) (disch := first | omega | (simp only [Fw.z1, Fw.z2, Fw.z3, Fw.z4, Fw.z5, Fw.z6, Fw.z7] <;> omega) | fail) only [go_sem, r7]
    · simp (maxSteps := 1000000) (disch := first | omega | (simp only [Fw.z1, Fw.z2, Fw.z3, Fw.z4, Fw.z5, Fw.z6, Fw.z7] <;> omega) | fail) only [go_sem]
    · simp (maxSteps := 1000000) (disch := first | omega | (simp only [Fw.z1, Fw.z2, Fw.z3, Fw.z4, Fw.z5, Fw.z6, Fw.z7] <;> omega) | fail) only [go_sem, r68]
    · simp (maxSteps := 1000000) (disch := first | omega | (simp only [Fw.z1, Fw.z2, Fw.z3, Fw.z4, Fw.z5, Fw.z6, Fw.z7] <;> omega) | fail) only [go_sem, r69]
    · simp (maxSteps := 1000000) (disch := first | omega | (simp only [Fw.z1, Fw.z2, Fw.z3, Fw.z4, Fw.z5, Fw.z6, Fw.z7] <;> omega) | fail) only [go_sem]
      rfl
  · have hske : ((sk : Nat) : Int) = t.2.1 + 253 := by
      unfold symP at hsk
      rw [if_neg (by omega), if_neg (by omega)] at hsk
      injection hsk with h _
      exact h.symm
    have e3 : ((sk : Nat) : Int) ≥ 256 := by omega
    have htp : tokP g t = [pieceAt g sk, (t.2.2 - 1, 9)] := by unfold tokP; rw [if_neg (by omega), show (t.2.1 + 253).toNat = sk by omega]
    obtain ⟨p4, C4, q2, row4, oc4, _⟩ := pc_more oc3 row3 (t.2.2 - 1, 9) (by rw [List.length_append, List.length_singleton]; omega)
    have hst : U ++ (L.take (i + 1)).flatMap (tokP g) = U ++ (L.take i).flatMap (tokP g) ++ [pieceAt g sk] ++ [(t.2.2 - 1, 9)] := by
      rw [htk, List.flatMap_append, List.flatMap_singleton, htp]; simp
    rw [← hst] at row4
    have hw1 : IntKind.i64.wrap (t.2.2 - 1) = t.2.2 - 1 := wrap_small (by omega) (by omega)
    have hw2 : IntKind.u32.wrap (t.2.2 - 1) = t.2.2 - 1 := by simp only [IntKind.wrap, IntKind.signed, IntKind.bits]; simp; omega
    simp (maxSteps := 1000000) (disch := first | omega | (simp only [Fw.z1, Fw.z2, Fw.z3, Fw.z4, Fw.z5, Fw.z6, Fw.z7] <;> omega) | fail) only [go_sem, r7, r8, r68, r69, r70, x3, x4, x5, x6, q1, e3, gC3, hw1, hw2, q2]
    refine ⟨k - 1, by omega, _, i + 1, p4, rfl, oc4, row4, by omega, by omega, ?_, ?_, ?_, ?_, ?_⟩
    · simp (maxSteps := 1000000) (disch := first | omega | (simp only [Fw.z1, Fw.z2, Fw.z3, Fw.z4, Fw.z5, Fw.z6, Fw.z7] <;> omega) | fail) only [go_sem, r7]
    · simp (maxSteps := 1000000) (disch := first | omega | (simp only [Fw.z1, Fw.z2, Fw.z3, Fw.z4, Fw.z5, Fw.z6, Fw.z7] <;> omega) | fail) only [go_sem]
    · simp (maxSteps := 1000000) (disch := first | omega | (simp only [Fw.z1, Fw.z2, Fw.z3, Fw.z4, Fw.z5, Fw.z6, Fw.z7] <;> omega) | fail) only [go_sem, r68]
    · simp (maxSteps := 1000000) (disch := first | omega | (simp only [Fw.z1, Fw.z2, Fw.z3, Fw.z4, Fw.z5, Fw.z6, Fw.z7] <;> omega) | fail) only [go_sem, r69]
    · simp (maxSteps := 1000000) (disch := first | omega | (simp only [Fw.z1, Fw.z2, Fw.z3, Fw.z4, Fw.z5, Fw.z6, Fw.z7] <;> omega) | fail) only [go_sem]
      rfl
end Go.Fw
