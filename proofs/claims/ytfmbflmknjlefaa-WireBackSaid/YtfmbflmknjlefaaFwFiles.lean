import Derived.Test.YtfmbflmknjlefaaFwFacts
import Derived.Test.YtfmbflmknjlefaaFw36
set_option linter.unusedSimpArgs false
set_option linter.unusedVariables false
set_option maxRecDepth 4000
namespace Go.Fw
open Go.Proofs Go.RowKit
/-- A file: its name, its data. -/
abbrev FileT := ByteArray × ByteArray
def flC (f : FileT) : List Value := [.string f.1, .string f.2]
theorem flC_len (f : FileT) : (flC f).length = 2 := rfl
def FlView (A : St) (l : List FileT) (v : Value) : Prop := View A 2 (l.flatMap flC) l.length v
theorem Try.enters78 : Enters Try.prog 78 := enters_of Try.func78 rfl (by kernel_rfl)
theorem Try.enters92 : Enters Try.prog 92 := enters_of Try.func92 rfl (by kernel_rfl)
theorem Try.enters93 : Enters Try.prog 93 := enters_of Try.func93 rfl (by kernel_rfl)
theorem Try.enters94 : Enters Try.prog 94 := enters_of Try.func94 rfl (by kernel_rfl)
theorem Try.enters102 : Enters Try.prog 102 := enters_of Try.func102 rfl (by kernel_rfl)
theorem Try.enters103 : Enters Try.prog 103 := enters_of Try.func103 rfl (by kernel_rfl)
theorem compare_ok (w0 : World) (A : St) (a b : ByteArray) : ACalls Try.prog w0 94 #[.string a, .string b] A (fin (.int .i64 (cmpS a b)) A) := by
  refine call_E Try.enters94 Try.func94 rfl (Nat.le_of_ble_eq_true rfl) fun hw hbd => ?_
  have h30 : ACalls Try.prog w0 103 #[.string a, .string b] A (fin (.int .i64 (cmpS a b)) A) := by
    refine call_E Try.enters103 Try.func103 rfl (Nat.le_of_ble_eq_true rfl) fun hw hbd => ?_
    simp (maxSteps := 1000000) (disch := (first | omega | (simp only [nx_alloc, nx_upd, len_cons, len_nil, List.length_set, List.length_map, List.length_append] <;> omega) | fail)) only [go_sem, Try.ntmps103, Try.results103]
    refine (ext_cmp Try.func105 (by kernel_rfl) (by kernel_rfl) (by kernel_rfl) (by kernel_rfl) a b).mono ?_
    rintro e A' ⟨rfl, rfl⟩
    simp (maxSteps := 1000000) (disch := (first | omega | (simp only [nx_alloc, nx_upd, len_cons, len_nil, List.length_set, List.length_map, List.length_append] <;> omega) | fail)) only [go_sem, Try.results103]
    exact gc_fin' hw (Over.refl _) rfl (.int _ _)
  simp (maxSteps := 1000000) (disch := (first | omega | (simp only [nx_alloc, nx_upd, len_cons, len_nil, List.length_set, List.length_map, List.length_append] <;> omega) | fail)) only [go_sem, Try.ntmps94, Try.results94]
  refine call1 h30 ?_
  simp (maxSteps := 1000000) (disch := (first | omega | (simp only [nx_alloc, nx_upd, len_cons, len_nil, List.length_set, List.length_map, List.length_append] <;> omega) | fail)) only [go_sem, Try.results94]
  exact gc_fin' hw (Over.refl _) rfl (.int _ _)
/-- A file that may not be. -/
def longB (f : FileT) : Bool := decide (f.1.size = 0) || decide (20 < f.1.size) || decide (300 < f.2.size)
theorem long_ok (w0 : World) (A : St) (n d : ByteArray) : ACalls Try.prog w0 92 #[.agg #[.string n, .string d]] A (fin (.bool (longB (n, d))) A) := by
  refine call_E Try.enters92 Try.func92 rfl (Nat.le_of_ble_eq_true rfl) fun hw hbd => ?_
  by_cases a1 : n.size = 0
  · simp (maxSteps := 1000000) (disch := (first | omega | (simp only [nx_alloc, nx_upd, len_cons, len_nil, List.length_set, List.length_map, List.length_append] <;> omega) | fail)) only [go_sem, Try.ntmps92, Try.results92, beq_emptyS]
    exact gc_fin' hw ((Over.refl _).alloc _) (by simp [longB, a1]) (.bool _)
  by_cases a2 : 20 < n.size
  · have a2' : (n.size : Int) > 20 := by omega
    simp (maxSteps := 1000000) (disch := (first | omega | (simp only [nx_alloc, nx_upd, len_cons, len_nil, List.length_set, List.length_map, List.length_append] <;> omega) | fail)) only [go_sem, Try.ntmps92, Try.results92, beq_emptyS, a1]
    exact gc_fin' hw ((Over.refl _).alloc _) (by simp [longB, a2]) (.bool _)
  have a2' : ¬ (n.size : Int) > 20 := by omega
  simp (maxSteps := 1000000) (disch := (first | omega | (simp only [nx_alloc, nx_upd, len_cons, len_nil, List.length_set, List.length_map, List.length_append] <;> omega) | fail)) only [go_sem, Try.ntmps92, Try.results92, beq_emptyS, a1]
  refine gc_fin' hw ((Over.refl _).alloc _) ?_ (.bool _)
  refine congrArg Value.bool ?_
  rw [Bool.eq_iff_iff]
  simp [longB, a1, a2]
  omega
set_option maxHeartbeats 2000000 in
theorem index_ok (w0 : World) (A : St) (l : List FileT) (v : Value) (hv : FlView A l v) (hl : l.length ≤ 1073741824) : ACalls Try.prog w0 102 #[v, .func (.func 92) #[] #[]] A fun e A' => ∃ r : Int, e = .returned (.int .i64 r) ∧ A' = A ∧ ((0 ≤ r) ↔ l.any longB = true) := by
  refine call_E Try.enters102 Try.func102 rfl (Nat.le_of_ble_eq_true rfl) fun hw hbd => ?_
  have hlen := View.lenU (e := 115) hv
  simp (maxSteps := 1000000) (disch := (first | omega | (simp only [nx_alloc, nx_upd, len_cons, len_nil, List.length_set, List.length_map, List.length_append] <;> omega) | fail)) only [go_sem, Try.ntmps102, Try.results102, hlen]
  refine aw_loop (fun k x A' => ∃ (ρ : Nat → Value) (i : Nat), x = E 19 ρ [] ∧ A' = A ∧ k = l.length - i ∧ i ≤ l.length ∧ (l.take i).any longB = false ∧
      ρ 0 = v ∧ ρ 1 = .func (.func 92) #[] #[] ∧ ρ 7 = .int .i64 l.length ∧ ρ 8 = .int .i64 i) l.length
    ⟨_, 0, rfl, rfl, rfl, Nat.zero_le _, rfl, rfl, rfl, rfl, rfl⟩ ?_
  rintro k x A' ⟨ρ, i, rfl, rfl, hk, hi, hno, g0, g1, g7, g8⟩
  refine aw_of ?_
  by_cases hend : i = l.length
  · have e1 : ¬ ((i : Int) < l.length) := by omega
    rw [hend, List.take_length] at hno
    simp (maxSteps := 1000000) (disch := (first | omega | (simp only [nx_alloc, nx_upd, len_cons, len_nil, List.length_set, List.length_map, List.length_append] <;> omega) | fail)) only [go_sem, g0, g1, g7, g8, Try.results102]
    exact gc_here ⟨-1, rfl, rfl, by rw [hno]; simp⟩
  have e1 : ((i : Int) < l.length) := by omega
  obtain ⟨⟨nm, dt⟩, ht⟩ : ∃ t, l[i]? = some t := ⟨l[i]'(by omega), List.getElem?_eq_getElem (by omega)⟩
  obtain ⟨pb, po, cells, e', m, hb1, hb2, hb3, hb4, hb5, hb6⟩ := View.en (P := Try.prog) (e := 115) hv flC_len Try.sz115 ht
  simp only [flC] at hb5
  simp (maxSteps := 1000000) (disch := (first | omega | (simp only [nx_alloc, nx_upd, len_cons, len_nil, List.length_set, List.length_map, List.length_append] <;> omega) | fail)) only [go_sem, g0, g1, g7, g8, hb3, hb4, hb5]
  refine call1 (long_ok w0 A' nm dt) ?_
  cases hlo : longB (nm, dt)
  · simp (maxSteps := 1000000) (disch := (first | omega | (simp only [nx_alloc, nx_upd, len_cons, len_nil, List.length_set, List.length_map, List.length_append] <;> omega) | fail)) only [go_sem, g8]
    refine ⟨k - 1, by omega, _, i + 1, rfl, by omega, by omega, ?_, ?_, ?_, ?_, ?_⟩
    · rw [List.take_add_one, ht, List.any_append, hno]; simp [hlo]
    · simp (maxSteps := 1000000) (disch := (first | omega | (simp only [nx_alloc, nx_upd, len_cons, len_nil, List.length_set, List.length_map, List.length_append] <;> omega) | fail)) only [go_sem, g0]
    · simp (maxSteps := 1000000) (disch := (first | omega | (simp only [nx_alloc, nx_upd, len_cons, len_nil, List.length_set, List.length_map, List.length_append] <;> omega) | fail)) only [go_sem, g1]
    · simp (maxSteps := 1000000) (disch := (first | omega | (simp only [nx_alloc, nx_upd, len_cons, len_nil, List.length_set, List.length_map, List.length_append] <;> omega) | fail)) only [go_sem, g7]
    · simp (maxSteps := 1000000) (disch := (first | omega | (simp only [nx_alloc, nx_upd, len_cons, len_nil, List.length_set, List.length_map, List.length_append] <;> omega) | fail)) only [go_sem]
      rfl
  · simp (maxSteps := 1000000) (disch := (first | omega | (simp only [nx_alloc, nx_upd, len_cons, len_nil, List.length_set, List.length_map, List.length_append] <;> omega) | fail)) only [go_sem, g8, Try.results102]
    refine gc_here ⟨i, rfl, rfl, ?_⟩
    have : l.any longB = true := List.any_eq_true.2 ⟨_, List.mem_of_getElem? ht, hlo⟩
    rw [this]; simp
theorem contains_ok (w0 : World) (A : St) (l : List FileT) (v : Value) (hv : FlView A l v) (hl : l.length ≤ 1073741824) : ACalls Try.prog w0 93 #[v, .func (.func 92) #[] #[]] A (fin (.bool (l.any longB)) A) := by
  refine call_E Try.enters93 Try.func93 rfl (Nat.le_of_ble_eq_true rfl) fun hw hbd => ?_
  simp (maxSteps := 1000000) (disch := (first | omega | (simp only [nx_alloc, nx_upd, len_cons, len_nil, List.length_set, List.length_map, List.length_append] <;> omega) | fail)) only [go_sem, Try.ntmps93, Try.results93]
  refine (index_ok w0 A l v hv hl).mono ?_
  rintro e A' ⟨r, rfl, rfl, hr⟩
  simp (maxSteps := 1000000) (disch := (first | omega | (simp only [nx_alloc, nx_upd, len_cons, len_nil, List.length_set, List.length_map, List.length_append] <;> omega) | fail)) only [go_sem, Try.results93]
  refine gc_fin' hw (Over.refl _) (congrArg Value.bool ?_) (.bool _)
  rw [Bool.eq_iff_iff, decide_eq_true_iff]; exact hr
def nmA (l : List FileT) (j : Nat) : ByteArray := (l.getD j (ByteArray.empty, ByteArray.empty)).1
def upL (l : List FileT) : Bool := (List.range l.length).all fun j => decide (j = 0) || lessS (nmA l (j - 1)) (nmA l j)
theorem upL_iff (l : List FileT) : upL l = true ↔ ∀ j, 0 < j → j < l.length → lessS (nmA l (j - 1)) (nmA l j) = true := by
  unfold upL
  rw [List.all_eq_true]
  constructor
  · intro h j h0 hj
    have := h j (List.mem_range.2 hj)
    simpa [show j ≠ 0 by omega] using this
  · intro h j hj
    by_cases h0 : j = 0
    · simp [h0]
    · simp [h0, h j (by omega) (List.mem_range.1 hj)]
/-- What may not be of files. -/
def chkE (l : List FileT) : Int := if 12 < l.length ∨ l.any longB = true then 111 else if upL l = true then 0 else 110
theorem nmA_at {l : List FileT} {i : Nat} {f : FileT} (h : l[i]? = some f) : nmA l i = f.1 := by unfold nmA; rw [List.getD_eq_getElem?_getD, h]; rfl
set_option maxHeartbeats 4000000 in
theorem Check_ok (w0 : World) (A : St) (l : List FileT) (v : Value) (hv : FlView A l v) (hl : l.length ≤ 1073741824) : ACalls Try.prog w0 78 #[v] A (fin (.int .i64 (chkE l)) A) := by
  refine call_E Try.enters78 Try.func78 rfl (Nat.le_of_ble_eq_true rfl) fun hw hbd => ?_
  have hlen := View.lenU (e := 115) hv
  by_cases h12 : 12 < l.length
  · have h12' : ((l.length : Int) > 12) := by omega
    simp (maxSteps := 1000000) (disch := (first | omega | (simp only [nx_alloc, nx_upd, len_cons, len_nil, List.length_set, List.length_map, List.length_append] <;> omega) | fail)) only [go_sem, Try.ntmps78, Try.results78, hlen]
    exact gc_fin' hw (Over.refl _) (by unfold chkE; rw [if_pos (.inl h12)]) (.int _ _)
  have h12' : ¬ ((l.length : Int) > 12) := by omega
  simp (maxSteps := 1000000) (disch := (first | omega | (simp only [nx_alloc, nx_upd, len_cons, len_nil, List.length_set, List.length_map, List.length_append] <;> omega) | fail)) only [go_sem, Try.ntmps78, Try.results78, hlen]
  refine call1 (contains_ok w0 A l v hv hl) ?_
  cases hany : l.any longB
  rotate_left
  · simp (maxSteps := 1000000) (disch := (first | omega | (simp only [nx_alloc, nx_upd, len_cons, len_nil, List.length_set, List.length_map, List.length_append] <;> omega) | fail)) only [go_sem, Try.results78]
    exact gc_fin' hw (Over.refl _) (by unfold chkE; rw [if_pos (.inr hany)]) (.int _ _)
  have hchk : chkE l = if upL l = true then 0 else 110 := by unfold chkE; rw [if_neg (by rw [hany]; simp; omega)]
  rw [hchk]
  simp (maxSteps := 1000000) (disch := (first | omega | (simp only [nx_alloc, nx_upd, len_cons, len_nil, List.length_set, List.length_map, List.length_append] <;> omega) | fail)) only [go_sem, hlen]
  refine aw_loop (fun k x A' => ∃ (ρ : Nat → Value) (i : Nat), x = E 36 ρ [] ∧ A' = A ∧ k = l.length - i ∧ i ≤ l.length ∧ (∀ j, 0 < j → j < i → lessS (nmA l (j - 1)) (nmA l j) = true) ∧
      ρ 0 = v ∧ ρ 14 = .int .i64 l.length ∧ ρ 15 = .int .i64 i) l.length
    ⟨_, 0, rfl, rfl, rfl, Nat.zero_le _, fun j h1 h2 => absurd h2 (by omega), rfl, rfl, rfl⟩ ?_
  rintro k x A' ⟨ρ, i, rfl, rfl, hk, hi, hup, g0, g14, g15⟩
  refine aw_of ?_
  by_cases hend : i = l.length
  · have e1 : ¬ ((i : Int) < l.length) := by omega
    rw [hend] at hup
    simp (maxSteps := 1000000) (disch := (first | omega | (simp only [nx_alloc, nx_upd, len_cons, len_nil, List.length_set, List.length_map, List.length_append] <;> omega) | fail)) only [go_sem, g0, g14, g15, Try.results78]
    exact gc_fin' hw (Over.refl _) (by rw [if_pos ((upL_iff l).2 hup)]) (.int _ _)
  have e1 : ((i : Int) < l.length) := by omega
  by_cases hi0 : i = 0
  · subst hi0
    simp (maxSteps := 1000000) (disch := (first | omega | (simp only [nx_alloc, nx_upd, len_cons, len_nil, List.length_set, List.length_map, List.length_append] <;> omega) | fail)) only [go_sem, g0, g14, g15]
    refine aw_draw (by kernel_rfl) ?_
    simp (maxSteps := 1000000) (disch := (first | omega | (simp only [nx_alloc, nx_upd, len_cons, len_nil, List.length_set, List.length_map, List.length_append] <;> omega) | fail)) only [go_sem, g0, g14, g15]
    refine ⟨k - 1, by omega, _, 1, rfl, by omega, by omega, fun j h1 h2 => absurd h2 (by omega), ?_, ?_, ?_⟩
    · simp (maxSteps := 1000000) (disch := (first | omega | (simp only [nx_alloc, nx_upd, len_cons, len_nil, List.length_set, List.length_map, List.length_append] <;> omega) | fail)) only [go_sem, g0]
    · simp (maxSteps := 1000000) (disch := (first | omega | (simp only [nx_alloc, nx_upd, len_cons, len_nil, List.length_set, List.length_map, List.length_append] <;> omega) | fail)) only [go_sem, g14]
    · simp (maxSteps := 1000000) (disch := (first | omega | (simp only [nx_alloc, nx_upd, len_cons, len_nil, List.length_set, List.length_map, List.length_append] <;> omega) | fail)) only [go_sem]
      rfl
  have hi1 : (i : Int) > 0 := by omega
  have hsub : (i : Int) - 1 = ((i - 1 : Nat) : Int) := by omega
  obtain ⟨⟨nm, dt⟩, ht⟩ : ∃ t, l[i]? = some t := ⟨l[i]'(by omega), List.getElem?_eq_getElem (by omega)⟩
  obtain ⟨⟨nm1, dt1⟩, ht1⟩ : ∃ t, l[i - 1]? = some t := ⟨l[i - 1]'(by omega), List.getElem?_eq_getElem (by omega)⟩
  obtain ⟨pb, po, cells, e', m, hb1, hb2, hb3, hb4, hb5, hb6⟩ := View.en (P := Try.prog) (e := 115) hv flC_len Try.sz115 ht
  obtain ⟨pb1, po1, cells1, e1', m1, hc1, hc2, hc3, hc4, hc5, hc6⟩ := View.en (P := Try.prog) (e := 115) hv flC_len Try.sz115 ht1
  have hb60 := hb6 0 _ rfl
  have hc60 := hc6 0 _ rfl
  rw [Nat.add_zero] at hb60 hc60
  obtain rfl : pb = pb1 := Option.some.inj (hb2.symm.trans hc2)
  rw [hb4] at hc4
  obtain ⟨rfl, _⟩ := Blk.cells.inj (Option.some.inj hc4)
  simp (maxSteps := 1000000) (disch := (first | omega | (simp only [nx_alloc, nx_upd, len_cons, len_nil, List.length_set, List.length_map, List.length_append] <;> omega) | fail)) only [go_sem, g0, g14, g15]
  refine aw_draw (by kernel_rfl) ?_
  simp (maxSteps := 1000000) (disch := (first | omega | (simp only [nx_alloc, nx_upd, len_cons, len_nil, List.length_set, List.length_map, List.length_append] <;> omega) | fail)) only [go_sem, g0, g14, g15, hsub, hb3, hb4, hc3, hb60, hc60]
  refine ⟨.int .i64 (cmpS nm1 nm), compare_ok w0 A' nm1 nm, ?_⟩
  have hn0 := nmA_at ht
  have hn1 := nmA_at ht1
  by_cases hcmp : 0 ≤ cmpS nm1 nm
  · simp (maxSteps := 1000000) (disch := (first | omega | (simp only [nx_alloc, nx_upd, len_cons, len_nil, List.length_set, List.length_map, List.length_append] <;> omega) | fail)) only [go_sem, g15, Try.results78]
    refine gc_fin' hw (Over.refl _) ?_ (.int _ _)
    rw [if_neg]
    intro h
    have := (upL_iff l).1 h i (by omega) (by omega)
    rw [hn0, hn1, (cmpS_geq _ _).1 hcmp] at this
    cases this
  · simp (maxSteps := 1000000) (disch := (first | omega | (simp only [nx_alloc, nx_upd, len_cons, len_nil, List.length_set, List.length_map, List.length_append] <;> omega) | fail)) only [go_sem, g15]
    refine ⟨k - 1, by omega, _, i + 1, rfl, by omega, by omega, fun j h1 h2 => ?_, ?_, ?_, ?_⟩
    · by_cases hj : j = i
      · subst hj
        rw [hn0, hn1]
        cases hb : lessS nm1 nm with
        | true => rfl
        | false => exact absurd ((cmpS_geq _ _).2 hb) hcmp
      · exact hup j h1 (by omega)
    · simp (maxSteps := 1000000) (disch := (first | omega | (simp only [nx_alloc, nx_upd, len_cons, len_nil, List.length_set, List.length_map, List.length_append] <;> omega) | fail)) only [go_sem, g0]
    · simp (maxSteps := 1000000) (disch := (first | omega | (simp only [nx_alloc, nx_upd, len_cons, len_nil, List.length_set, List.length_map, List.length_append] <;> omega) | fail)) only [go_sem, g14]
    · simp (maxSteps := 1000000) (disch := (first | omega | (simp only [nx_alloc, nx_upd, len_cons, len_nil, List.length_set, List.length_map, List.length_append] <;> omega) | fail)) only [go_sem]
      rfl
end Go.Fw
