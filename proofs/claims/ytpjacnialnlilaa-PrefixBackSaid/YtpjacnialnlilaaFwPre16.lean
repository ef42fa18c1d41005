import Derived.Test.YtpjacnialnlilaaFwPre15
set_option linter.unusedSimpArgs false
set_option linter.unusedVariables false
set_option maxRecDepth 4000
namespace Go.Fw
open Go.Proofs Go.RowKit
/-! Lengths: what it answers. -/
theorem Try.enters25 : Enters Try.prog 25 := enters_of Try.func25 rfl (by kernel_rfl)
theorem Try.enters27 : Enters Try.prog 27 := enters_of Try.func27 rfl (by kernel_rfl)
theorem Try.enters11 : Enters Try.prog 11 := enters_of Try.func11 rfl (by kernel_rfl)
theorem row_block {A' : St} {lo : Nat} {o : List Int} {ov : Value} (h : Row A' 3 1 lo (o.map (Value.int .i64 ·)) o.length ov) (hn : 0 < o.length) : ∃ ob sp, ov = .slice (some ⟨ob, 0, sp⟩) o.length o.length ∧ lo ≤ ob ∧ ob < A'.next ∧ A'.get ob = intB o ∧ (∀ i : Nat, i < o.length → indexAddrU Try.prog (some (.slice 3)) ov (.int .i64 i) = some (.pointer (some ⟨ob, i, none⟩))) ∧
    ∀ (B : St) (o' : List Int), o'.length = o.length → ob < B.next → B.get ob = intB o' → Row B 3 1 lo (o'.map (Value.int .i64 ·)) o'.length ov := by
  rcases h.2 with ⟨h0, _⟩ | ⟨ob, sp, rfl, h1, h2, h3, h4⟩
  · omega
  · refine ⟨ob, sp, rfl, h2, h3, h4, fun i hi => ?_, fun B o' ho' hb hg => ⟨by rw [List.length_map, Nat.mul_one], .inr ⟨ob, sp, by rw [ho'], h1, h2, hb, hg⟩⟩⟩
    refine (indexAddr_slice Try.prog .i64 3 ob 0 sp o.length o.length i (by omega) (by omega)).trans ?_
    rw [Try.sz3]; simp
theorem InRow.map {A : St} {lo : Nat} {l : List Int} {v : Value} (h : InRow A lo l v) : Row A 3 1 lo (l.map (Value.int .i64 ·)) l.length v := by unfold InRow at h; rwa [flat_i64] at h
theorem InRow.of {A : St} {lo : Nat} {l : List Int} {v : Value} (h : Row A 3 1 lo (l.map (Value.int .i64 ·)) l.length v) : InRow A lo l v := by unfold InRow; rwa [flat_i64]
theorem int_cells (l : List Int) : (l.map (Value.int .i64 ·)).all cell1 = true := by rw [List.all_map, List.all_eq_true]; intro x _; rfl
set_option maxHeartbeats 1000000 in
theorem clone_ok (w0 : World) (A : St) (f : List Int) (v : Value) (hv : InView A f v) (hn : f.length ≤ 1000) : ACalls Try.prog w0 25 #[v] A (RowPost A f) := by
  refine call_E (l := [v]) Try.enters25 Try.func25 rfl (Nat.le_of_ble_eq_true rfl) fun hw hbd => ?_
  obtain ⟨ad, c, rfl⟩ : ∃ ad c, v = .slice ad f.length c := by
    rcases hv.2 with ⟨h0, ad, c, rfl⟩ | ⟨b, off, sp, c, cells, e, m, rfl, _⟩
    · exact ⟨ad, c, by rw [h0]⟩
    · exact ⟨_, c, rfl⟩
  cases ad with
  | none =>
    have hf0 : f = [] := by
      rcases hv.2 with ⟨h0, _⟩ | ⟨b, off, sp, c, cells, e, m, h, _⟩
      · exact List.eq_nil_of_length_eq_zero h0
      · cases h
    subst hf0
    simp (maxSteps := 1000000) (disch := (first | omega | (simp only [nx_alloc, nx_upd, len_cons, len_nil, List.length_set, List.length_map, List.length_append] <;> omega) | fail)) only [go_sem, Try.ntmps25, Try.results25]
    exact gc_here ⟨_, rfl, Over.refl _, Row.nil ..⟩
  | some ad =>
    have o1 : Over A (A.alloc (.cells [] 3 (some 0))) := (Over.refl A).alloc _
    have hv1 : InView (A.alloc (.cells [] 3 (some 0))) f (.slice (some ad) f.length c) := View.over hv o1
    unfold InView at hv1
    rw [flat_i64] at hv1
    obtain ⟨v', A2, h1, h2, h3, h4, h5, h6⟩ := row_src (A := A.alloc (.cells [] 3 (some 0))) (lo := A.next) (x := .slice (some ad) f.length c) (m := f.length) (new := f.map (Value.int .i64 ·)) (v := .slice (some ⟨A.next, 0, none⟩) 0 0) (cs := []) (len := 0) Try.el22 Try.underlying22 (by intro k; exact TypeDesc.noConfusion) Try.sz3 Try.byt3 Try.zero3 rfl ⟨rfl, .inr ⟨A.next, none, rfl, .inl rfl, Nat.le_refl _, by rw [nx_alloc]; omega, get_alloc_same ..⟩⟩ (by rw [nx_alloc]; omega) (View.src hv1) (by simp) (by omega) (by omega) (int_cells f)
    simp (maxSteps := 1000000) (disch := (first | omega | (simp only [nx_alloc, nx_upd, len_cons, len_nil, List.length_set, List.length_map, List.length_append] <;> omega) | fail)) only [go_sem, Try.ntmps25, Try.results25, h1]
    refine gc_here ⟨v', rfl, ⟨by rw [nx_alloc] at h3; omega, fun b hb => ?_⟩, InRow.of (by rw [List.nil_append, Nat.zero_add f.length] at h2; exact h2)⟩
    rw [h4 b (by rw [nx_alloc]; omega) (by intro e; cases e; omega)]; exact get_alloc_old hb
theorem okL_snoc (l : List Int) (x lim : Int) : okL (l ++ [x]) lim = (okL l lim && decide (x ≤ lim)) := by unfold okL; rw [List.all_append]; simp
set_option maxHeartbeats 2000000 in
theorem max_ok (w0 : World) (A : St) (l : List Int) (v : Value) (hv : InView A l v) (h0 : l ≠ []) (hn : l.length ≤ 1000000) : ACalls Try.prog w0 27 #[v] A fun e A' => ∃ m : Int, e = .returned (.int .i64 m) ∧ A' = A ∧ ∀ lim, m ≤ lim ↔ okL l lim = true := by
  refine call_E (l := [v]) Try.enters27 Try.func27 rfl (Nat.le_of_ble_eq_true rfl) fun hw hbd => ?_
  have hlen : ∀ X, lenU X (some (.slice 3)) v = some (.int .i64 l.length, X) := View.lenX hv
  have hl0 : 0 < l.length := List.length_pos_iff.2 h0
  have e0 : ¬ ((l.length : Nat) : Int) < 1 := by omega
  obtain ⟨y, hy⟩ : ∃ y, l[0]? = some y := ⟨_, List.getElem?_eq_getElem hl0⟩
  obtain ⟨pb, po, hb1, hb2, hb3, cells, e', md, hb4, hb5⟩ := View.at1 (P := Try.prog) (e := 3) hv Try.sz3 (i64E_at _ 0 y hy)
  have hb3' : indexAddrU Try.prog (some (.slice 3)) v (.int .i64 0) = _ := hb3 .i64
  simp (maxSteps := 1000000) (disch := (first | omega | (simp only [nx_alloc, nx_upd, len_cons, len_nil, List.length_set, List.length_map, List.length_append] <;> omega) | fail)) only [go_sem, Try.ntmps27, Try.results27, hlen, e0, hb3', hb4, hb5]
  refine aw_loop (fun k x A' => ∃ (ρ : Nat → Value) (i : Nat) (m : Int), x = E 25 ρ [] ∧ A' = A ∧ k = l.length - i ∧ i ≤ l.length ∧ (∀ lim, m ≤ lim ↔ okL (l.take i) lim = true) ∧ ρ 0 = v ∧ ρ 3 = .int .i64 m ∧ ρ 4 = .int .i64 i) (l.length - 1)
    ⟨_, 1, y, rfl, rfl, by omega, by omega, fun lim => ?_, rfl, rfl, rfl⟩ ?_
  · have : l.take 1 = [y] := by rw [List.take_add_one, hy]; rfl
    rw [this]; simp [okL]
  clear hb1 hb2 hb3 hb3' hb4 hb5
  rintro k x A' ⟨ρ, i, m, rfl, rfl, hk, hi, hm, g0, g3, g4⟩
  refine aw_of ?_
  by_cases hend : i = l.length
  · have e1 : ¬ ((i : Int) < l.length) := by omega
    rw [hend, List.take_length] at hm
    simp (maxSteps := 1000000) (disch := (first | omega | (simp only [nx_alloc, nx_upd, len_cons, len_nil, List.length_set, List.length_map, List.length_append] <;> omega) | fail)) only [go_sem, g0, g3, g4, hlen, e1, Try.results27]
    exact gc_here ⟨m, rfl, rfl, hm⟩
  have e1 : ((i : Int) < l.length) := by omega
  obtain ⟨n, hx⟩ : ∃ x, l[i]? = some x := ⟨_, List.getElem?_eq_getElem (by omega)⟩
  obtain ⟨pb, po, hb1, hb2, hb3, cells, e', md, hb4, hb5⟩ := View.at1 (P := Try.prog) (e := 3) hv Try.sz3 (i64E_at _ i n hx)
  have htk : l.take (i + 1) = l.take i ++ [n] := by rw [List.take_add_one, hx]; rfl
  simp (maxSteps := 1000000) (disch := (first | omega | (simp only [nx_alloc, nx_upd, len_cons, len_nil, List.length_set, List.length_map, List.length_append] <;> omega) | fail)) only [go_sem, g0, g3, g4, hlen, e1, hb3, hb4, hb5]
  refine ⟨k - 1, by omega, _, i + 1, if m < n then n else m, rfl, by omega, by omega, fun lim => ?_, ?_, ?_, ?_⟩
  · rw [htk, okL_snoc, Bool.and_eq_true, ← hm lim, decide_eq_true_eq]
    split <;> omega
  · simp (maxSteps := 1000000) (disch := (first | omega | (simp only [nx_alloc, nx_upd, len_cons, len_nil, List.length_set, List.length_map, List.length_append] <;> omega) | fail)) only [go_sem, g0]
  · simp (maxSteps := 1000000) (disch := (first | omega | (simp only [nx_alloc, nx_upd, len_cons, len_nil, List.length_set, List.length_map, List.length_append] <;> omega) | fail)) only [go_sem]
  · simp (maxSteps := 1000000) (disch := (first | omega | (simp only [nx_alloc, nx_upd, len_cons, len_nil, List.length_set, List.length_map, List.length_append] <;> omega) | fail)) only [go_sem]
    rfl
def lengthsP (f : List Int) (lim : Int) : List Int × Int :=
  if 300 < f.length ∨ lim < 1 ∨ 15 < lim then ([], 1)
  else if f.any (fun x => decide (x < 0) || decide (1048576 < x)) then ([], 1)
  else if 2 ^ lim.toNat < usedN f then ([], 1)
  else (lenF 20 f lim, 0)
def LenPost (A : St) (p : List Int × Int) (e : Ending) (A' : St) : Prop := ∃ v, e = .returned (.tuple #[v, .int .i64 p.2]) ∧ Over A A' ∧ InRow A' A.next p.1 v
theorem usedN_snoc (l : List Int) (x : Int) : usedN (l ++ [x]) = usedN l + if 0 < x then 1 else 0 := by
  unfold usedN
  rw [leafs_app]
  split <;> simp
theorem usedN_le (l : List Int) : usedN l ≤ l.length := leafs_len l 0
theorem any_bad {f : List Int} {x : Int} (hx : x ∈ f) (h : x < 0 ∨ 1048576 < x) : f.any (fun x => decide (x < 0) || decide (1048576 < x)) = true := by
  rw [List.any_eq_true]
  exact ⟨x, hx, by rcases h with h | h <;> simp [h]⟩
theorem no_bad {f : List Int} (h : ∀ x ∈ f, 0 ≤ x ∧ x ≤ 1048576) : ¬ f.any (fun x => decide (x < 0) || decide (1048576 < x)) = true := by
  rw [List.any_eq_true]
  rintro ⟨x, hx, hb⟩
  have := h x hx
  simp at hb
  omega
theorem ishl_lim {L : Nat} (h : L ≤ 15) : ishl .i64 1 (L : Int) = ((2 ^ L : Nat) : Int) := by
  have : ∀ L : Fin 16, ishl .i64 1 (L.1 : Int) = ((2 ^ L.1 : Nat) : Int) := by decide
  exact this ⟨L, by omega⟩
/-- Half way through the halving. -/
def hvL (i : Nat) (g : List Int) : List Int := (g.take i).map half ++ g.drop i
theorem hvL_len (i : Nat) (g : List Int) : (hvL i g).length = g.length := by
  unfold hvL; rw [List.length_append, List.length_map, ← List.length_append, List.take_append_drop]
theorem hvL_all (g : List Int) : hvL g.length g = halfL g := by unfold hvL halfL; rw [List.take_length, List.drop_length, List.append_nil]
theorem hvL_step {i : Nat} {g : List Int} {x : Int} (hx : g[i]? = some x) : (hvL i g)[i]? = some x ∧ (hvL i g).set i (half x) = hvL (i + 1) g := by
  have hi := (List.getElem?_eq_some_iff.1 hx).1
  have hd : g.drop i = x :: g.drop (i + 1) := by
    rw [List.drop_eq_getElem_cons hi]
    congr 1
    exact (List.getElem?_eq_some_iff.1 hx).2
  have hl : ((g.take i).map half).length = i := by rw [List.length_map]; exact List.length_take_of_le (by omega)
  have e1 := at_app ((g.take i).map half) x (g.drop (i + 1))
  have e2 := set_app ((g.take i).map half) x (half x) (g.drop (i + 1))
  rw [hl] at e1 e2
  unfold hvL
  rw [hd]
  refine ⟨e1, ?_⟩
  rw [e2, List.take_add_one, hx]
  show _ = List.map half (List.take i g ++ [x]) ++ _
  rw [List.map_append]; simp
set_option maxHeartbeats 8000000 in
theorem lengths_ok (w0 : World) (A : St) (f : List Int) (v : Value) (lim : Int) (hv : InView A f v) (hn : f.length ≤ 1000) :
    ACalls Try.prog w0 11 #[v, .int .i64 lim] A (LenPost A (lengthsP f lim)) := by
  refine call_E (l := [v, .int .i64 lim]) Try.enters11 Try.func11 rfl (Nat.le_of_ble_eq_true rfl) fun hw hbd => ?_
  have hlen : ∀ X, lenU X (some (.slice 3)) v = some (.int .i64 f.length, X) := View.lenX hv
  have herr : ∀ {p : List Int × Int}, p = ([], 1) → GcE A (LenPost A p) (.returned (.tuple #[.slice none 0 0, .int .i64 1])) A := by
    rintro p rfl
    exact gc_here ⟨_, rfl, Over.refl A, Row.nil ..⟩
  by_cases h1 : 300 < f.length
  · have h1' : ((f.length : Nat) : Int) > 300 := by omega
    simp (maxSteps := 1000000) (disch := (first | omega | (simp only [nx_alloc, nx_upd, len_cons, len_nil, List.length_set, List.length_map, List.length_append] <;> omega) | fail)) only [go_sem, Try.ntmps11, Try.results11, hlen, h1']
    exact herr (if_pos (.inl h1))
  have h1' : ¬ ((f.length : Nat) : Int) > 300 := by omega
  by_cases h2 : lim < 1
  · simp (maxSteps := 1000000) (disch := (first | omega | (simp only [nx_alloc, nx_upd, len_cons, len_nil, List.length_set, List.length_map, List.length_append] <;> omega) | fail)) only [go_sem, Try.ntmps11, Try.results11, hlen, h1', h2]
    exact herr (if_pos (.inr (.inl h2)))
  by_cases h3 : lim > 15
  · simp (maxSteps := 1000000) (disch := (first | omega | (simp only [nx_alloc, nx_upd, len_cons, len_nil, List.length_set, List.length_map, List.length_append] <;> omega) | fail)) only [go_sem, Try.ntmps11, Try.results11, hlen, h1', h2, h3]
    exact herr (if_pos (.inr (.inr h3)))
  have hP : lengthsP f lim = if f.any (fun x => decide (x < 0) || decide (1048576 < x)) then ([], 1) else if 2 ^ lim.toNat < usedN f then ([], 1) else (lenF 20 f lim, 0) := if_neg (by omega)
  simp (maxSteps := 1000000) (disch := (first | omega | (simp only [nx_alloc, nx_upd, len_cons, len_nil, List.length_set, List.length_map, List.length_append] <;> omega) | fail)) only [go_sem, Try.ntmps11, Try.results11, hlen, h1', h2, h3]
  refine aw_loop (fun k x A' => ∃ (ρ : Nat → Value) (i : Nat), x = E 73 ρ [] ∧ A' = A ∧ k = f.length - i ∧ i ≤ f.length ∧ (∀ x ∈ f.take i, 0 ≤ x ∧ x ≤ 1048576) ∧ ρ 0 = v ∧ ρ 1 = .int .i64 lim ∧ ρ 6 = .int .i64 (usedN (f.take i) : Nat) ∧ ρ 23 = v ∧ ρ 24 = .int .i64 f.length ∧ ρ 25 = .int .i64 i) f.length
    ⟨_, 0, rfl, rfl, rfl, Nat.zero_le _, fun x hx => (by simp at hx), rfl, rfl, rfl, rfl, rfl, rfl⟩ ?_
  rintro k x A' ⟨ρ, i, rfl, rfl, hk, hi, hok, r0, r1, r6, r23, r24, r25⟩
  refine aw_of ?_
  have hul := usedN_le (f.take i)
  have htk : (f.take i).length ≤ i := List.length_take_le ..
  by_cases hend : i = f.length
  rotate_left
  · have e1 : (i : Int) < (f.length : Int) := by omega
    obtain ⟨n, hx⟩ : ∃ x, f[i]? = some x := ⟨_, List.getElem?_eq_getElem (by omega)⟩
    obtain ⟨pb, po, hb1, hb2, hb3, cells, e', md, hb4, hb5⟩ := View.at1 (P := Try.prog) (e := 3) hv Try.sz3 (i64E_at _ i n hx)
    have hmem := List.mem_of_getElem? hx
    have htk2 : f.take (i + 1) = f.take i ++ [n] := by rw [List.take_add_one, hx]; rfl
    have hus := usedN_snoc (f.take i) n
    rw [← htk2] at hus
    by_cases b1 : n < 0
    · simp (maxSteps := 1000000) (disch := (first | omega | (simp only [nx_alloc, nx_upd, len_cons, len_nil, List.length_set, List.length_map, List.length_append] <;> omega) | fail)) only [go_sem, r0, r1, r23, r24, r25, e1, hb3, hb4, hb5, b1, Try.results11]
      exact herr (by rw [hP, if_pos (any_bad hmem (.inl b1))])
    by_cases b2 : n > 1048576
    · simp (maxSteps := 1000000) (disch := (first | omega | (simp only [nx_alloc, nx_upd, len_cons, len_nil, List.length_set, List.length_map, List.length_append] <;> omega) | fail)) only [go_sem, r0, r1, r23, r24, r25, e1, hb3, hb4, hb5, b1, b2, Try.results11]
      exact herr (by rw [hP, if_pos (any_bad hmem (.inr b2))])
    have hok2 : ∀ x ∈ f.take (i + 1), 0 ≤ x ∧ x ≤ 1048576 := fun x hx => by
      rw [htk2] at hx
      rcases List.mem_append.1 hx with hx | hx
      · exact hok x hx
      · rw [List.mem_singleton.1 hx]; omega
    simp (maxSteps := 1000000) (disch := (first | omega | (simp only [nx_alloc, nx_upd, len_cons, len_nil, List.length_set, List.length_map, List.length_append] <;> omega) | fail)) only [go_sem, r0, r1, r6, r23, r24, r25, e1, hb3, hb4, hb5, b1, b2]
    refine ⟨k - 1, by omega, _, i + 1, rfl, by omega, by omega, hok2, ?_, ?_, ?_, ?_, ?_, ?_⟩
    · simp (maxSteps := 1000000) (disch := (first | omega | (simp only [nx_alloc, nx_upd, len_cons, len_nil, List.length_set, List.length_map, List.length_append] <;> omega) | fail)) only [go_sem, r0]
    · simp (maxSteps := 1000000) (disch := (first | omega | (simp only [nx_alloc, nx_upd, len_cons, len_nil, List.length_set, List.length_map, List.length_append] <;> omega) | fail)) only [go_sem, r1]
    · simp (maxSteps := 1000000) (disch := (first | omega | (simp only [nx_alloc, nx_upd, len_cons, len_nil, List.length_set, List.length_map, List.length_append] <;> omega) | fail)) only [go_sem]
      rw [hus]
      congr 1
      split <;> split <;> omega
    · simp (maxSteps := 1000000) (disch := (first | omega | (simp only [nx_alloc, nx_upd, len_cons, len_nil, List.length_set, List.length_map, List.length_append] <;> omega) | fail)) only [go_sem, r23]
    · simp (maxSteps := 1000000) (disch := (first | omega | (simp only [nx_alloc, nx_upd, len_cons, len_nil, List.length_set, List.length_map, List.length_append] <;> omega) | fail)) only [go_sem, r24]
    · simp (maxSteps := 1000000) (disch := (first | omega | (simp only [nx_alloc, nx_upd, len_cons, len_nil, List.length_set, List.length_map, List.length_append] <;> omega) | fail)) only [go_sem]
      rfl
  have e1 : ¬ ((i : Int) < (f.length : Int)) := by omega
  rw [hend, List.take_length] at hok r6 hul
  obtain ⟨L, rfl⟩ := Int.eq_ofNat_of_zero_le (show 0 ≤ lim by omega)
  have hsh := ishl_lim (L := L) (by omega)
  rw [if_neg (no_bad hok), Int.toNat_natCast] at hP
  by_cases hus : 2 ^ L < usedN f
  · have e2 : ((2 ^ L : Nat) : Int) < (usedN f : Nat) := by omega
    simp (maxSteps := 1000000) (disch := (first | omega | (simp only [nx_alloc, nx_upd, len_cons, len_nil, List.length_set, List.length_map, List.length_append] <;> omega) | fail)) only [go_sem, r0, r1, r6, r23, r24, r25, e1, hsh, e2, Try.results11]
    exact herr (by rw [hP, if_pos hus])
  rw [if_neg hus] at hP
  have e2 : ¬ (((2 ^ L : Nat) : Int) < (usedN f : Nat)) := by omega
  simp (maxSteps := 1000000) (disch := (first | omega | (simp only [nx_alloc, nx_upd, len_cons, len_nil, List.length_set, List.length_map, List.length_append] <;> omega) | fail)) only [go_sem, r0, r1, r6, r23, r24, r25, e1, hsh, e2]
  refine (clone_ok w0 A' f v hv (by omega)).mono ?_
  rintro e A1 ⟨fv, rfl, o1, rf⟩
  simp (maxSteps := 1000000) (disch := (first | omega | (simp only [nx_alloc, nx_upd, len_cons, len_nil, List.length_set, List.length_map, List.length_append] <;> omega) | fail)) only [go_sem]
  have hk0 : HOk 20 f L := ⟨fun x hx => (hok x hx).1, fun x hx => (hok x hx).2, by omega⟩
  refine aw_loop (fun k x B => ∃ (ρ : Nat → Value) (g : List Int) (fv : Value), x = E 73 ρ [] ∧ Over A' B ∧ Row B 3 1 A'.next (g.map (Value.int .i64 ·)) g.length fv ∧ g.length = f.length ∧ HOk k g L ∧ (∀ x ∈ g, x ≤ 1048576) ∧ lenF k g L = lenF 20 f L ∧ ρ 1 = .int .i64 L ∧ ρ 9 = fv) 20
    ⟨_, f, fv, rfl, o1, rf.map, rfl, hk0, fun x hx => (hok x hx).2, rfl, by first | rfl | exact r1, rfl⟩ ?_
  clear r0 r1 r6 r23 r24 r25 o1 rf hk0
  rintro k x B ⟨ρ, g, fv, rfl, ob, rg, hgl, hko, hg20, hlf, r1, r9⟩
  refine aw_of ?_
  simp (maxSteps := 1000000) (disch := (first | omega | (simp only [nx_alloc, nx_upd, len_cons, len_nil, List.length_set, List.length_map, List.length_append] <;> omega) | fail)) only [go_sem, r1, r9]
  refine (grown_ok w0 B g fv (InRow.of rg).view (fun x hx => ⟨hko.nn x hx, hg20 x hx⟩) (by omega)).mono ?_
  rintro e B1 ⟨lv, rfl, o2, rl⟩
  have hll : ∀ X, lenU X (some (.slice 3)) lv = some (.int .i64 (grownP g).length, X) := View.lenX rl.view
  rw [grownP_len] at hll
  by_cases hg0 : g.length = 0
  · have e3 : ((g.length : Nat) : Int) = 0 := by omega
    simp (maxSteps := 1000000) (disch := (first | omega | (simp only [nx_alloc, nx_upd, len_cons, len_nil, List.length_set, List.length_map, List.length_append] <;> omega) | fail)) only [go_sem, r1, hll, e3, Try.results11]
    refine gc_here ⟨lv, by rw [hP], ob.trans o2, ?_⟩
    have : grownP g = lenF 20 f L := by
      rw [List.eq_nil_of_length_eq_zero ((grownP_len g).trans hg0), List.eq_nil_of_length_eq_zero ((lenF_len 20 f L).trans (hgl.symm.trans hg0))]
    rw [hP, ← this]
    exact rl.keep (Nat.le_refl _) (fun _ _ _ _ => rfl) ob.next
  have e3 : ¬ ((g.length : Nat) : Int) = 0 := by omega
  simp (maxSteps := 1000000) (disch := (first | omega | (simp only [nx_alloc, nx_upd, len_cons, len_nil, List.length_set, List.length_map, List.length_append] <;> omega) | fail)) only [go_sem, r1, hll, e3]
  refine (max_ok w0 B1 (grownP g) lv rl.view (fun h => hg0 (by rw [← grownP_len g, h]; rfl)) (by rw [grownP_len]; omega)).mono ?_
  rintro e B2 ⟨mx, rfl, rfl, hmx⟩
  have hmL := hmx L
  by_cases hle : mx ≤ (L : Int)
  · simp (maxSteps := 1000000) (disch := (first | omega | (simp only [nx_alloc, nx_upd, len_cons, len_nil, List.length_set, List.length_map, List.length_append] <;> omega) | fail)) only [go_sem, r1, hle, Try.results11]
    refine gc_here ⟨lv, by rw [hP], ob.trans o2, ?_⟩
    have : grownP g = lenF 20 f L := by
      rw [← hlf]
      cases k with
      | zero => rfl
      | succ k => rw [lenF, if_pos (hmL.1 hle)]
    rw [hP, ← this]
    exact rl.keep (Nat.le_refl _) (fun _ _ _ _ => rfl) ob.next
  have hnk : ¬ okL (grownP g) L = true := fun h => hle (hmL.2 h)
  obtain ⟨k', rfl⟩ : ∃ k', k = k' + 1 := by
    cases k with
    | zero => exact absurd (hko.fin (by omega)) hnk
    | succ k => exact ⟨k, rfl⟩
  rw [lenF, if_neg hnk] at hlf
  have rg2 := rg.over o2
  obtain ⟨fb, sp, hfv, hb1, hb2, hb3, hb4, hb5⟩ := row_block rg2 (by omega)
  have hlv : ∀ X, lenU X (some (.slice 3)) fv = some (.int .i64 g.length, X) := View.lenX (InRow.of rg).view
  simp (maxSteps := 1000000) (disch := (first | omega | (simp only [nx_alloc, nx_upd, len_cons, len_nil, List.length_set, List.length_map, List.length_append] <;> omega) | fail)) only [go_sem, r1, r9, hle, hlv]
  refine aw_loop (fun m x C => ∃ (ρ : Nat → Value) (i : Nat), x = E 73 ρ [] ∧ m = g.length - i ∧ i ≤ g.length ∧ C = B2.upd fb (intB (hvL i g)) ∧ ρ 1 = .int .i64 L ∧ ρ 9 = fv ∧ ρ 59 = .int .i64 g.length ∧ ρ 60 = .int .i64 i) g.length
    ⟨_, 0, rfl, rfl, Nat.zero_le _, (upd_id hb3).symm, by first | rfl | exact r1, by first | rfl | exact r9, rfl, rfl⟩ ?_
  clear r1 r9
  rintro m x C ⟨ρ, i, rfl, hm, hi, hC, r1, r9, r59, r60⟩
  refine aw_of ?_
  have gC : C.get fb = intB (hvL i g) := by rw [hC]; exact get_upd_same ..
  by_cases hend2 : i = g.length
  · have e4 : ¬ ((i : Int) < (g.length : Nat)) := by omega
    rw [hend2, hvL_all] at hC gC
    simp (maxSteps := 1000000) (disch := (first | omega | (simp only [nx_alloc, nx_upd, len_cons, len_nil, List.length_set, List.length_map, List.length_append] <;> omega) | fail)) only [go_sem, r1, r9, r59, r60, e4]
    refine ⟨k', by omega, _, halfL g, fv, rfl, ?_, ?_, ?_, hko.half, ?_, hlf, ?_, ?_⟩
    · rw [hC]; exact (ob.trans o2).upd hb1 _
    · exact hb5 C (halfL g) (List.length_map _) (by rw [hC]; exact hb2) gC
    · rw [← hgl]; exact List.length_map _
    · intro x hx
      obtain ⟨y, hy, rfl⟩ := List.mem_map.1 hx
      exact Int.le_trans (half_pos (hko.nn y hy)).2.2 (hg20 y hy)
    · simp (maxSteps := 1000000) (disch := (first | omega | (simp only [nx_alloc, nx_upd, len_cons, len_nil, List.length_set, List.length_map, List.length_append] <;> omega) | fail)) only [go_sem, r1]
    · simp (maxSteps := 1000000) (disch := (first | omega | (simp only [nx_alloc, nx_upd, len_cons, len_nil, List.length_set, List.length_map, List.length_append] <;> omega) | fail)) only [go_sem, r9]
  have e4 : (i : Int) < (g.length : Nat) := by omega
  obtain ⟨n, hx⟩ : ∃ x, g[i]? = some x := ⟨_, List.getElem?_eq_getElem (by omega)⟩
  obtain ⟨s1, s2⟩ := hvL_step hx
  have hn0 := hko.nn n (List.mem_of_getElem? hx)
  have hn1 := hg20 n (List.mem_of_getElem? hx)
  have htd : (n + 1).tdiv 2 = half n := by rw [Int.tdiv_eq_ediv_of_nonneg (by omega)]; rfl
  have hix := hb4 i (by omega)
  have s1' : ((hvL i g).map (Value.int .i64 ·))[i]? = some (.int .i64 n) := by rw [List.getElem?_map, s1]; rfl
  have hst := map_set (hvL i g) i (half n)
  rw [s2] at hst
  have hvl := hvL_len i g
  unfold intB at gC
  have hhf := half_pos hn0
  have hwr : IntKind.i64.wrap (half n) = half n := wrap_small hhf.1 (by omega)
  simp (maxSteps := 1000000) (disch := (first | omega | (simp only [nx_alloc, nx_upd, len_cons, len_nil, List.length_set, List.length_map, List.length_append] <;> omega) | fail)) only [go_sem, r1, r9, r59, r60, e4, hix, gC, s1', htd, hwr, hst]
  refine ⟨m - 1, by omega, _, i + 1, rfl, by omega, by omega, ?_, ?_, ?_, ?_, ?_⟩
  · rw [hC, upd_upd]
  · simp (maxSteps := 1000000) (disch := (first | omega | (simp only [nx_alloc, nx_upd, len_cons, len_nil, List.length_set, List.length_map, List.length_append] <;> omega) | fail)) only [go_sem, r1]
  · simp (maxSteps := 1000000) (disch := (first | omega | (simp only [nx_alloc, nx_upd, len_cons, len_nil, List.length_set, List.length_map, List.length_append] <;> omega) | fail)) only [go_sem, r9]
  · simp (maxSteps := 1000000) (disch := (first | omega | (simp only [nx_alloc, nx_upd, len_cons, len_nil, List.length_set, List.length_map, List.length_append] <;> omega) | fail)) only [go_sem, r59]
  · simp (maxSteps := 1000000) (disch := (first | omega | (simp only [nx_alloc, nx_upd, len_cons, len_nil, List.length_set, List.length_map, List.length_append] <;> omega) | fail)) only [go_sem]
    rfl
end Go.Fw
