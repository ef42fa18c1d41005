import Derived.Test.YtfmbflmknjlefaaFwHeader2
set_option linter.unusedSimpArgs false
set_option linter.unusedVariables false
set_option maxRecDepth 4000
namespace Go.Fw
open Go.Proofs Go.RowKit
theorem chk_iff (l : List FileT) : chkE l = 0 ↔ l.length ≤ 12 ∧ l.any longB = false ∧ upL l = true := by
  unfold chkE
  constructor
  · intro h
    split at h
    · cases h
    · rename_i h1
      split at h
      · rename_i h2
        refine ⟨by omega, ?_, h2⟩
        cases hb : l.any longB with
        | false => rfl
        | true => exact absurd (.inr hb) h1
      · cases h
  · rintro ⟨h1, h2, h3⟩
    rw [if_neg (by rw [h2]; simp; omega), if_pos h3]
def nmN (l : List ByteArray) (j : Nat) : ByteArray := l.getD j ByteArray.empty
def szN (l : List Int) (j : Nat) : Int := l.getD j 0
theorem nmN_at {l : List ByteArray} {i : Nat} {f : ByteArray} (h : l[i]? = some f) : nmN l i = f := by unfold nmN; rw [List.getD_eq_getElem?_getD, h]; rfl
theorem szN_at {l : List Int} {i : Nat} {f : Int} (h : l[i]? = some f) : szN l i = f := by unfold szN; rw [List.getD_eq_getElem?_getD, h]; rfl
theorem nmA_files (l : List ByteArray) (j : Nat) : nmA (filesOf l) j = nmN l j := by
  unfold nmA filesOf nmN
  rw [List.getD_eq_getElem?_getD, List.getD_eq_getElem?_getD, List.getElem?_map]
  cases l[j]? <;> rfl
/-- What is right at a name's place. -/
def okAt (N : List ByteArray) (S : List Int) (j : Nat) : Prop := (nmN N j).size ≠ 0 ∧ (nmN N j).size ≤ 20 ∧ 0 ≤ szN S j ∧ szN S j ≤ 300 ∧ (0 < j → lessS (nmN N (j - 1)) (nmN N j) = true)
theorem any_longB (l : List ByteArray) : (filesOf l).any longB = false ↔ ∀ j, j < l.length → (nmN l j).size ≠ 0 ∧ (nmN l j).size ≤ 20 := by
  rw [List.any_eq_false]
  constructor
  · intro h j hj
    have hm : (l[j], ByteArray.empty) ∈ filesOf l := List.mem_map.2 ⟨_, List.getElem_mem hj, rfl⟩
    have := h _ hm
    rw [nmN_at (List.getElem?_eq_getElem hj)]
    simp only [longB, Bool.or_eq_true, decide_eq_true_eq, not_or] at this
    omega
  · intro h f hf
    obtain ⟨n, hn, rfl⟩ := List.mem_map.1 hf
    obtain ⟨j, hj, rfl⟩ := List.getElem_of_mem hn
    have := h j hj
    rw [nmN_at (List.getElem?_eq_getElem hj)] at this
    simp only [longB, Bool.or_eq_true, decide_eq_true_eq, not_or]
    exact ⟨⟨this.1, by omega⟩, by decide⟩
theorem any_wrongB (l : List Int) : l.any wrongB = false ↔ ∀ j, j < l.length → 0 ≤ szN l j ∧ szN l j ≤ 300 := by
  rw [List.any_eq_false]
  constructor
  · intro h j hj
    have := h _ (List.getElem_mem hj)
    rw [szN_at (List.getElem?_eq_getElem hj)]
    simp [wrongB] at this
    omega
  · intro h f hf
    obtain ⟨j, hj, rfl⟩ := List.getElem_of_mem hf
    have := h j hj
    rw [szN_at (List.getElem?_eq_getElem hj)] at this
    simp [wrongB]
    omega
theorem may_iff (V : VerT) : mayB V = true ↔ V.names.length ≤ 12 ∧ V.names.length = V.sizes.length ∧ V.blocks.length = blocksN V.sizes ∧ ∀ j, j < V.names.length → okAt V.names V.sizes j := by
  obtain ⟨id, B, N, S⟩ := V
  unfold mayB
  simp only [Bool.and_eq_true, decide_eq_true_eq, Bool.not_eq_true', chk_iff, any_longB, any_wrongB, upL_iff, filesOf_len, nmA_files]
  constructor
  · rintro ⟨⟨⟨h1, h2⟩, h3, h4, h5⟩, h6⟩
    exact ⟨h3, h1, h2, fun j hj => ⟨(h4 j hj).1, (h4 j hj).2, (h6 j (by omega)).1, (h6 j (by omega)).2, fun h0 => h5 j h0 hj⟩⟩
  · rintro ⟨h1, h2, h3, h4⟩
    exact ⟨⟨⟨h2, h3⟩, h1, fun j hj => ⟨(h4 j hj).1, (h4 j hj).2.1⟩, fun j h0 hj => (h4 j hj).2.2.2.2 h0⟩, fun j hj => ⟨(h4 j (by omega)).2.2.1, (h4 j (by omega)).2.2.2.1⟩⟩
theorem may_no {V : VerT} (h : ¬ (V.names.length ≤ 12 ∧ V.names.length = V.sizes.length ∧ V.blocks.length = blocksN V.sizes ∧ ∀ j, j < V.names.length → okAt V.names V.sizes j)) : mayB V = false := by
  cases hb : mayB V with
  | false => rfl
  | true => exact absurd ((may_iff V).1 hb) h
set_option maxHeartbeats 8000000 in
theorem rmay_ok (w0 : World) (A : St) (V : VerT) (v : Value) (hv : VerV A V v) (hs : V.small) : ACalls Try.prog w0 29 #[v] A (fin (.bool (mayB V)) A) := by
  obtain ⟨b, n, s, rfl, vb, vn, vs⟩ := hv
  obtain ⟨hs1, hs2, hs3⟩ := hs
  obtain ⟨ab, cb, rfl⟩ := View.sl0 vb
  obtain ⟨an, cn, rfl⟩ := View.sl0 vn
  obtain ⟨az, cs, rfl⟩ := View.sl0 vs
  refine call_E Try.enters29 Try.func29 rfl (Nat.le_of_ble_eq_true rfl) fun hw hbd => ?_
  have hmi := may_iff V
  have hmn := @may_no V
  obtain ⟨id, B, N, S⟩ := V
  simp only at vb vn vs hs1 hs2 hs3 hmi hmn ⊢
  obtain ⟨A1, hA1⟩ : ∃ A1, A1 = A.alloc (.cells [.int .u32 id, .slice ab B.length cb, .slice an N.length cn, .slice az S.length cs] 27 (some 0)) := ⟨_, rfl⟩
  have ov1 : Over A A1 := hA1 ▸ (Over.refl A).alloc _
  have hn1 : A1.next = A.next + 1 := by rw [hA1]; rfl
  have hbx : A1.get A.next = some (.cells [.int .u32 id, .slice ab B.length cb, .slice an N.length cn, .slice az S.length cs] 27 (some 0)) := by rw [hA1]; exact get_alloc_same ..
  have vb1 : HsView A1 B _ := View.over vb ov1
  have vn1 : StView A1 N _ := View.over vn ov1
  have vs1 : InView A1 S _ := View.over vs ov1
  have lb := View.lenU (e := 43) vb1
  have ln := View.lenU (e := 9) vn1
  have ls := View.lenU (e := 3) vs1
  by_cases h12 : N.length > 12
  · have h12' : (N.length : Int) > 12 := by omega
    simp (maxSteps := 1000000) (disch := (first | omega | (simp only [nx_alloc, nx_upd, len_cons, len_nil, List.length_set, List.length_map, List.length_append] <;> omega) | fail)) only [go_sem, Try.ntmps29, Try.results29]
    rw [← hA1]
    exact gc_fin' hw ov1 (by rw [hmn (by omega)]) (.bool _)
  have h12' : ¬ (N.length : Int) > 12 := by omega
  by_cases hne : N.length = S.length
  rotate_left
  · have hne' : ¬ ((N.length : Int) = S.length) := by omega
    simp (maxSteps := 1000000) (disch := (first | omega | (simp only [nx_alloc, nx_upd, len_cons, len_nil, List.length_set, List.length_map, List.length_append] <;> omega) | fail)) only [go_sem, Try.ntmps29, Try.results29]
    rw [← hA1]
    exact gc_fin' hw ov1 (by rw [hmn (by omega)]) (.bool _)
  have hne' : ((N.length : Int) = S.length) := by omega
  simp (maxSteps := 1000000) (disch := (first | omega | (simp only [nx_alloc, nx_upd, len_cons, len_nil, List.length_set, List.length_map, List.length_append] <;> omega) | fail)) only [go_sem, Try.ntmps29, Try.results29]
  rw [← hA1]
  refine aw_loop (fun k x A' => ∃ (ρ : Nat → Value) (i : Nat), x = E 80 ρ [] ∧ A' = A1 ∧ k = N.length - i ∧ i ≤ N.length ∧ (∀ j, j < i → okAt N S j) ∧
      ρ 1 = .pointer (some ⟨A.next, 0, none⟩) ∧ ρ 3 = .int .i64 i) N.length
    ⟨_, 0, rfl, rfl, rfl, Nat.zero_le _, fun j h => absurd h (by omega), rfl, rfl⟩ ?_
  rintro k x A' ⟨ρ, i, rfl, rfl, hk, hi, hok, g1, g3⟩
  refine aw_of ?_
  by_cases hend : i = N.length
  · have e1 : ¬ ((i : Int) < N.length) := by omega
    simp (maxSteps := 1000000) (disch := (first | omega | (simp only [nx_alloc, nx_upd, len_cons, len_nil, List.length_set, List.length_map, List.length_append] <;> omega) | fail)) only [go_sem, g1, g3, hbx, ln]
    refine aw_draw (by kernel_rfl) ?_
    simp (maxSteps := 1000000) (disch := (first | omega | (simp only [nx_alloc, nx_upd, len_cons, len_nil, List.length_set, List.length_map, List.length_append] <;> omega) | fail)) only [go_sem, g1, hbx, lb]
    refine ⟨_, rblocks_ok w0 A' S _ vs1 (by omega), ?_⟩
    simp (maxSteps := 1000000) (disch := (first | omega | (simp only [nx_alloc, nx_upd, len_cons, len_nil, List.length_set, List.length_map, List.length_append] <;> omega) | fail)) only [go_sem, Try.results29]
    refine gc_fin' hw ov1 (congrArg Value.bool ?_) (.bool _)
    rw [Bool.eq_iff_iff, decide_eq_true_iff, hmi]
    constructor
    · intro h; exact ⟨by omega, hne, by omega, fun j hj => hok j (by omega)⟩
    · rintro ⟨_, _, h, _⟩; omega
  have e1 : ((i : Int) < N.length) := by omega
  obtain ⟨nm, hx⟩ : ∃ x, N[i]? = some x := ⟨_, List.getElem?_eq_getElem (by omega)⟩
  obtain ⟨sz, hy⟩ : ∃ x, S[i]? = some x := ⟨_, List.getElem?_eq_getElem (by omega)⟩
  obtain ⟨pb, po, hb1, hb2, hb3, cells, e', md, hb4, hb5⟩ := View.at1 (P := Try.prog) (e := 9) vn1 Try.sz9 (strE_at _ i nm hx)
  obtain ⟨qb, qo, hc1, hc2, hc3, cells2, e2', md2, hc4, hc5⟩ := View.at1 (P := Try.prog) (e := 3) vs1 Try.sz3 (i64E_at _ i sz hy)
  have hnx := nmN_at hx
  have hsx := szN_at hy
  have bad : ¬ okAt N S i → mayB ⟨id, B, N, S⟩ = false := fun h => hmn fun h' => h (h'.2.2.2 i (by omega))
  have pass : okAt N S i → ∀ j, j < i + 1 → okAt N S j := fun h j hj => by
    by_cases hji : j = i
    · subst hji; exact h
    · exact hok j (by omega)
  simp (maxSteps := 1000000) (disch := (first | omega | (simp only [nx_alloc, nx_upd, len_cons, len_nil, List.length_set, List.length_map, List.length_append] <;> omega) | fail)) only [go_sem, g1, g3, hbx, ln]
  refine aw_draw (by kernel_rfl) ?_
  by_cases a1 : nm.size = 0
  · simp (maxSteps := 1000000) (disch := (first | omega | (simp only [nx_alloc, nx_upd, len_cons, len_nil, List.length_set, List.length_map, List.length_append] <;> omega) | fail)) only [go_sem, g1, g3, hbx, hb3, hb4, hb5, beq_emptyS, a1, Try.results29]
    exact gc_fin' hw ov1 (by rw [bad (fun h => h.1 (by rw [hnx]; exact a1))]) (.bool _)
  by_cases a2 : 20 < nm.size
  · have a2' : (nm.size : Int) > 20 := by omega
    simp (maxSteps := 1000000) (disch := (first | omega | (simp only [nx_alloc, nx_upd, len_cons, len_nil, List.length_set, List.length_map, List.length_append] <;> omega) | fail)) only [go_sem, g1, g3, hbx, hb3, hb4, hb5, beq_emptyS, a1, Try.results29]
    exact gc_fin' hw ov1 (by rw [bad (fun h => by have := h.2.1; rw [hnx] at this; omega)]) (.bool _)
  have a2' : ¬ (nm.size : Int) > 20 := by omega
  by_cases a3 : sz < 0
  · simp (maxSteps := 1000000) (disch := (first | omega | (simp only [nx_alloc, nx_upd, len_cons, len_nil, List.length_set, List.length_map, List.length_append] <;> omega) | fail)) only [go_sem, g1, g3, hbx, hb3, hb4, hb5, hc3, hc4, hc5, beq_emptyS, a1, Try.results29]
    exact gc_fin' hw ov1 (by rw [bad (fun h => by have := h.2.2.1; rw [hsx] at this; omega)]) (.bool _)
  by_cases a4 : sz > 300
  · simp (maxSteps := 1000000) (disch := (first | omega | (simp only [nx_alloc, nx_upd, len_cons, len_nil, List.length_set, List.length_map, List.length_append] <;> omega) | fail)) only [go_sem, g1, g3, hbx, hb3, hb4, hb5, hc3, hc4, hc5, beq_emptyS, a1, Try.results29]
    exact gc_fin' hw ov1 (by rw [bad (fun h => by have := h.2.2.2.1; rw [hsx] at this; omega)]) (.bool _)
  by_cases hi0 : i = 0
  · have hi0' : ¬ (i : Int) > 0 := by omega
    simp (maxSteps := 1000000) (disch := (first | omega | (simp only [nx_alloc, nx_upd, len_cons, len_nil, List.length_set, List.length_map, List.length_append] <;> omega) | fail)) only [go_sem, g1, g3, hbx, hb3, hb4, hb5, hc3, hc4, hc5, beq_emptyS, a1]
    refine ⟨k - 1, by omega, _, i + 1, rfl, by omega, by omega, pass ⟨by rw [hnx]; exact a1, by rw [hnx]; omega, by rw [hsx]; omega, by rw [hsx]; omega, fun h => by omega⟩, ?_, ?_⟩
    · simp (maxSteps := 1000000) (disch := (first | omega | (simp only [nx_alloc, nx_upd, len_cons, len_nil, List.length_set, List.length_map, List.length_append] <;> omega) | fail)) only [go_sem, g1]
    · simp (maxSteps := 1000000) (disch := (first | omega | (simp only [nx_alloc, nx_upd, len_cons, len_nil, List.length_set, List.length_map, List.length_append] <;> omega) | fail)) only [go_sem]
      rfl
  have hi1 : (i : Int) > 0 := by omega
  have hsub : (i : Int) - 1 = ((i - 1 : Nat) : Int) := by omega
  obtain ⟨nm1, hx1⟩ : ∃ x, N[i - 1]? = some x := ⟨_, List.getElem?_eq_getElem (by omega)⟩
  obtain ⟨pb1, po1, hd1, hd2, hd3, cells3, e3', md3, hd4, hd5⟩ := View.at1 (P := Try.prog) (e := 9) vn1 Try.sz9 (strE_at _ (i - 1) nm1 hx1)
  have hnx1 := nmN_at hx1
  have hfold : Op.bytesLess nm1.toList nm.toList = lessS nm1 nm := rfl
  cases hls : lessS nm1 nm
  · rw [hls] at hfold
    simp (maxSteps := 1000000) (disch := (first | omega | (simp only [nx_alloc, nx_upd, len_cons, len_nil, List.length_set, List.length_map, List.length_append] <;> omega) | fail)) only [go_sem, g1, g3, hbx, hb3, hb4, hb5, hc3, hc4, hc5, hd3, hd4, hd5, hsub, beq_emptyS, a1, bin_sgeq, hfold, Try.results29]
    exact gc_fin' hw ov1 (by rw [bad (fun h => by have := h.2.2.2.2 (by omega); rw [hnx, hnx1, hls] at this; cases this)]) (.bool _)
  · rw [hls] at hfold
    simp (maxSteps := 1000000) (disch := (first | omega | (simp only [nx_alloc, nx_upd, len_cons, len_nil, List.length_set, List.length_map, List.length_append] <;> omega) | fail)) only [go_sem, g1, g3, hbx, hb3, hb4, hb5, hc3, hc4, hc5, hd3, hd4, hd5, hsub, beq_emptyS, a1, bin_sgeq, hfold]
    refine ⟨k - 1, by omega, _, i + 1, rfl, by omega, by omega, pass ⟨by rw [hnx]; exact a1, by rw [hnx]; omega, by rw [hsx]; omega, by rw [hsx]; omega, fun h => by rw [hnx, hnx1]; exact hls⟩, ?_, ?_⟩
    · simp (maxSteps := 1000000) (disch := (first | omega | (simp only [nx_alloc, nx_upd, len_cons, len_nil, List.length_set, List.length_map, List.length_append] <;> omega) | fail)) only [go_sem, g1]
    · simp (maxSteps := 1000000) (disch := (first | omega | (simp only [nx_alloc, nx_upd, len_cons, len_nil, List.length_set, List.length_map, List.length_append] <;> omega) | fail)) only [go_sem]
      rfl
end Go.Fw
