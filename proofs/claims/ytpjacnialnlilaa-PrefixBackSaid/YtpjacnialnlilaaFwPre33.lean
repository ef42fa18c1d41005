import Derived.Test.YtpjacnialnlilaaFwPre32
set_option linter.unusedSimpArgs false
set_option linter.unusedVariables false
set_option maxRecDepth 4000
namespace Go.Fw
open Go.Proofs Go.RowKit
/-! Codes of the document. -/
theorem pc_push {A : St} {lo : Nat} {l : List (Int × Int)} {v : Value} (h : Row A 41 2 lo (l.flatMap pcE) l.length v) (x : Int × Int) (hlo : lo ≤ A.next) (hl : l.length ≤ 1000000) :
    ∃ v' A2, aappend Try.prog (A.alloc (.cells (pcE x) 41 (some 0))) 35 35 v (.slice (some ⟨A.next, 0, none⟩) 1 1) = some (v', A2) ∧ Row A2 41 2 lo ((l ++ [x]).flatMap pcE) (l ++ [x]).length v' ∧ A2.next = A.next + 2 ∧ rowB v' = some (A.next + 1) ∧ ∀ b, b < A.next → rowB v ≠ some b → A2.get b = A.get b := by
  obtain ⟨v', A2, h1, h2, h3, h4, h5⟩ := row_push (A := A) (sp := none) (c := 1) (xs := pcE x) Try.el35 Try.underlying35 (by intro k; exact TypeDesc.noConfusion) Try.sz41 Try.byt41 Try.zero41 rfl h hlo (by omega) (by omega) rfl rfl
  exact ⟨v', A2, h1, by rw [List.flatMap_append, List.length_append, List.flatMap_singleton]; exact h2, h3, h4, h5⟩
/-- The pieces, while words of n bits are given, up to the place i. -/
def dcP (l : List Int) (n i j : Nat) : Int × Int := if (0 < l.getD j 0 ∧ l.getD j 0 < (n : Int)) ∨ (l.getD j 0 = (n : Int) ∧ j < i) then pieceAt l j else (0, 0)
def dcL (l : List Int) (n i : Nat) : List (Int × Int) := (List.range l.length).map (dcP l n i)
theorem dcL_len (l : List Int) (n i : Nat) : (dcL l n i).length = l.length := by unfold dcL; rw [List.length_map, List.length_range]
theorem dcL_at (l : List Int) (n i : Nat) {j : Nat} (h : j < l.length) : (dcL l n i)[j]? = some (dcP l n i j) := by
  unfold dcL; rw [List.getElem?_map, List.getElem?_range h]; rfl
theorem dcL_congr {l : List Int} {n i n' i' : Nat} (h : ∀ j, j < l.length → dcP l n i j = dcP l n' i' j) : dcL l n i = dcL l n' i' := List.map_congr_left fun j hj => h j (List.mem_range.1 hj)
theorem getD_some {l : List Int} {i : Nat} {x : Int} (h : l[i]? = some x) : l.getD i 0 = x := by rw [List.getD_eq_getElem?_getD, h]; rfl
theorem dcL_hit {l : List Int} {n i : Nat} (hi : l[i]? = some (n : Int)) : (dcL l n i).set i (pieceAt l i) = dcL l n (i + 1) := by
  have hil := (List.getElem?_eq_some_iff.1 hi).1
  refine List.ext_getElem? fun j => ?_
  rw [List.getElem?_set, dcL_len]
  by_cases hj : j < l.length
  · rw [dcL_at l n i hj, dcL_at l n (i + 1) hj]
    split
    · rename_i e
      subst e
      unfold dcP
      rw [if_pos (.inr ⟨getD_some hi, by omega⟩)]
    · rename_i e
      unfold dcP
      have : (l.getD j 0 = (n : Int) ∧ j < i) ↔ (l.getD j 0 = (n : Int) ∧ j < i + 1) := ⟨fun h => ⟨h.1, by omega⟩, fun h => ⟨h.1, by omega⟩⟩
      simp only [this]
  · have h1 : (dcL l n i)[j]? = none := List.getElem?_eq_none (by rw [dcL_len]; omega)
    have h2 : (dcL l n (i + 1))[j]? = none := List.getElem?_eq_none (by rw [dcL_len]; omega)
    rw [h1, h2, if_neg (by omega)]
theorem dcL_miss {l : List Int} {n i : Nat} {x : Int} (hi : l[i]? = some x) (hx : x ≠ (n : Int)) : dcL l n i = dcL l n (i + 1) := dcL_congr fun j _ => by
  unfold dcP
  by_cases e : j = i
  · subst e
    have := getD_some hi
    rw [this]
    by_cases h : 0 < x ∧ x < (n : Int)
    · rw [if_pos (.inl h), if_pos (.inl h)]
    · rw [if_neg (fun h' => h'.elim h (fun h' => hx h'.1)), if_neg (fun h' => h'.elim h (fun h' => hx h'.1))]
  · have : (l.getD j 0 = (n : Int) ∧ j < i) ↔ (l.getD j 0 = (n : Int) ∧ j < i + 1) := ⟨fun h => ⟨h.1, by omega⟩, fun h => ⟨h.1, by omega⟩⟩
    simp only [this]
theorem dcL_next (l : List Int) {n : Nat} (hn : 0 < n) : dcL l n l.length = dcL l (n + 1) 0 := dcL_congr fun j hj => by
  unfold dcP
  have : ((0 < l.getD j 0 ∧ l.getD j 0 < (n : Int)) ∨ (l.getD j 0 = (n : Int) ∧ j < l.length)) ↔ ((0 < l.getD j 0 ∧ l.getD j 0 < ((n + 1 : Nat) : Int)) ∨ (l.getD j 0 = ((n + 1 : Nat) : Int) ∧ j < 0)) := by
    constructor
    · rintro (⟨h1, h2⟩ | ⟨h1, h2⟩)
      · exact .inl ⟨h1, by omega⟩
      · exact .inl ⟨by omega, by omega⟩
    · rintro (⟨h1, h2⟩ | ⟨h1, h2⟩)
      · by_cases h : l.getD j 0 = (n : Int)
        · exact .inr ⟨h, hj⟩
        · exact .inl ⟨h1, by omega⟩
      · omega
  simp only [this]
theorem dcL_first (l : List Int) : dcL l 1 0 = List.replicate l.length (0, 0) := by
  refine List.ext_getElem? fun j => ?_
  rw [List.getElem?_replicate]
  by_cases hj : j < l.length
  · rw [dcL_at l 1 0 hj, if_pos hj]
    unfold dcP
    rw [if_neg (by rintro (⟨h1, h2⟩ | ⟨h1, h2⟩) <;> omega)]
  · rw [if_neg hj, List.getElem?_eq_none (by rw [dcL_len]; omega)]
theorem dcL_last {l : List Int} (h : ∀ x ∈ l, 0 ≤ x ∧ x ≤ 15) : dcL l 16 0 = codeL l := List.map_congr_left fun j hj => by
  have hj' := List.mem_range.1 hj
  have hx : l[j]? = some l[j] := List.getElem?_eq_getElem hj'
  have hm := h l[j] (List.getElem_mem hj')
  unfold dcP
  rw [getD_some hx]
  by_cases h0 : 0 < l[j]
  · rw [if_pos (.inl ⟨h0, by omega⟩)]
  · rw [if_neg (by rintro (⟨h1, h2⟩ | ⟨h1, h2⟩) <;> omega)]
    have : l[j] = 0 := by omega
    rw [this] at hx
    rw [pieceAt_none hx]
set_option maxHeartbeats 8000000 in
theorem rcodes_ok (w0 : World) (A : St) (l : List Int) (v : Value) (hv : InView A l v) (hl : l.length ≤ 1000) : ACalls Try.prog w0 15 #[v] A (CodePost A 41 (codesP l)) := by
  refine call_E (l := [v]) Try.enters15 Try.func15 rfl (Nat.le_of_ble_eq_true rfl) fun hw hbd => ?_
  have hlv : ∀ X, lenU X (some (.slice 3)) v = some (.int .i64 l.length, X) := View.lenX hv
  simp (maxSteps := 1000000) (disch := (first | omega | (simp only [nx_alloc, nx_upd, len_cons, len_nil, List.length_set, List.length_map, List.length_append] <;> omega) | fail)) only [go_sem, Try.ntmps15, Try.results15]
  refine call1 (rright_ok w0 A l v hv hl) ?_
  rcases hc : isCode l with _ | _
  · simp (maxSteps := 1000000) (disch := (first | omega | (simp only [nx_alloc, nx_upd, len_cons, len_nil, List.length_set, List.length_map, List.length_append] <;> omega) | fail)) only [go_sem, hc, Try.results15]
    refine gc_here ⟨_, by unfold codesP; rw [hc]; rfl, Over.refl _, ?_⟩
    unfold codesP; rw [hc]; exact Row.nil ..
  obtain ⟨hk, hl3, h15⟩ := isCode_kr hc
  have hne : l.length ≠ 0 := by
    intro h
    rw [List.eq_nil_of_length_eq_zero h] at hc
    revert hc; decide
  simp (maxSteps := 1000000) (disch := (first | omega | (simp only [nx_alloc, nx_upd, len_cons, len_nil, List.length_set, List.length_map, List.length_append] <;> omega) | fail)) only [go_sem, hc]
  refine aw_loop (fun k x A' => ∃ (ρ : Nat → Value) (i : Nat) (fv : Value), x = E 52 ρ [] ∧ Over A A' ∧ Row A' 41 2 A.next ((List.replicate i ((0 : Int), (0 : Int))).flatMap pcE) (List.replicate i ((0 : Int), (0 : Int))).length fv ∧ k = l.length - i ∧ i ≤ l.length ∧ ρ 0 = v ∧ ρ 4 = fv ∧ ρ 5 = .int .i64 i) l.length
    ⟨_, 0, _, rfl, (Over.refl A).alloc _, ⟨rfl, .inr ⟨A.next, none, rfl, .inl rfl, Nat.le_refl _, by rw [nx_alloc]; omega, get_alloc_same ..⟩⟩, rfl, Nat.zero_le _, rfl, rfl, rfl⟩ ?_
  rintro k x A' ⟨ρ, i, fv, rfl, oA, rf, hkk, hi, r0, r4, r5⟩
  refine aw_of ?_
  by_cases hend : i = l.length
  rotate_left
  · have e1 : (i : Int) < (l.length : Int) := by omega
    obtain ⟨v', A2, q1, q2, q3, q4, q5⟩ := pc_push rf (0, 0) oA.next (by rw [List.length_replicate]; omega)
    rw [← List.replicate_succ'] at q2
    have oA2 : Over A A2 := ⟨by have := oA.next; omega, fun b hb => (q5 b (by have := oA.next; omega) (rf.ne hb)).trans (oA.get b hb)⟩
    have q1' : aappend Try.prog (A'.alloc (.cells [.int .u32 0, .int .i64 0] 41 (some 0))) 35 35 fv (.slice (some ⟨A'.next, 0, none⟩) 1 1) = some (v', A2) := q1
    simp (maxSteps := 1000000) (disch := (first | omega | (simp only [nx_alloc, nx_upd, len_cons, len_nil, List.length_set, List.length_map, List.length_append] <;> omega) | fail)) only [go_sem, r0, r4, r5, hlv, e1, q1']
    refine ⟨k - 1, by omega, _, i + 1, v', rfl, oA2, q2, by omega, by omega, ?_, ?_, ?_⟩
    · simp (maxSteps := 1000000) (disch := (first | omega | (simp only [nx_alloc, nx_upd, len_cons, len_nil, List.length_set, List.length_map, List.length_append] <;> omega) | fail)) only [go_sem, r0]
    · simp (maxSteps := 1000000) (disch := (first | omega | (simp only [nx_alloc, nx_upd, len_cons, len_nil, List.length_set, List.length_map, List.length_append] <;> omega) | fail)) only [go_sem]
    · simp (maxSteps := 1000000) (disch := (first | omega | (simp only [nx_alloc, nx_upd, len_cons, len_nil, List.length_set, List.length_map, List.length_append] <;> omega) | fail)) only [go_sem]
      rfl
  have e1 : ¬ ((i : Int) < (l.length : Int)) := by omega
  rw [hend, ← dcL_first] at rf
  simp (maxSteps := 1000000) (disch := (first | omega | (simp only [nx_alloc, nx_upd, len_cons, len_nil, List.length_set, List.length_map, List.length_append] <;> omega) | fail)) only [go_sem, r0, r4, r5, hlv, e1]
  refine aw_loop (fun k x B => ∃ (ρ : Nat → Value) (n pw : Nat), x = E 52 ρ [] ∧ Over A B ∧ Row B 41 2 A.next ((dcL l n 0).flatMap pcE) (dcL l n 0).length fv ∧ k = 16 - n ∧ 1 ≤ n ∧ n ≤ 16 ∧ 2 * pw = bs l n ∧ ρ 0 = v ∧ ρ 4 = fv ∧ ρ 6 = .int .u32 pw ∧ ρ 7 = .int .i64 n) 15
    ⟨_, 1, 0, rfl, oA, rf, rfl, Nat.le_refl _, by omega, rfl, by first | rfl | exact r0, by first | rfl | exact r4, rfl, rfl⟩ ?_
  clear r0 r4 r5 rf oA
  rintro k x B ⟨ρ, n, pw, rfl, oB, rf, hkn, hn1, hn16, hpw, r0, r4, r6, r7⟩
  refine aw_of ?_
  by_cases hend2 : n = 16
  · have e2 : ¬ ((n : Int) ≤ 15) := by omega
    rw [hend2, dcL_last h15] at rf
    simp (maxSteps := 1000000) (disch := (first | omega | (simp only [nx_alloc, nx_upd, len_cons, len_nil, List.length_set, List.length_map, List.length_append] <;> omega) | fail)) only [go_sem, r0, r4, r6, r7, e2, Try.results15]
    refine gc_here ⟨fv, by unfold codesP; rw [hc]; rfl, oB, ?_⟩
    unfold codesP; rw [hc]; exact rf
  have e2 : ((n : Int) ≤ 15) := by omega
  have hbn := bs_le hk hn1 (by omega)
  have hp15 : 2 ^ n ≤ 2 ^ 15 := Nat.pow_le_pow_right (by decide) (by omega)
  have h215 : (2 : Nat) ^ 15 = 32768 := rfl
  have hsh := shl1_u32 (n := pw) (by omega)
  rw [hpw] at hsh
  simp (maxSteps := 1000000) (disch := (first | omega | (simp only [nx_alloc, nx_upd, len_cons, len_nil, List.length_set, List.length_map, List.length_append] <;> omega) | fail)) only [go_sem, r0, r4, r6, r7, e2, hsh]
  refine aw_loop (fun m x C => ∃ (ρ : Nat → Value) (i : Nat), x = E 52 ρ [] ∧ Over A C ∧ Row C 41 2 A.next ((dcL l n i).flatMap pcE) (dcL l n i).length fv ∧ m = l.length - i ∧ i ≤ l.length ∧ ρ 0 = v ∧ ρ 4 = fv ∧ ρ 6 = .int .u32 (wrd l i n : Nat) ∧ ρ 7 = .int .i64 n ∧ ρ 8 = .int .i64 i) l.length
    ⟨_, 0, rfl, oB, rf, rfl, Nat.zero_le _, by first | rfl | exact r0, by first | rfl | exact r4, by show Value.int .u32 _ = _; rw [show wrd l 0 n = bs l n from rfl], by first | rfl | exact r7, rfl⟩ ?_
  clear r0 r4 r6 r7 rf oB
  rintro m x C ⟨ρ, i, rfl, oC, rf, hm, hi, r0, r4, r6, r7, r8⟩
  refine aw_of ?_
  by_cases hend3 : i = l.length
  · have e3 : ¬ ((i : Int) < (l.length : Int)) := by omega
    rw [hend3, dcL_next l (by omega)] at rf
    simp (maxSteps := 1000000) (disch := (first | omega | (simp only [nx_alloc, nx_upd, len_cons, len_nil, List.length_set, List.length_map, List.length_append] <;> omega) | fail)) only [go_sem, r0, r4, r6, r7, r8, hlv, e3]
    refine ⟨k - 1, by omega, _, n + 1, bs l n + mny l n, rfl, oC, rf, by omega, by omega, by omega, ?_, ?_, ?_, ?_, ?_⟩
    · obtain ⟨n', rfl⟩ : ∃ n', n = n' + 1 := ⟨n - 1, by omega⟩
      rfl
    · simp (maxSteps := 1000000) (disch := (first | omega | (simp only [nx_alloc, nx_upd, len_cons, len_nil, List.length_set, List.length_map, List.length_append] <;> omega) | fail)) only [go_sem, r0]
    · simp (maxSteps := 1000000) (disch := (first | omega | (simp only [nx_alloc, nx_upd, len_cons, len_nil, List.length_set, List.length_map, List.length_append] <;> omega) | fail)) only [go_sem, r4]
    · simp (maxSteps := 1000000) (disch := (first | omega | (simp only [nx_alloc, nx_upd, len_cons, len_nil, List.length_set, List.length_map, List.length_append] <;> omega) | fail)) only [go_sem, r6]
      unfold wrd
      rw [hend3, List.take_length]
    · simp (maxSteps := 1000000) (disch := (first | omega | (simp only [nx_alloc, nx_upd, len_cons, len_nil, List.length_set, List.length_map, List.length_append] <;> omega) | fail)) only [go_sem]
      rfl
  have e3 : ((i : Int) < (l.length : Int)) := by omega
  obtain ⟨y, hx⟩ : ∃ x, l[i]? = some x := ⟨_, List.getElem?_eq_getElem (by omega)⟩
  obtain ⟨pb, po, hb1, hb2, hb3, cells, e', md, hb4, hb5⟩ := View.at1 (P := Try.prog) (e := 3) (View.over hv oC) Try.sz3 (i64E_at _ i y hx)
  have htk : l.take (i + 1) = l.take i ++ [y] := by rw [List.take_add_one, hx]; rfl
  by_cases hy : y = (n : Int)
  · subst hy
    obtain ⟨b, hbr, hb0, hbl, hbg, hix, _, hst, hre⟩ := rf.own pcE_len Try.sz41 (by rw [dcL_len]; exact hne)
    rw [dcL_len] at hix hst hre
    have hix := hix .i64 i (by omega)
    have hst := hst i (pieceAt l i) (by omega) rfl
    have hset := dcL_hit hx
    rw [hset] at hst
    rw [pieceAt_some hx (by omega)] at hst
    have hst' : storeC C (some 2) (some (.cells ((dcL l n i).flatMap pcE) 41 (some 0))) b (i * 2) (.agg [.int .u32 ((rv n (wrd l i n) : Nat) : Int), .int .i64 (n : Int)].toArray) = _ := hst
    have hwl := wrd_lt hk hn1 (by omega) hx
    have hww : wrd l (i + 1) n = wrd l i n + 1 := by unfold wrd; rw [htk, mny_snoc, if_pos rfl]; omega
    have hw1 : IntKind.u32.wrap (((wrd l i n : Nat) : Int) + 1) = ((wrd l i n + 1 : Nat) : Int) := by
      simp only [IntKind.wrap, IntKind.signed, IntKind.bits]; simp; omega
    simp (maxSteps := 1000000) (disch := (first | omega | (simp only [nx_alloc, nx_upd, len_cons, len_nil, List.length_set, List.length_map, List.length_append] <;> omega) | fail)) only [go_sem, r0, r4, r6, r7, r8, hlv, e3, hb3, hb4, hb5]
    refine call1 (turned_ok w0 C (wrd l i n) n (by omega) (by omega)) ?_
    simp (maxSteps := 1000000) (disch := (first | omega | (simp only [nx_alloc, nx_upd, len_cons, len_nil, List.length_set, List.length_map, List.length_append] <;> omega) | fail)) only [go_sem, r0, r4, r6, r7, r8, hix, hbg, hst', hw1]
    refine ⟨m - 1, by omega, _, i + 1, rfl, oC.upd hb0 _, ?_, by omega, by omega, ?_, ?_, ?_, ?_, ?_⟩
    · rw [dcL_len]
      have := hre (C.upd b (some (.cells ((dcL l n (i + 1)).flatMap pcE) 41 (some 0)))) (dcL l n (i + 1)) (dcL_len ..) (get_upd_same ..) (Nat.le_refl _)
      rw [dcL_len] at this
      exact this
    · simp (maxSteps := 1000000) (disch := (first | omega | (simp only [nx_alloc, nx_upd, len_cons, len_nil, List.length_set, List.length_map, List.length_append] <;> omega) | fail)) only [go_sem, r0]
    · simp (maxSteps := 1000000) (disch := (first | omega | (simp only [nx_alloc, nx_upd, len_cons, len_nil, List.length_set, List.length_map, List.length_append] <;> omega) | fail)) only [go_sem, r4]
    · simp (maxSteps := 1000000) (disch := (first | omega | (simp only [nx_alloc, nx_upd, len_cons, len_nil, List.length_set, List.length_map, List.length_append] <;> omega) | fail)) only [go_sem]
      rw [hww]
    · simp (maxSteps := 1000000) (disch := (first | omega | (simp only [nx_alloc, nx_upd, len_cons, len_nil, List.length_set, List.length_map, List.length_append] <;> omega) | fail)) only [go_sem, r7]
    · simp (maxSteps := 1000000) (disch := (first | omega | (simp only [nx_alloc, nx_upd, len_cons, len_nil, List.length_set, List.length_map, List.length_append] <;> omega) | fail)) only [go_sem]
      rfl
  · have hww : wrd l (i + 1) n = wrd l i n := by unfold wrd; rw [htk, mny_snoc, if_neg hy]; rfl
    simp (maxSteps := 1000000) (disch := (first | omega | (simp only [nx_alloc, nx_upd, len_cons, len_nil, List.length_set, List.length_map, List.length_append] <;> omega) | fail)) only [go_sem, r0, r4, r6, r7, r8, hlv, e3, hb3, hb4, hb5, hy]
    refine ⟨m - 1, by omega, _, i + 1, rfl, oC, by rw [← dcL_miss hx hy]; exact rf, by omega, by omega, ?_, ?_, ?_, ?_, ?_⟩
    · simp (maxSteps := 1000000) (disch := (first | omega | (simp only [nx_alloc, nx_upd, len_cons, len_nil, List.length_set, List.length_map, List.length_append] <;> omega) | fail)) only [go_sem, r0]
    · simp (maxSteps := 1000000) (disch := (first | omega | (simp only [nx_alloc, nx_upd, len_cons, len_nil, List.length_set, List.length_map, List.length_append] <;> omega) | fail)) only [go_sem, r4]
    · simp (maxSteps := 1000000) (disch := (first | omega | (simp only [nx_alloc, nx_upd, len_cons, len_nil, List.length_set, List.length_map, List.length_append] <;> omega) | fail)) only [go_sem, r6]
      rw [hww]
    · simp (maxSteps := 1000000) (disch := (first | omega | (simp only [nx_alloc, nx_upd, len_cons, len_nil, List.length_set, List.length_map, List.length_append] <;> omega) | fail)) only [go_sem, r7]
    · simp (maxSteps := 1000000) (disch := (first | omega | (simp only [nx_alloc, nx_upd, len_cons, len_nil, List.length_set, List.length_map, List.length_append] <;> omega) | fail)) only [go_sem]
      rfl
end Go.Fw
