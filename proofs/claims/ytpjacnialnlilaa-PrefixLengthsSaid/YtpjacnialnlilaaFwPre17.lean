import Derived.Test.YtpjacnialnlilaaFwPre16
set_option linter.unusedSimpArgs false
set_option linter.unusedVariables false
set_option maxRecDepth 4000
namespace Go.Fw
open Go.Proofs Go.RowKit
/-! Lengths of the document. -/
theorem int_push {A : St} {lo : Nat} {l : List Int} {v : Value} (h : Row A 3 1 lo (l.map (Value.int .i64 ·)) l.length v) (x : Int) (hlo : lo ≤ A.next) (hl : l.length ≤ 1000000) :
    ∃ v' A2, aappend Try.prog (A.alloc (.cells [.int .i64 x] 3 (some 0))) 22 22 v (.slice (some ⟨A.next, 0, none⟩) 1 1) = some (v', A2) ∧ Row A2 3 1 lo ((l ++ [x]).map (Value.int .i64 ·)) (l ++ [x]).length v' ∧ A2.next = A.next + 2 ∧ rowB v' = some (A.next + 1) ∧ ∀ b, b < A.next → rowB v ≠ some b → A2.get b = A.get b := by
  obtain ⟨v', A2, h1, h2, h3, h4, h5⟩ := row_push (A := A) (sp := none) (c := 1) (xs := [.int .i64 x]) Try.el22 Try.underlying22 (by intro k; exact TypeDesc.noConfusion) Try.sz3 Try.byt3 Try.zero3 rfl h hlo (by omega) (by omega) rfl rfl
  exact ⟨v', A2, h1, by rw [List.map_append, List.length_append]; exact h2, h3, h4, h5⟩
set_option maxHeartbeats 8000000 in
theorem rlengths_ok (w0 : World) (A : St) (f : List Int) (v : Value) (lim : Int) (hv : InView A f v) (hn : f.length ≤ 1000) :
    ACalls Try.prog w0 12 #[v, .int .i64 lim] A (LenPost A (lengthsP f lim)) := by
  refine call_E (l := [v, .int .i64 lim]) Try.enters12 Try.func12 rfl (Nat.le_of_ble_eq_true rfl) fun hw hbd => ?_
  have hlen : ∀ X, lenU X (some (.slice 3)) v = some (.int .i64 f.length, X) := View.lenX hv
  have herr : ∀ {p : List Int × Int} {B : St}, Over A B → p = ([], 1) → GcE A (LenPost A p) (.returned (.tuple #[.slice none 0 0, .int .i64 1])) B := by
    rintro p B o rfl
    exact gc_here ⟨_, rfl, o, Row.nil ..⟩
  by_cases h1 : 300 < f.length
  · have h1' : ((f.length : Nat) : Int) > 300 := by omega
    simp (maxSteps := 1000000) (disch := (first | omega | (simp only [nx_alloc, nx_upd, len_cons, len_nil, List.length_set, List.length_map, List.length_append] <;> omega) | fail)) only [go_sem, Try.ntmps12, Try.results12, hlen, h1']
    exact herr (Over.refl _) (if_pos (.inl h1))
  have h1' : ¬ ((f.length : Nat) : Int) > 300 := by omega
  by_cases h2 : lim < 1
  · simp (maxSteps := 1000000) (disch := (first | omega | (simp only [nx_alloc, nx_upd, len_cons, len_nil, List.length_set, List.length_map, List.length_append] <;> omega) | fail)) only [go_sem, Try.ntmps12, Try.results12, hlen, h1', h2]
    exact herr (Over.refl _) (if_pos (.inr (.inl h2)))
  by_cases h3 : lim > 15
  · simp (maxSteps := 1000000) (disch := (first | omega | (simp only [nx_alloc, nx_upd, len_cons, len_nil, List.length_set, List.length_map, List.length_append] <;> omega) | fail)) only [go_sem, Try.ntmps12, Try.results12, hlen, h1', h2, h3]
    exact herr (Over.refl _) (if_pos (.inr (.inr h3)))
  have hP : lengthsP f lim = if f.any (fun x => decide (x < 0) || decide (1048576 < x)) then ([], 1) else if 2 ^ lim.toNat < usedN f then ([], 1) else (lenF 20 f lim, 0) := if_neg (by omega)
  simp (maxSteps := 1000000) (disch := (first | omega | (simp only [nx_alloc, nx_upd, len_cons, len_nil, List.length_set, List.length_map, List.length_append] <;> omega) | fail)) only [go_sem, Try.ntmps12, Try.results12, hlen, h1', h2, h3]
  refine aw_loop (fun k x A' => ∃ (ρ : Nat → Value) (i : Nat) (fv : Value), x = E 99 ρ [] ∧ Over A A' ∧ Row A' 3 1 A.next ((f.take i).map (Value.int .i64 ·)) (f.take i).length fv ∧ k = f.length - i ∧ i ≤ f.length ∧ (∀ x ∈ f.take i, 0 ≤ x ∧ x ≤ 1048576) ∧ ρ 0 = v ∧ ρ 1 = .int .i64 lim ∧ ρ 6 = .int .i64 (usedN (f.take i) : Nat) ∧ ρ 7 = fv ∧ ρ 8 = .int .i64 i) f.length
    ⟨_, 0, _, rfl, (Over.refl A).alloc _, ⟨rfl, .inr ⟨A.next, none, rfl, .inl rfl, Nat.le_refl _, by rw [nx_alloc]; omega, get_alloc_same ..⟩⟩, rfl, Nat.zero_le _, fun x hx => (by simp at hx), rfl, rfl, rfl, rfl, rfl⟩ ?_
  rintro k x A' ⟨ρ, i, fv, rfl, oA, rf, hk, hi, hok, r0, r1, r6, r7, r8⟩
  refine aw_of ?_
  have hul := usedN_le (f.take i)
  have htk : (f.take i).length ≤ i := List.length_take_le ..
  by_cases hend : i = f.length
  rotate_left
  · have e1 : (i : Int) < (f.length : Int) := by omega
    obtain ⟨n, hx⟩ : ∃ x, f[i]? = some x := ⟨_, List.getElem?_eq_getElem (by omega)⟩
    obtain ⟨pb, po, hb1, hb2, hb3, cells, e', md, hb4, hb5⟩ := View.at1 (P := Try.prog) (e := 3) (View.over hv oA) Try.sz3 (i64E_at _ i n hx)
    have hmem := List.mem_of_getElem? hx
    have htk2 : f.take (i + 1) = f.take i ++ [n] := by rw [List.take_add_one, hx]; rfl
    have hus := usedN_snoc (f.take i) n
    rw [← htk2] at hus
    by_cases b1 : n < 0
    · simp (maxSteps := 1000000) (disch := (first | omega | (simp only [nx_alloc, nx_upd, len_cons, len_nil, List.length_set, List.length_map, List.length_append] <;> omega) | fail)) only [go_sem, r0, r1, r7, r8, hlen, e1, hb3, hb4, hb5, b1, Try.results12]
      exact herr oA (by rw [hP, if_pos (any_bad hmem (.inl b1))])
    by_cases b2 : n > 1048576
    · simp (maxSteps := 1000000) (disch := (first | omega | (simp only [nx_alloc, nx_upd, len_cons, len_nil, List.length_set, List.length_map, List.length_append] <;> omega) | fail)) only [go_sem, r0, r1, r7, r8, hlen, e1, hb3, hb4, hb5, b1, b2, Try.results12]
      exact herr oA (by rw [hP, if_pos (any_bad hmem (.inr b2))])
    have hok2 : ∀ x ∈ f.take (i + 1), 0 ≤ x ∧ x ≤ 1048576 := fun x hx => by
      rw [htk2] at hx
      rcases List.mem_append.1 hx with hx | hx
      · exact hok x hx
      · rw [List.mem_singleton.1 hx]; omega
    obtain ⟨v', A2, q1, q2, q3, q4, q5⟩ := int_push rf n oA.next (by omega)
    rw [← htk2] at q2
    have oA2 : Over A A2 := ⟨by have := oA.next; omega, fun b hb => (q5 b (by have := oA.next; omega) (rf.ne hb)).trans (oA.get b hb)⟩
    by_cases b3 : n > 0
    · rw [if_pos b3] at hus
      simp (maxSteps := 1000000) (disch := (first | omega | (simp only [nx_alloc, nx_upd, len_cons, len_nil, List.length_set, List.length_map, List.length_append] <;> omega) | fail)) only [go_sem, r0, r1, r6, r7, r8, hlen, e1, hb3, hb4, hb5, b1, b2, b3, q1]
      refine ⟨k - 1, by omega, _, i + 1, v', rfl, oA2, q2, by omega, by omega, hok2, ?_, ?_, ?_, ?_, ?_⟩
      · simp (maxSteps := 1000000) (disch := (first | omega | (simp only [nx_alloc, nx_upd, len_cons, len_nil, List.length_set, List.length_map, List.length_append] <;> omega) | fail)) only [go_sem, r0]
      · simp (maxSteps := 1000000) (disch := (first | omega | (simp only [nx_alloc, nx_upd, len_cons, len_nil, List.length_set, List.length_map, List.length_append] <;> omega) | fail)) only [go_sem, r1]
      · simp (maxSteps := 1000000) (disch := (first | omega | (simp only [nx_alloc, nx_upd, len_cons, len_nil, List.length_set, List.length_map, List.length_append] <;> omega) | fail)) only [go_sem]
        rw [hus]; rfl
      · simp (maxSteps := 1000000) (disch := (first | omega | (simp only [nx_alloc, nx_upd, len_cons, len_nil, List.length_set, List.length_map, List.length_append] <;> omega) | fail)) only [go_sem]
      · simp (maxSteps := 1000000) (disch := (first | omega | (simp only [nx_alloc, nx_upd, len_cons, len_nil, List.length_set, List.length_map, List.length_append] <;> omega) | fail)) only [go_sem]
        rfl
    · rw [if_neg b3] at hus
      simp (maxSteps := 1000000) (disch := (first | omega | (simp only [nx_alloc, nx_upd, len_cons, len_nil, List.length_set, List.length_map, List.length_append] <;> omega) | fail)) only [go_sem, r0, r1, r6, r7, r8, hlen, e1, hb3, hb4, hb5, b1, b2, b3, q1]
      refine ⟨k - 1, by omega, _, i + 1, v', rfl, oA2, q2, by omega, by omega, hok2, ?_, ?_, ?_, ?_, ?_⟩
      · simp (maxSteps := 1000000) (disch := (first | omega | (simp only [nx_alloc, nx_upd, len_cons, len_nil, List.length_set, List.length_map, List.length_append] <;> omega) | fail)) only [go_sem, r0]
      · simp (maxSteps := 1000000) (disch := (first | omega | (simp only [nx_alloc, nx_upd, len_cons, len_nil, List.length_set, List.length_map, List.length_append] <;> omega) | fail)) only [go_sem, r1]
      · simp (maxSteps := 1000000) (disch := (first | omega | (simp only [nx_alloc, nx_upd, len_cons, len_nil, List.length_set, List.length_map, List.length_append] <;> omega) | fail)) only [go_sem, r6]
        rw [hus]; rfl
      · simp (maxSteps := 1000000) (disch := (first | omega | (simp only [nx_alloc, nx_upd, len_cons, len_nil, List.length_set, List.length_map, List.length_append] <;> omega) | fail)) only [go_sem]
      · simp (maxSteps := 1000000) (disch := (first | omega | (simp only [nx_alloc, nx_upd, len_cons, len_nil, List.length_set, List.length_map, List.length_append] <;> omega) | fail)) only [go_sem]
        rfl
  have e1 : ¬ ((i : Int) < (f.length : Int)) := by omega
  rw [hend, List.take_length] at hok r6 hul rf
  obtain ⟨L, rfl⟩ := Int.eq_ofNat_of_zero_le (show 0 ≤ lim by omega)
  have hsh := ishl_lim (L := L) (by omega)
  rw [if_neg (no_bad hok), Int.toNat_natCast] at hP
  by_cases hus : 2 ^ L < usedN f
  · have e2 : ((2 ^ L : Nat) : Int) < (usedN f : Nat) := by omega
    simp (maxSteps := 1000000) (disch := (first | omega | (simp only [nx_alloc, nx_upd, len_cons, len_nil, List.length_set, List.length_map, List.length_append] <;> omega) | fail)) only [go_sem, r0, r1, r6, r7, r8, hlen, e1, hsh, e2, Try.results12]
    exact herr oA (by rw [hP, if_pos hus])
  rw [if_neg hus] at hP
  have e2 : ¬ (((2 ^ L : Nat) : Int) < (usedN f : Nat)) := by omega
  simp (maxSteps := 1000000) (disch := (first | omega | (simp only [nx_alloc, nx_upd, len_cons, len_nil, List.length_set, List.length_map, List.length_append] <;> omega) | fail)) only [go_sem, r0, r1, r6, r7, r8, hlen, e1, hsh, e2]
  have hk0 : HOk 20 f L := ⟨fun x hx => (hok x hx).1, fun x hx => (hok x hx).2, by omega⟩
  refine aw_loop (fun k x B => ∃ (ρ : Nat → Value) (g : List Int) (fv : Value), x = E 99 ρ [] ∧ Over A B ∧ Row B 3 1 A.next (g.map (Value.int .i64 ·)) g.length fv ∧ g.length = f.length ∧ HOk k g L ∧ (∀ x ∈ g, x ≤ 1048576) ∧ lenF k g L = lenF 20 f L ∧ ρ 1 = .int .i64 L ∧ ρ 7 = fv) 20
    ⟨_, f, fv, rfl, oA, rf, rfl, hk0, fun x hx => (hok x hx).2, rfl, by first | rfl | exact r1, by first | rfl | exact r7⟩ ?_
  clear r0 r1 r6 r7 r8 rf hk0 oA
  rintro k x B ⟨ρ, g, fv, rfl, ob, rg, hgl, hko, hg20, hlf, r1, r7⟩
  refine aw_of ?_
  simp (maxSteps := 1000000) (disch := (first | omega | (simp only [nx_alloc, nx_upd, len_cons, len_nil, List.length_set, List.length_map, List.length_append] <;> omega) | fail)) only [go_sem, r1, r7]
  refine (rdepths_ok w0 B g fv (InRow.of rg).view (fun x hx => ⟨hko.nn x hx, hg20 x hx⟩) (by omega)).mono ?_
  rintro e B1 ⟨lv, rfl, o2, rl⟩
  simp (maxSteps := 1000000) (disch := (first | omega | (simp only [nx_alloc, nx_upd, len_cons, len_nil, List.length_set, List.length_map, List.length_append] <;> omega) | fail)) only [go_sem]
  have hll : ∀ X, lenU X (some (.slice 3)) lv = some (.int .i64 (grownP g).length, X) := View.lenX rl.view
  refine aw_loop (fun m x C => ∃ (ρ : Nat → Value) (i : Nat) (d : Int), x = E 99 ρ [] ∧ C = B1 ∧ m = (grownP g).length - i ∧ i ≤ (grownP g).length ∧ (∀ lim : Int, 0 ≤ lim → (d ≤ lim ↔ okL ((grownP g).take i) lim = true)) ∧ ρ 1 = .int .i64 L ∧ ρ 7 = fv ∧ ρ 9 = lv ∧ ρ 10 = .int .i64 d ∧ ρ 11 = .int .i64 i) (grownP g).length
    ⟨_, 0, 0, rfl, rfl, rfl, Nat.zero_le _, fun lim h => ⟨fun _ => rfl, fun _ => h⟩, by first | rfl | exact r1, by first | rfl | exact r7, rfl, rfl, rfl⟩ ?_
  clear r1 r7
  rintro m x C ⟨ρ, i, d, rfl, rfl, hm, hi, hd, r1, r7, r9, r10, r11⟩
  refine aw_of ?_
  by_cases hend3 : i = (grownP g).length
  rotate_left
  · have e5 : (i : Int) < ((grownP g).length : Nat) := by omega
    obtain ⟨n, hx⟩ : ∃ x, (grownP g)[i]? = some x := ⟨_, List.getElem?_eq_getElem (by omega)⟩
    obtain ⟨pb, po, hb1, hb2, hb3, cells, e', md, hb4, hb5⟩ := View.at1 (P := Try.prog) (e := 3) rl.view Try.sz3 (i64E_at _ i n hx)
    have htk : (grownP g).take (i + 1) = (grownP g).take i ++ [n] := by rw [List.take_add_one, hx]; rfl
    have hgb : (grownP g).length ≤ 1000 := by rw [grownP_len]; omega
    simp (maxSteps := 1000000) (disch := (first | omega | (simp only [nx_alloc, nx_upd, len_cons, len_nil, List.length_set, List.length_map, List.length_append] <;> omega) | fail)) only [go_sem, r1, r7, r9, r10, r11, hll, e5, hb3, hb4, hb5]
    refine ⟨m - 1, by omega, _, i + 1, if d < n then n else d, rfl, by omega, by omega, fun lim h0 => ?_, ?_, ?_, ?_, ?_, ?_⟩
    · rw [htk, okL_snoc, Bool.and_eq_true, ← hd lim h0, decide_eq_true_eq]
      split <;> omega
    · simp (maxSteps := 1000000) (disch := (first | omega | (simp only [nx_alloc, nx_upd, len_cons, len_nil, List.length_set, List.length_map, List.length_append] <;> omega) | fail)) only [go_sem, r1]
    · simp (maxSteps := 1000000) (disch := (first | omega | (simp only [nx_alloc, nx_upd, len_cons, len_nil, List.length_set, List.length_map, List.length_append] <;> omega) | fail)) only [go_sem, r7]
    · simp (maxSteps := 1000000) (disch := (first | omega | (simp only [nx_alloc, nx_upd, len_cons, len_nil, List.length_set, List.length_map, List.length_append] <;> omega) | fail)) only [go_sem, r9]
    · simp (maxSteps := 1000000) (disch := (first | omega | (simp only [nx_alloc, nx_upd, len_cons, len_nil, List.length_set, List.length_map, List.length_append] <;> omega) | fail)) only [go_sem]
    · simp (maxSteps := 1000000) (disch := (first | omega | (simp only [nx_alloc, nx_upd, len_cons, len_nil, List.length_set, List.length_map, List.length_append] <;> omega) | fail)) only [go_sem]
      rfl
  have e5 : ¬ ((i : Int) < ((grownP g).length : Nat)) := by omega
  rw [hend3, List.take_length] at hd
  have hmL := hd L (by omega)
  by_cases hle : d ≤ (L : Int)
  · simp (maxSteps := 1000000) (disch := (first | omega | (simp only [nx_alloc, nx_upd, len_cons, len_nil, List.length_set, List.length_map, List.length_append] <;> omega) | fail)) only [go_sem, r1, r7, r9, r10, r11, hll, e5, hle, Try.results12]
    refine gc_here ⟨lv, by rw [hP], ob.trans o2, ?_⟩
    have : grownP g = lenF 20 f L := by
      rw [← hlf]
      cases k with
      | zero => rfl
      | succ k => rw [lenF, if_pos (hmL.1 hle)]
    rw [hP, ← this]
    exact rl.keep (Nat.le_refl _) (fun _ _ _ _ => rfl) ob.next
  have hnk : ¬ okL (grownP g) L = true := fun h => hle (hmL.2 h)
  obtain ⟨k', rfl⟩ : ∃ k', k = k' + 1 := by
    cases k with
    | zero => exact absurd (hko.fin (by omega)) hnk
    | succ k => exact ⟨k, rfl⟩
  rw [lenF, if_neg hnk] at hlf
  have rg2 := rg.over o2
  have hlv : ∀ X, lenU X (some (.slice 3)) fv = some (.int .i64 g.length, X) := View.lenX (InRow.of rg).view
  have hg0 : 0 < g.length := by
    rcases Nat.eq_zero_or_pos g.length with h | h
    · exfalso; apply hnk
      rw [List.eq_nil_of_length_eq_zero ((grownP_len g).trans h)]; rfl
    · exact h
  obtain ⟨fb, sp, hfv, hb1, hb2, hb3, hb4, hb5⟩ := row_block rg2 hg0
  simp (maxSteps := 1000000) (disch := (first | omega | (simp only [nx_alloc, nx_upd, len_cons, len_nil, List.length_set, List.length_map, List.length_append] <;> omega) | fail)) only [go_sem, r1, r7, r9, r10, r11, hll, e5, hle]
  refine aw_loop (fun m x D => ∃ (ρ : Nat → Value) (i : Nat), x = E 99 ρ [] ∧ m = g.length - i ∧ i ≤ g.length ∧ D = C.upd fb (intB (hvL i g)) ∧ ρ 1 = .int .i64 L ∧ ρ 7 = fv ∧ ρ 12 = .int .i64 i) g.length
    ⟨_, 0, rfl, rfl, Nat.zero_le _, (upd_id hb3).symm, by first | rfl | exact r1, by first | rfl | exact r7, rfl⟩ ?_
  clear r1 r7 r9 r10 r11 hm hi
  rintro m x D ⟨ρ, i, rfl, hm, hi, hC, r1, r7, r12⟩
  refine aw_of ?_
  have gC : D.get fb = intB (hvL i g) := by rw [hC]; exact get_upd_same ..
  by_cases hend2 : i = g.length
  · have e4 : ¬ ((i : Int) < (g.length : Nat)) := by omega
    rw [hend2, hvL_all] at hC gC
    simp (maxSteps := 1000000) (disch := (first | omega | (simp only [nx_alloc, nx_upd, len_cons, len_nil, List.length_set, List.length_map, List.length_append] <;> omega) | fail)) only [go_sem, r1, r7, r12, hlv, e4]
    refine ⟨k', by omega, _, halfL g, fv, rfl, ?_, ?_, ?_, hko.half, ?_, hlf, ?_, ?_⟩
    · rw [hC]; exact (ob.trans o2).upd hb1 _
    · exact hb5 D (halfL g) (List.length_map _) (by rw [hC]; exact hb2) gC
    · rw [← hgl]; exact List.length_map _
    · intro x hx
      obtain ⟨y, hy, rfl⟩ := List.mem_map.1 hx
      exact Int.le_trans (half_pos (hko.nn y hy)).2.2 (hg20 y hy)
    · simp (maxSteps := 1000000) (disch := (first | omega | (simp only [nx_alloc, nx_upd, len_cons, len_nil, List.length_set, List.length_map, List.length_append] <;> omega) | fail)) only [go_sem, r1]
    · simp (maxSteps := 1000000) (disch := (first | omega | (simp only [nx_alloc, nx_upd, len_cons, len_nil, List.length_set, List.length_map, List.length_append] <;> omega) | fail)) only [go_sem, r7]
  have e4 : (i : Int) < (g.length : Nat) := by omega
  obtain ⟨n, hx⟩ : ∃ x, g[i]? = some x := ⟨_, List.getElem?_eq_getElem (by omega)⟩
  obtain ⟨s1, s2⟩ := hvL_step hx
  have hn0 := hko.nn n (List.mem_of_getElem? hx)
  have hn1 := hg20 n (List.mem_of_getElem? hx)
  have htd : (n + 1).tdiv 2 = half n := by rw [Int.tdiv_eq_ediv_of_nonneg (by omega)]; rfl
  have hix := hb4 i (by omega)
  have s1' : ((hvL i g).map (Value.int .i64 ·))[i]? = some (.int .i64 n) := by rw [List.getElem?_map, s1]; rfl
  have hst := map_set (hvL i g) i (half n)
  rw [s2] at hst
  have hvl := hvL_len i g
  have hhf := half_pos hn0
  have hwr : IntKind.i64.wrap (half n) = half n := wrap_small hhf.1 (by omega)
  unfold intB at gC
  by_cases hnp : n > 0
  · simp (maxSteps := 1000000) (disch := (first | omega | (simp only [nx_alloc, nx_upd, len_cons, len_nil, List.length_set, List.length_map, List.length_append] <;> omega) | fail)) only [go_sem, r1, r7, r12, hlv, e4, hix, gC, s1', hnp, htd, hwr, hst]
    refine ⟨m - 1, by omega, _, i + 1, rfl, by omega, by omega, ?_, ?_, ?_, ?_⟩
    · rw [hC, upd_upd]
    · simp (maxSteps := 1000000) (disch := (first | omega | (simp only [nx_alloc, nx_upd, len_cons, len_nil, List.length_set, List.length_map, List.length_append] <;> omega) | fail)) only [go_sem, r1]
    · simp (maxSteps := 1000000) (disch := (first | omega | (simp only [nx_alloc, nx_upd, len_cons, len_nil, List.length_set, List.length_map, List.length_append] <;> omega) | fail)) only [go_sem, r7]
    · simp (maxSteps := 1000000) (disch := (first | omega | (simp only [nx_alloc, nx_upd, len_cons, len_nil, List.length_set, List.length_map, List.length_append] <;> omega) | fail)) only [go_sem]
      rfl
  · have hn00 : n = 0 := by omega
    simp (maxSteps := 1000000) (disch := (first | omega | (simp only [nx_alloc, nx_upd, len_cons, len_nil, List.length_set, List.length_map, List.length_append] <;> omega) | fail)) only [go_sem, r1, r7, r12, hlv, e4, hix, gC, s1', hnp]
    refine ⟨m - 1, by omega, _, i + 1, rfl, by omega, by omega, ?_, ?_, ?_, ?_⟩
    · rw [hC]
      have : hvL (i + 1) g = hvL i g := by
        rw [← s2, hn00]
        have h0 : (hvL i g)[i]? = some 0 := by rw [s1, hn00]
        have hh : half 0 = 0 := rfl
        rw [hh]
        refine List.ext_getElem? fun j => ?_
        rw [List.getElem?_set]
        split
        · rename_i e; rw [← e, h0, if_pos (by omega)]
        · rfl
      rw [this]
    · simp (maxSteps := 1000000) (disch := (first | omega | (simp only [nx_alloc, nx_upd, len_cons, len_nil, List.length_set, List.length_map, List.length_append] <;> omega) | fail)) only [go_sem, r1]
    · simp (maxSteps := 1000000) (disch := (first | omega | (simp only [nx_alloc, nx_upd, len_cons, len_nil, List.length_set, List.length_map, List.length_append] <;> omega) | fail)) only [go_sem, r7]
    · simp (maxSteps := 1000000) (disch := (first | omega | (simp only [nx_alloc, nx_upd, len_cons, len_nil, List.length_set, List.length_map, List.length_append] <;> omega) | fail)) only [go_sem]
      rfl
end Go.Fw
