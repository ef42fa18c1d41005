import Derived.Test.YtpjacnialnlilaaFwPre22
set_option linter.unusedSimpArgs false
set_option linter.unusedVariables false
set_option maxRecDepth 4000
namespace Go.Fw
open Go.Proofs Go.RowKit
theorem Try.enters4 : Enters Try.prog 4 := enters_of Try.func4 rfl (by kernel_rfl)
set_option maxHeartbeats 8000000 in
theorem order_walk (w0 : World) (A : St) (v : Value) (l : List Int) (hv : View A 1 (l.flatMap u16E) l.length v) (hok : ∀ x ∈ l, u16Ok x) : ACalls Try.prog w0 4 #[v] A (fin (.bool true) A) := by
  refine call_E (l := [v]) Try.enters4 Try.func4 rfl (Nat.le_of_ble_eq_true rfl) fun hw hbd => ?_
  have hlv : ∀ X, lenU X (some (.slice 30)) v = some (.int .i64 l.length, X) := View.lenX hv
  by_cases hbig : ((l.length : Nat) : Int) > 100
  · simp (maxSteps := 1000000) (disch := (first | omega | (simp only [nx_alloc, nx_upd, len_cons, len_nil, List.length_set, List.length_map, List.length_append] <;> omega) | fail)) only [go_sem, Try.ntmps4, Try.results4, hlv, hbig]
    refine call1 (shown_ok w0 _) ?_
    simp (maxSteps := 1000000) (disch := (first | omega | (simp only [nx_alloc, nx_upd, len_cons, len_nil, List.length_set, List.length_map, List.length_append] <;> omega) | fail)) only [go_sem, Try.results4]
    exact gc_fin' hw (Over.refl _) rfl (.bool _)
  simp (maxSteps := 1000000) (disch := (first | omega | (simp only [nx_alloc, nx_upd, len_cons, len_nil, List.length_set, List.length_map, List.length_append] <;> omega) | fail)) only [go_sem, Try.ntmps4, Try.results4, hlv, hbig]
  refine call1 (shown_ok w0 _) ?_
  simp (maxSteps := 1000000) (disch := (first | omega | (simp only [nx_alloc, nx_upd, len_cons, len_nil, List.length_set, List.length_map, List.length_append] <;> omega) | fail)) only [go_sem]
  obtain ⟨f, hfd⟩ : ∃ f, f = l.map fun x => x.tmod 9 := ⟨_, rfl⟩
  have hfl : f.length = l.length := by rw [hfd, List.length_map]
  have hf8 : ∀ x ∈ f, 0 ≤ x ∧ x ≤ 8 := fun x hx => by
    rw [hfd] at hx
    obtain ⟨y, hy, rfl⟩ := List.mem_map.1 hx
    have h0 := (hok y hy).1
    have h1 := Int.tmod_nonneg 9 h0
    have h2 := Int.tmod_lt_of_pos y (show (0 : Int) < 9 by decide)
    omega
  refine aw_loop (fun k x A' => ∃ (ρ : Nat → Value) (i : Nat) (fv : Value), x = E 86 ρ [] ∧ Over A A' ∧ Row A' 3 1 A.next ((f.take i).map (Value.int .i64 ·)) (f.take i).length fv ∧ k = l.length - i ∧ i ≤ l.length ∧ ρ 0 = v ∧ ρ 3 = fv ∧ ρ 4 = .int .i64 i) l.length
    ⟨_, 0, _, rfl, (Over.refl A).alloc _, ⟨rfl, .inr ⟨A.next, none, rfl, .inl rfl, Nat.le_refl _, by rw [nx_alloc]; omega, get_alloc_same ..⟩⟩, rfl, Nat.zero_le _, rfl, rfl, rfl⟩ ?_
  rintro k x A' ⟨ρ, i, fv, rfl, oA, rf, hk, hi, r0, r3, r4⟩
  refine aw_of ?_
  have htk : (f.take i).length ≤ i := List.length_take_le ..
  by_cases hend : i = l.length
  rotate_left
  · have e1 : (i : Int) < (l.length : Int) := by omega
    obtain ⟨n, hx⟩ : ∃ x, l[i]? = some x := ⟨_, List.getElem?_eq_getElem (by omega)⟩
    obtain ⟨pb, po, hb1, hb2, hb3, cells, e', md, hb4, hb5⟩ := View.at1 (P := Try.prog) (e := 30) (View.over hv oA) Try.sz30 (u16E_at _ i n hx)
    have hfx : f[i]? = some (n.tmod 9) := by rw [hfd, List.getElem?_map, hx]; rfl
    have htk2 : f.take (i + 1) = f.take i ++ [n.tmod 9] := by rw [List.take_add_one, hfx]; rfl
    have hn := hok n (List.mem_of_getElem? hx)
    have hn0 := hn.1
    have hn1 := hn.2
    have h8 := hf8 _ (List.mem_of_getElem? hfx)
    have hwr : IntKind.i64.wrap (n.tmod 9) = n.tmod 9 := wrap_small h8.1 (by omega)
    have hwn : IntKind.i64.wrap n = n := wrap_small hn0 (by omega)
    obtain ⟨v', A2, q1, q2, q3, q4, q5⟩ := int_push rf (n.tmod 9) oA.next (by omega)
    rw [← htk2] at q2
    have oA2 : Over A A2 := ⟨by have := oA.next; omega, fun b hb => (q5 b (by have := oA.next; omega) (rf.ne hb)).trans (oA.get b hb)⟩
    simp (maxSteps := 1000000) (disch := (first | omega | (simp only [nx_alloc, nx_upd, len_cons, len_nil, List.length_set, List.length_map, List.length_append] <;> omega) | fail)) only [go_sem, r0, r3, r4, hlv, e1, hb3, hb4, hb5, hwn, hwr, q1]
    refine ⟨k - 1, by omega, _, i + 1, v', rfl, oA2, q2, by omega, by omega, ?_, ?_, ?_⟩
    · simp (maxSteps := 1000000) (disch := (first | omega | (simp only [nx_alloc, nx_upd, len_cons, len_nil, List.length_set, List.length_map, List.length_append] <;> omega) | fail)) only [go_sem, r0]
    · simp (maxSteps := 1000000) (disch := (first | omega | (simp only [nx_alloc, nx_upd, len_cons, len_nil, List.length_set, List.length_map, List.length_append] <;> omega) | fail)) only [go_sem]
    · simp (maxSteps := 1000000) (disch := (first | omega | (simp only [nx_alloc, nx_upd, len_cons, len_nil, List.length_set, List.length_map, List.length_append] <;> omega) | fail)) only [go_sem]
      rfl
  have e1 : ¬ ((i : Int) < (l.length : Int)) := by omega
  rw [show f.take i = f from List.take_of_length_le (by omega)] at rf
  have hus := usedN_le f
  have hP := lengthsP_of (f := f) (L := 15) (fun x hx => by have := hf8 x hx; omega) (by omega) (by decide) (by decide) (by have : (2 : Nat) ^ 15 = 32768 := rfl; omega)
  have hlen15 := lenF_len 20 f ((15 : Nat) : Int)
  have hlo := fun (i k : Nat) (x y p q : Int) => lenF_order hf8 (by omega) (i := i) (k := k) (x := x) (y := y) (p := p) (q := q)
  have hLo := lengths_ok w0 A' f fv 15 (InRow.of rf).view (by omega)
  rw [show lengthsP f 15 = (lenF 20 f 15, 0) from hP] at hLo
  rw [show lenF 20 f ((15 : Nat) : Int) = lenF 20 f 15 from rfl] at hlen15
  generalize lenF 20 f 15 = g at hlo hLo hlen15
  simp (maxSteps := 1000000) (disch := (first | omega | (simp only [nx_alloc, nx_upd, len_cons, len_nil, List.length_set, List.length_map, List.length_append] <;> omega) | fail)) only [go_sem, r0, r3, r4, hlv, e1]
  refine hLo.mono ?_
  rintro e A1 ⟨gv, rfl, o1, rg⟩
  have hlg : ∀ X, lenU X (some (.slice 3)) gv = some (.int .i64 g.length, X) := View.lenX rg.view
  have hlf : ∀ X, lenU X (some (.slice 3)) fv = some (.int .i64 f.length, X) := View.lenX (InRow.of rf).view
  rw [hlen15] at hlg
  have vf : InView A1 f fv := View.over (InRow.of rf).view o1
  have vg : InView A1 g gv := rg.view
  simp (maxSteps := 1000000) (disch := (first | omega | (simp only [nx_alloc, nx_upd, len_cons, len_nil, List.length_set, List.length_map, List.length_append] <;> omega) | fail)) only [go_sem, r3, hlg, hlf]
  refine aw_loop (fun k x B => ∃ (ρ : Nat → Value) (i : Nat), x = E 86 ρ [] ∧ B = A1 ∧ k = f.length - i ∧ i ≤ f.length ∧ ρ 3 = fv ∧ ρ 5 = gv ∧ ρ 7 = .int .i64 i) f.length
    ⟨_, 0, rfl, rfl, rfl, Nat.zero_le _, by first | rfl | exact r3, rfl, rfl⟩ ?_
  clear r0 r3 r4 e1 hend
  rintro k x B ⟨ρ, i, rfl, rfl, hk, hi, r3, r5, r7⟩
  refine aw_of ?_
  by_cases hend : i = f.length
  · have e1 : ¬ ((i : Int) < (f.length : Int)) := by omega
    simp (maxSteps := 1000000) (disch := (first | omega | (simp only [nx_alloc, nx_upd, len_cons, len_nil, List.length_set, List.length_map, List.length_append] <;> omega) | fail)) only [go_sem, r3, r5, r7, hlf, e1, Try.results4]
    exact gc_fin' hw (oA.trans o1) rfl (.bool _)
  have e1 : ((i : Int) < (f.length : Int)) := by omega
  simp (maxSteps := 1000000) (disch := (first | omega | (simp only [nx_alloc, nx_upd, len_cons, len_nil, List.length_set, List.length_map, List.length_append] <;> omega) | fail)) only [go_sem, r3, r5, r7, hlf, e1]
  refine aw_loop (fun m x C => ∃ (ρ : Nat → Value) (j : Nat), x = E 86 ρ [] ∧ C = B ∧ m = f.length - j ∧ j ≤ f.length ∧ ρ 3 = fv ∧ ρ 5 = gv ∧ ρ 7 = .int .i64 i ∧ ρ 8 = .int .i64 j) f.length
    ⟨_, 0, rfl, rfl, rfl, Nat.zero_le _, by first | rfl | exact r3, by first | rfl | exact r5, by first | rfl | exact r7, rfl⟩ ?_
  clear r3 r5 r7
  rintro m x C ⟨ρ, j, rfl, rfl, hm, hj, r3, r5, r7, r8⟩
  refine aw_of ?_
  by_cases hend2 : j = f.length
  · have e2 : ¬ ((j : Int) < (f.length : Int)) := by omega
    simp (maxSteps := 1000000) (disch := (first | omega | (simp only [nx_alloc, nx_upd, len_cons, len_nil, List.length_set, List.length_map, List.length_append] <;> omega) | fail)) only [go_sem, r3, r5, r7, r8, hlf, e2]
    refine ⟨k - 1, by omega, _, i + 1, rfl, by omega, by omega, ?_, ?_, ?_⟩
    · simp (maxSteps := 1000000) (disch := (first | omega | (simp only [nx_alloc, nx_upd, len_cons, len_nil, List.length_set, List.length_map, List.length_append] <;> omega) | fail)) only [go_sem, r3]
    · simp (maxSteps := 1000000) (disch := (first | omega | (simp only [nx_alloc, nx_upd, len_cons, len_nil, List.length_set, List.length_map, List.length_append] <;> omega) | fail)) only [go_sem, r5]
    · simp (maxSteps := 1000000) (disch := (first | omega | (simp only [nx_alloc, nx_upd, len_cons, len_nil, List.length_set, List.length_map, List.length_append] <;> omega) | fail)) only [go_sem]
      rfl
  have e2 : ((j : Int) < (f.length : Int)) := by omega
  obtain ⟨a, hfa⟩ : ∃ x, f[i]? = some x := ⟨_, List.getElem?_eq_getElem (by omega)⟩
  obtain ⟨b, hfb⟩ : ∃ x, f[j]? = some x := ⟨_, List.getElem?_eq_getElem (by omega)⟩
  obtain ⟨c, hgc⟩ : ∃ x, g[i]? = some x := ⟨_, List.getElem?_eq_getElem (by omega)⟩
  obtain ⟨d, hgd⟩ : ∃ x, g[j]? = some x := ⟨_, List.getElem?_eq_getElem (by omega)⟩
  obtain ⟨_, _, _, _, x3, _, _, _, x4, x5⟩ := View.at1 (P := Try.prog) (e := 3) vf Try.sz3 (i64E_at _ i a hfa)
  obtain ⟨_, _, _, _, y3, _, _, _, y4, y5⟩ := View.at1 (P := Try.prog) (e := 3) vf Try.sz3 (i64E_at _ j b hfb)
  obtain ⟨_, _, _, _, z3, _, _, _, z4, z5⟩ := View.at1 (P := Try.prog) (e := 3) vg Try.sz3 (i64E_at _ i c hgc)
  obtain ⟨_, _, _, _, t3, _, _, _, t4, t5⟩ := View.at1 (P := Try.prog) (e := 3) vg Try.sz3 (i64E_at _ j d hgd)
  have fin' : ∀ (ρ' : Nat → Value), ρ' 3 = fv → ρ' 5 = gv → ρ' 7 = .int .i64 i → ρ' 8 = .int .i64 ((j : Int) + 1) → ∃ m', m' < m ∧ ∃ (ρ : Nat → Value) (j : Nat), E 86 ρ' [] = E 86 ρ [] ∧ C = C ∧ m' = f.length - j ∧ j ≤ f.length ∧ ρ 3 = fv ∧ ρ 5 = gv ∧ ρ 7 = .int .i64 i ∧ ρ 8 = .int .i64 j := fun ρ' a1 a2 a3 a4 => ⟨m - 1, by omega, ρ', j + 1, rfl, rfl, by omega, by omega, a1, a2, a3, a4⟩
  by_cases h1 : a > b
  · by_cases h2 : b > 0
    · have h3 : ¬ c > d := by have := hlo i j a b c d hfa hfb h1 h2 hgc hgd; omega
      simp (maxSteps := 1000000) (disch := (first | omega | (simp only [nx_alloc, nx_upd, len_cons, len_nil, List.length_set, List.length_map, List.length_append] <;> omega) | fail)) only [go_sem, r3, r5, r7, r8, hlf, e2]
      refine aw_draw (by kernel_rfl) ?_
      simp (maxSteps := 1000000) (disch := (first | omega | (simp only [nx_alloc, nx_upd, len_cons, len_nil, List.length_set, List.length_map, List.length_append] <;> omega) | fail)) only [go_sem, r3, r5, r7, r8, x3, x4, x5, y3, y4, y5, z3, z4, z5, t3, t4, t5, h1, h2, h3]
      refine ⟨m - 1, by omega, _, j + 1, rfl, by omega, by omega, ?_, ?_, ?_, ?_⟩
      · simp (maxSteps := 1000000) (disch := (first | omega | (simp only [nx_alloc, nx_upd, len_cons, len_nil, List.length_set, List.length_map, List.length_append] <;> omega) | fail)) only [go_sem, r3]
      · simp (maxSteps := 1000000) (disch := (first | omega | (simp only [nx_alloc, nx_upd, len_cons, len_nil, List.length_set, List.length_map, List.length_append] <;> omega) | fail)) only [go_sem, r5]
      · simp (maxSteps := 1000000) (disch := (first | omega | (simp only [nx_alloc, nx_upd, len_cons, len_nil, List.length_set, List.length_map, List.length_append] <;> omega) | fail)) only [go_sem, r7]
      · simp (maxSteps := 1000000) (disch := (first | omega | (simp only [nx_alloc, nx_upd, len_cons, len_nil, List.length_set, List.length_map, List.length_append] <;> omega) | fail)) only [go_sem]
        rfl
    · simp (maxSteps := 1000000) (disch := (first | omega | (simp only [nx_alloc, nx_upd, len_cons, len_nil, List.length_set, List.length_map, List.length_append] <;> omega) | fail)) only [go_sem, r3, r5, r7, r8, hlf, e2]
      refine aw_draw (by kernel_rfl) ?_
      simp (maxSteps := 1000000) (disch := (first | omega | (simp only [nx_alloc, nx_upd, len_cons, len_nil, List.length_set, List.length_map, List.length_append] <;> omega) | fail)) only [go_sem, r3, r5, r7, r8, x3, x4, x5, y3, y4, y5, z3, z4, z5, t3, t4, t5, h1, h2]
      refine ⟨m - 1, by omega, _, j + 1, rfl, by omega, by omega, ?_, ?_, ?_, ?_⟩
      · simp (maxSteps := 1000000) (disch := (first | omega | (simp only [nx_alloc, nx_upd, len_cons, len_nil, List.length_set, List.length_map, List.length_append] <;> omega) | fail)) only [go_sem, r3]
      · simp (maxSteps := 1000000) (disch := (first | omega | (simp only [nx_alloc, nx_upd, len_cons, len_nil, List.length_set, List.length_map, List.length_append] <;> omega) | fail)) only [go_sem, r5]
      · simp (maxSteps := 1000000) (disch := (first | omega | (simp only [nx_alloc, nx_upd, len_cons, len_nil, List.length_set, List.length_map, List.length_append] <;> omega) | fail)) only [go_sem, r7]
      · simp (maxSteps := 1000000) (disch := (first | omega | (simp only [nx_alloc, nx_upd, len_cons, len_nil, List.length_set, List.length_map, List.length_append] <;> omega) | fail)) only [go_sem]
        rfl
  · simp (maxSteps := 1000000) (disch := (first | omega | (simp only [nx_alloc, nx_upd, len_cons, len_nil, List.length_set, List.length_map, List.length_append] <;> omega) | fail)) only [go_sem, r3, r5, r7, r8, hlf, e2]
    refine aw_draw (by kernel_rfl) ?_
    simp (maxSteps := 1000000) (disch := (first | omega | (simp only [nx_alloc, nx_upd, len_cons, len_nil, List.length_set, List.length_map, List.length_append] <;> omega) | fail)) only [go_sem, r3, r5, r7, r8, x3, x4, x5, y3, y4, y5, z3, z4, z5, t3, t4, t5, h1]
    refine ⟨m - 1, by omega, _, j + 1, rfl, by omega, by omega, ?_, ?_, ?_, ?_⟩
    · simp (maxSteps := 1000000) (disch := (first | omega | (simp only [nx_alloc, nx_upd, len_cons, len_nil, List.length_set, List.length_map, List.length_append] <;> omega) | fail)) only [go_sem, r3]
    · simp (maxSteps := 1000000) (disch := (first | omega | (simp only [nx_alloc, nx_upd, len_cons, len_nil, List.length_set, List.length_map, List.length_append] <;> omega) | fail)) only [go_sem, r5]
    · simp (maxSteps := 1000000) (disch := (first | omega | (simp only [nx_alloc, nx_upd, len_cons, len_nil, List.length_set, List.length_map, List.length_append] <;> omega) | fail)) only [go_sem, r7]
    · simp (maxSteps := 1000000) (disch := (first | omega | (simp only [nx_alloc, nx_upd, len_cons, len_nil, List.length_set, List.length_map, List.length_append] <;> omega) | fail)) only [go_sem]
      rfl
end Go.Fw
