import Derived.Test.YtpjacnialnlilaaFwPre35
set_option linter.unusedSimpArgs false
set_option linter.unusedVariables false
set_option maxRecDepth 4000
namespace Go.Fw
open Go.Proofs Go.RowKit
theorem Try.enters6 : Enters Try.prog 6 := enters_of Try.func6 rfl (by kernel_rfl)
set_option maxHeartbeats 8000000 in
theorem whole_walk (w0 : World) (A : St) (v : Value) (l : List Int) (b : Int) (hv : View A 1 (l.flatMap u16E) l.length v) (hok : ∀ x ∈ l, u16Ok x) (hb : 0 ≤ b ∧ b ≤ 255) : ACalls Try.prog w0 6 #[v, .int .u8 b] A (fin (.bool true) A) := by
  refine call_E (l := [v, .int .u8 b]) Try.enters6 Try.func6 rfl (Nat.le_of_ble_eq_true rfl) fun hw hbd => ?_
  have hlv : ∀ X, lenU X (some (.slice 30)) v = some (.int .i64 l.length, X) := View.lenX hv
  by_cases hbig : ((l.length : Nat) : Int) > 300
  · simp (maxSteps := 1000000) (disch := (first | omega | (simp only [nx_alloc, nx_upd, len_cons, len_nil, List.length_set, List.length_map, List.length_append] <;> omega) | fail)) only [go_sem, Try.ntmps6, Try.results6, hlv, hbig]
    refine call1 (shown_ok w0 _) ?_
    simp (maxSteps := 1000000) (disch := (first | omega | (simp only [nx_alloc, nx_upd, len_cons, len_nil, List.length_set, List.length_map, List.length_append] <;> omega) | fail)) only [go_sem, Try.results6]
    exact gc_fin' hw (Over.refl _) rfl (.bool _)
  simp (maxSteps := 1000000) (disch := (first | omega | (simp only [nx_alloc, nx_upd, len_cons, len_nil, List.length_set, List.length_map, List.length_append] <;> omega) | fail)) only [go_sem, Try.ntmps6, Try.results6, hlv, hbig]
  refine call1 (shown_ok w0 _) ?_
  simp (maxSteps := 1000000) (disch := (first | omega | (simp only [nx_alloc, nx_upd, len_cons, len_nil, List.length_set, List.length_map, List.length_append] <;> omega) | fail)) only [go_sem]
  refine aw_loop (fun k x A' => ∃ (ρ : Nat → Value) (i : Nat) (fv : Value), x = E 126 ρ [] ∧ Over A A' ∧ Row A' 3 1 A.next ((l.take i).map (Value.int .i64 ·)) (l.take i).length fv ∧ k = l.length - i ∧ i ≤ l.length ∧ ρ 0 = v ∧ ρ 1 = .int .u8 b ∧ ρ 5 = fv ∧ ρ 6 = .int .i64 (usedN (l.take i) : Nat) ∧ ρ 7 = .int .i64 i) l.length
    ⟨_, 0, _, rfl, (Over.refl A).alloc _, ⟨rfl, .inr ⟨A.next, none, rfl, .inl rfl, Nat.le_refl _, by rw [nx_alloc]; omega, get_alloc_same ..⟩⟩, rfl, Nat.zero_le _, rfl, rfl, rfl, rfl, rfl⟩ ?_
  rintro k x A' ⟨ρ, i, fv, rfl, oA, rf, hk, hi, r0, r1, r5, r6, r7⟩
  refine aw_of ?_
  have htk : (l.take i).length ≤ i := List.length_take_le ..
  have hul := usedN_le (l.take i)
  by_cases hend : i = l.length
  rotate_left
  · have e1 : (i : Int) < (l.length : Int) := by omega
    obtain ⟨n, hx⟩ : ∃ x, l[i]? = some x := ⟨_, List.getElem?_eq_getElem (by omega)⟩
    obtain ⟨pb, po, hb1, hb2, hb3, cells, e', md, hb4, hb5⟩ := View.at1 (P := Try.prog) (e := 30) hv Try.sz30 (u16E_at _ i n hx)
    have hb4' := (oA.get pb hb1).trans hb4
    have htk2 : l.take (i + 1) = l.take i ++ [n] := by rw [List.take_add_one, hx]; rfl
    have hn := hok n (List.mem_of_getElem? hx)
    have hn0 := hn.1
    have hn1 := hn.2
    have hwn : IntKind.i64.wrap n = n := wrap_small hn0 (by omega)
    obtain ⟨v', A2, q1, q2, q3, q4, q5⟩ := int_push rf n oA.next (by omega)
    have hus := usedN_snoc (l.take i) n
    rw [← htk2] at q2 hus
    have oA2 : Over A A2 := ⟨by have := oA.next; omega, fun b hb => (q5 b (by have := oA.next; omega) (rf.ne hb)).trans (oA.get b hb)⟩
    have hpb := (oA2.get pb hb1).trans hb4
    by_cases hn2 : n > 0
    · rw [if_pos hn2] at hus
      simp (maxSteps := 1000000) (disch := (first | omega | (simp only [nx_alloc, nx_upd, len_cons, len_nil, List.length_set, List.length_map, List.length_append] <;> omega) | fail)) only [go_sem, r0, r1, r5, r6, r7, hlv, e1, hb3, hb4', hb5, hwn, q1, hpb, hn2]
      refine ⟨k - 1, by omega, _, i + 1, v', rfl, oA2, q2, by omega, by omega, ?_, ?_, ?_, ?_, ?_⟩
      · simp (maxSteps := 1000000) (disch := (first | omega | (simp only [nx_alloc, nx_upd, len_cons, len_nil, List.length_set, List.length_map, List.length_append] <;> omega) | fail)) only [go_sem, r0]
      · simp (maxSteps := 1000000) (disch := (first | omega | (simp only [nx_alloc, nx_upd, len_cons, len_nil, List.length_set, List.length_map, List.length_append] <;> omega) | fail)) only [go_sem, r1]
      · simp (maxSteps := 1000000) (disch := (first | omega | (simp only [nx_alloc, nx_upd, len_cons, len_nil, List.length_set, List.length_map, List.length_append] <;> omega) | fail)) only [go_sem]
      · simp (maxSteps := 1000000) (disch := (first | omega | (simp only [nx_alloc, nx_upd, len_cons, len_nil, List.length_set, List.length_map, List.length_append] <;> omega) | fail)) only [go_sem]
        rw [hus]; rfl
      · simp (maxSteps := 1000000) (disch := (first | omega | (simp only [nx_alloc, nx_upd, len_cons, len_nil, List.length_set, List.length_map, List.length_append] <;> omega) | fail)) only [go_sem]
        rfl
    · rw [if_neg hn2] at hus
      simp (maxSteps := 1000000) (disch := (first | omega | (simp only [nx_alloc, nx_upd, len_cons, len_nil, List.length_set, List.length_map, List.length_append] <;> omega) | fail)) only [go_sem, r0, r1, r5, r6, r7, hlv, e1, hb3, hb4', hb5, hwn, q1, hpb, hn2]
      refine ⟨k - 1, by omega, _, i + 1, v', rfl, oA2, q2, by omega, by omega, ?_, ?_, ?_, ?_, ?_⟩
      · simp (maxSteps := 1000000) (disch := (first | omega | (simp only [nx_alloc, nx_upd, len_cons, len_nil, List.length_set, List.length_map, List.length_append] <;> omega) | fail)) only [go_sem, r0]
      · simp (maxSteps := 1000000) (disch := (first | omega | (simp only [nx_alloc, nx_upd, len_cons, len_nil, List.length_set, List.length_map, List.length_append] <;> omega) | fail)) only [go_sem, r1]
      · simp (maxSteps := 1000000) (disch := (first | omega | (simp only [nx_alloc, nx_upd, len_cons, len_nil, List.length_set, List.length_map, List.length_append] <;> omega) | fail)) only [go_sem]
      · simp (maxSteps := 1000000) (disch := (first | omega | (simp only [nx_alloc, nx_upd, len_cons, len_nil, List.length_set, List.length_map, List.length_append] <;> omega) | fail)) only [go_sem, r6]
        rw [hus]; rfl
      · simp (maxSteps := 1000000) (disch := (first | omega | (simp only [nx_alloc, nx_upd, len_cons, len_nil, List.length_set, List.length_map, List.length_append] <;> omega) | fail)) only [go_sem]
        rfl
  have e1 : ¬ ((i : Int) < (l.length : Int)) := by omega
  rw [show l.take i = l from List.take_of_length_le (by omega)] at rf r6 hul
  obtain ⟨L, hL⟩ : ∃ L : Nat, b.tmod 7 + 9 = (L : Int) := by
    have := Int.tmod_nonneg 7 hb.1
    exact ⟨(b.tmod 7 + 9).toNat, by omega⟩
  have hL2 : 9 ≤ L ∧ L ≤ 15 := by
    have h0 := Int.tmod_nonneg 7 hb.1
    have h1 := Int.tmod_lt_of_pos b (show (0 : Int) < 7 by decide)
    omega
  have hL3 : 9 + b.tmod 7 = (L : Int) := by omega
  have hLw : IntKind.i64.wrap (9 + b.tmod 7) = (L : Int) := by rw [hL3]; exact wrap_small (by omega) (by omega)
  have hbw : IntKind.i64.wrap b = b := wrap_small hb.1 (by omega)
  have hl0 : ∀ x ∈ l, 0 ≤ x ∧ x ≤ 1048576 := fun x hx => by have := hok x hx; unfold u16Ok at this; omega
  have h2L : 2 ^ 9 ≤ 2 ^ L := Nat.pow_le_pow_right (by decide) hL2.1
  have h29 : (2 : Nat) ^ 9 = 512 := rfl
  have hP := lengthsP_of (f := l) (L := L) hl0 (by omega) (by omega) hL2.2 (by omega)
  have hH := hok_of (f := l) (L := L) hl0 (by omega)
  obtain ⟨ho, hkr, hp⟩ := lenF_like (by omega) hL2.2 hH
  have hlen := lenF_len 20 l ((L : Nat) : Int)
  have hLo := lengths_ok w0 A' l fv L (InRow.of rf).view (by omega)
  have hcode := fun h => lenF_code (f := l) (lim := L) (by omega) hL2.2 hH (by omega) h
  have hnone := fun h => lenF_none (f := l) (lim := L) (by omega) hL2.2 hH h
  rw [hP] at hLo
  have hoL : ∀ x ∈ lenF 20 l L, x ≤ (L : Int) := fun x hx => by
    unfold okL at ho
    rw [List.all_eq_true] at ho
    simpa using ho x hx
  generalize lenF 20 l L = g at *
  simp (maxSteps := 1000000) (disch := (first | omega | (simp only [nx_alloc, nx_upd, len_cons, len_nil, List.length_set, List.length_map, List.length_append] <;> omega) | fail)) only [go_sem, r0, r1, r5, r6, r7, hlv, e1, hbw, hLw]
  refine hLo.mono ?_
  rintro e A1 ⟨gv, rfl, o1, rg⟩
  have hlg : ∀ X, lenU X (some (.slice 3)) gv = some (.int .i64 g.length, X) := View.lenX rg.view
  have hlf : ∀ X, lenU X (some (.slice 3)) fv = some (.int .i64 l.length, X) := View.lenX (InRow.of rf).view
  rw [hlen] at hlg
  have vf : InView A1 l fv := View.over (InRow.of rf).view o1
  have vg : InView A1 g gv := rg.view
  simp (maxSteps := 1000000) (disch := (first | omega | (simp only [nx_alloc, nx_upd, len_cons, len_nil, List.length_set, List.length_map, List.length_append] <;> omega) | fail)) only [go_sem, r5, r6, hlg, hlf]
  refine aw_loop (fun k x B => ∃ (ρ : Nat → Value) (i : Nat), x = E 126 ρ [] ∧ B = A1 ∧ k = l.length - i ∧ i ≤ l.length ∧ ρ 5 = fv ∧ ρ 6 = .int .i64 (usedN l : Nat) ∧ ρ 8 = .int .i64 L ∧ ρ 9 = gv ∧ ρ 11 = .int .i64 i) l.length
    ⟨_, 0, rfl, rfl, rfl, Nat.zero_le _, by first | rfl | exact r5, by first | rfl | exact r6, rfl, rfl, rfl⟩ ?_
  clear r0 r1 r5 r6 r7 e1 hend
  rintro k x B ⟨ρ, i, rfl, rfl, hk, hi, r5, r6, r8, r9, r11⟩
  refine aw_of ?_
  by_cases hend : i = l.length
  rotate_left
  · have e1 : (i : Int) < (l.length : Int) := by omega
    obtain ⟨x, hgx⟩ : ∃ x, g[i]? = some x := ⟨_, List.getElem?_eq_getElem (by omega)⟩
    obtain ⟨y, hly⟩ : ∃ x, l[i]? = some x := ⟨_, List.getElem?_eq_getElem (by omega)⟩
    obtain ⟨_, _, _, _, x3, _, _, _, x4, x5⟩ := View.at1 (P := Try.prog) (e := 3) vg Try.sz3 (i64E_at _ i x hgx)
    obtain ⟨_, _, _, _, y3, _, _, _, y4, y5⟩ := View.at1 (P := Try.prog) (e := 3) vf Try.sz3 (i64E_at _ i y hly)
    have hxy := hp i x y hgx hly
    have d1 : ¬ x < 0 := by omega
    have d2 : ¬ x > (L : Int) := by have := hoL x (List.mem_of_getElem? hgx); omega
    by_cases d3 : x = 0
    · have d4 : y = 0 := hxy.2.1 d3
      simp (maxSteps := 1000000) (disch := (first | omega | (simp only [nx_alloc, nx_upd, len_cons, len_nil, List.length_set, List.length_map, List.length_append] <;> omega) | fail)) only [go_sem, r5, r6, r8, r9, r11, hlg, e1]
      refine aw_draw (by kernel_rfl) ?_
      simp (maxSteps := 1000000) (disch := (first | omega | (simp only [nx_alloc, nx_upd, len_cons, len_nil, List.length_set, List.length_map, List.length_append] <;> omega) | fail)) only [go_sem, r5, r8, r9, r11, x3, x4, x5, y3, y4, y5, d1, d2, d3, d4]
      refine ⟨k - 1, by omega, _, i + 1, rfl, by omega, by omega, ?_, ?_, ?_, ?_, ?_⟩
      · simp (maxSteps := 1000000) (disch := (first | omega | (simp only [nx_alloc, nx_upd, len_cons, len_nil, List.length_set, List.length_map, List.length_append] <;> omega) | fail)) only [go_sem, r5]
      · simp (maxSteps := 1000000) (disch := (first | omega | (simp only [nx_alloc, nx_upd, len_cons, len_nil, List.length_set, List.length_map, List.length_append] <;> omega) | fail)) only [go_sem, r6]
      · simp (maxSteps := 1000000) (disch := (first | omega | (simp only [nx_alloc, nx_upd, len_cons, len_nil, List.length_set, List.length_map, List.length_append] <;> omega) | fail)) only [go_sem, r8]
      · simp (maxSteps := 1000000) (disch := (first | omega | (simp only [nx_alloc, nx_upd, len_cons, len_nil, List.length_set, List.length_map, List.length_append] <;> omega) | fail)) only [go_sem, r9]
      · simp (maxSteps := 1000000) (disch := (first | omega | (simp only [nx_alloc, nx_upd, len_cons, len_nil, List.length_set, List.length_map, List.length_append] <;> omega) | fail)) only [go_sem]
        rfl
    · have d4 : ¬ y = 0 := fun h => d3 (hxy.2.2 h)
      simp (maxSteps := 1000000) (disch := (first | omega | (simp only [nx_alloc, nx_upd, len_cons, len_nil, List.length_set, List.length_map, List.length_append] <;> omega) | fail)) only [go_sem, r5, r6, r8, r9, r11, hlg, e1]
      refine aw_draw (by kernel_rfl) ?_
      simp (maxSteps := 1000000) (disch := (first | omega | (simp only [nx_alloc, nx_upd, len_cons, len_nil, List.length_set, List.length_map, List.length_append] <;> omega) | fail)) only [go_sem, r5, r8, r9, r11, x3, x4, x5, y3, y4, y5, d1, d2, d3, d4]
      refine ⟨k - 1, by omega, _, i + 1, rfl, by omega, by omega, ?_, ?_, ?_, ?_, ?_⟩
      · simp (maxSteps := 1000000) (disch := (first | omega | (simp only [nx_alloc, nx_upd, len_cons, len_nil, List.length_set, List.length_map, List.length_append] <;> omega) | fail)) only [go_sem, r5]
      · simp (maxSteps := 1000000) (disch := (first | omega | (simp only [nx_alloc, nx_upd, len_cons, len_nil, List.length_set, List.length_map, List.length_append] <;> omega) | fail)) only [go_sem, r6]
      · simp (maxSteps := 1000000) (disch := (first | omega | (simp only [nx_alloc, nx_upd, len_cons, len_nil, List.length_set, List.length_map, List.length_append] <;> omega) | fail)) only [go_sem, r8]
      · simp (maxSteps := 1000000) (disch := (first | omega | (simp only [nx_alloc, nx_upd, len_cons, len_nil, List.length_set, List.length_map, List.length_append] <;> omega) | fail)) only [go_sem, r9]
      · simp (maxSteps := 1000000) (disch := (first | omega | (simp only [nx_alloc, nx_upd, len_cons, len_nil, List.length_set, List.length_map, List.length_append] <;> omega) | fail)) only [go_sem]
        rfl
  have e1 : ¬ (i : Int) < (l.length : Int) := by omega
  simp (maxSteps := 1000000) (disch := (first | omega | (simp only [nx_alloc, nx_upd, len_cons, len_nil, List.length_set, List.length_map, List.length_append] <;> omega) | fail)) only [go_sem, r5, r6, r8, r9, r11, hlg, e1]
  refine (codes_ok w0 B g gv vg (by omega)).mono ?_
  rintro e C ⟨cv, rfl, o2, rc⟩
  have vg2 : InView C g gv := View.over vg o2
  have hkc := kraft_ok w0 C g gv vg2 (by omega)
  by_cases hu0 : usedN l = 0
  · have u0 : ((usedN l : Nat) : Int) = 0 := by omega
    rw [if_pos hu0] at hkr
    have hc2 : (codesP g).2 = 70 := by unfold codesP; rw [hnone hu0]; rfl
    rw [hkr] at hkc
    simp (maxSteps := 1000000) (disch := (first | omega | (simp only [nx_alloc, nx_upd, len_cons, len_nil, List.length_set, List.length_map, List.length_append] <;> omega) | fail)) only [go_sem, r6, r9, u0, hc2]
    refine call1 hkc ?_
    simp (maxSteps := 1000000) (disch := (first | omega | (simp only [nx_alloc, nx_upd, len_cons, len_nil, List.length_set, List.length_map, List.length_append] <;> omega) | fail)) only [go_sem, hc2, Try.results6]
    exact gc_fin' hw ((oA.trans o1).trans o2) rfl (.bool _)
  have u0 : ¬ ((usedN l : Nat) : Int) = 0 := by omega
  have hc2 : (codesP g).2 = 0 := by unfold codesP; rw [hcode hu0]; rfl
  rw [if_neg hu0] at hkr
  by_cases hu1 : usedN l = 1
  · have u1 : ((usedN l : Nat) : Int) = 1 := by omega
    rw [if_pos hu1] at hkr
    rw [hkr] at hkc
    simp (maxSteps := 1000000) (disch := (first | omega | (simp only [nx_alloc, nx_upd, len_cons, len_nil, List.length_set, List.length_map, List.length_append] <;> omega) | fail)) only [go_sem, r6, r9, u1, hc2]
    refine call1 hkc ?_
    simp (maxSteps := 1000000) (disch := (first | omega | (simp only [nx_alloc, nx_upd, len_cons, len_nil, List.length_set, List.length_map, List.length_append] <;> omega) | fail)) only [go_sem, hc2, Try.results6]
    exact gc_fin' hw ((oA.trans o1).trans o2) rfl (.bool _)
  · have u1 : ¬ ((usedN l : Nat) : Int) = 1 := by omega
    rw [if_neg hu1] at hkr
    rw [hkr] at hkc
    simp (maxSteps := 1000000) (disch := (first | omega | (simp only [nx_alloc, nx_upd, len_cons, len_nil, List.length_set, List.length_map, List.length_append] <;> omega) | fail)) only [go_sem, r6, r9, u0, u1, hc2]
    refine call1 hkc ?_
    simp (maxSteps := 1000000) (disch := (first | omega | (simp only [nx_alloc, nx_upd, len_cons, len_nil, List.length_set, List.length_map, List.length_append] <;> omega) | fail)) only [go_sem, hc2, Try.results6]
    exact gc_fin' hw ((oA.trans o1).trans o2) rfl (.bool _)
end Go.Fw
