import Derived.Test.YtpjacnialnlilaaFwPre35
set_option linter.unusedSimpArgs false
set_option linter.unusedVariables false
set_option maxRecDepth 4000
namespace Go.Fw
open Go.Proofs Go.RowKit
theorem Try.enters7 : Enters Try.prog 7 := enters_of Try.func7 rfl (by kernel_rfl)
set_option maxHeartbeats 8000000 in
theorem free_walk (w0 : World) (A : St) (v : Value) (l : List Int) (hv : View A 1 (l.flatMap u16E) l.length v) (hok : ∀ x ∈ l, u16Ok x) : ACalls Try.prog w0 7 #[v] A (fin (.bool true) A) := by
  refine call_E (l := [v]) Try.enters7 Try.func7 rfl (Nat.le_of_ble_eq_true rfl) fun hw hbd => ?_
  have hlv : ∀ X, lenU X (some (.slice 30)) v = some (.int .i64 l.length, X) := View.lenX hv
  by_cases hbig : ((l.length : Nat) : Int) > 100
  · simp (maxSteps := 1000000) (disch := (first | omega | (simp only [nx_alloc, nx_upd, len_cons, len_nil, List.length_set, List.length_map, List.length_append] <;> omega) | fail)) only [go_sem, Try.ntmps7, Try.results7, hlv, hbig]
    refine call1 (shown_ok w0 _) ?_
    simp (maxSteps := 1000000) (disch := (first | omega | (simp only [nx_alloc, nx_upd, len_cons, len_nil, List.length_set, List.length_map, List.length_append] <;> omega) | fail)) only [go_sem, Try.results7]
    exact gc_fin' hw (Over.refl _) rfl (.bool _)
  simp (maxSteps := 1000000) (disch := (first | omega | (simp only [nx_alloc, nx_upd, len_cons, len_nil, List.length_set, List.length_map, List.length_append] <;> omega) | fail)) only [go_sem, Try.ntmps7, Try.results7, hlv, hbig]
  refine call1 (shown_ok w0 _) ?_
  simp (maxSteps := 1000000) (disch := (first | omega | (simp only [nx_alloc, nx_upd, len_cons, len_nil, List.length_set, List.length_map, List.length_append] <;> omega) | fail)) only [go_sem]
  obtain ⟨f, hfd⟩ : ∃ f, f = l.map fun x => x + 1 := ⟨_, rfl⟩
  have hfl : f.length = l.length := by rw [hfd, List.length_map]
  have hf8 : ∀ x ∈ f, 1 ≤ x ∧ x ≤ 65536 := fun x hx => by
    rw [hfd] at hx
    obtain ⟨y, hy, rfl⟩ := List.mem_map.1 hx
    have := hok y hy
    unfold u16Ok at this
    omega
  refine aw_loop (fun k x A' => ∃ (ρ : Nat → Value) (i : Nat) (fv : Value), x = E 134 ρ [] ∧ Over A A' ∧ Row A' 3 1 A.next ((f.take i).map (Value.int .i64 ·)) (f.take i).length fv ∧ k = l.length - i ∧ i ≤ l.length ∧ ρ 0 = v ∧ ρ 3 = fv ∧ ρ 4 = .int .i64 i) l.length
    ⟨_, 0, _, rfl, (Over.refl A).alloc _, ⟨rfl, .inr ⟨A.next, none, rfl, .inl rfl, Nat.le_refl _, by rw [nx_alloc]; omega, get_alloc_same ..⟩⟩, rfl, Nat.zero_le _, rfl, rfl, rfl⟩ ?_
  rintro k x A' ⟨ρ, i, fv, rfl, oA, rf, hk, hi, r0, r3, r4⟩
  refine aw_of ?_
  have htk : (f.take i).length ≤ i := List.length_take_le ..
  by_cases hend : i = l.length
  rotate_left
  · have e1 : (i : Int) < (l.length : Int) := by omega
    obtain ⟨n, hx⟩ : ∃ x, l[i]? = some x := ⟨_, List.getElem?_eq_getElem (by omega)⟩
    obtain ⟨pb, po, hb1, hb2, hb3, cells, e', md, hb4, hb5⟩ := View.at1 (P := Try.prog) (e := 30) (View.over hv oA) Try.sz30 (u16E_at _ i n hx)
    have hfx : f[i]? = some (n + 1) := by rw [hfd, List.getElem?_map, hx]; rfl
    have htk2 : f.take (i + 1) = f.take i ++ [n + 1] := by rw [List.take_add_one, hfx]; rfl
    have hn := hok n (List.mem_of_getElem? hx)
    have hn0 := hn.1
    have hn1 := hn.2
    have hwr : IntKind.i64.wrap (n + 1) = n + 1 := wrap_small (by omega) (by omega)
    have hwn : IntKind.i64.wrap n = n := wrap_small hn0 (by omega)
    obtain ⟨v', A2, q1, q2, q3, q4, q5⟩ := int_push rf (n + 1) oA.next (by omega)
    rw [← htk2] at q2
    have oA2 : Over A A2 := ⟨by have := oA.next; omega, fun b hb => (q5 b (by have := oA.next; omega) (rf.ne hb)).trans (oA.get b hb)⟩
    simp (maxSteps := 1000000) (disch := (first | omega | (simp only [nx_alloc, nx_upd, len_cons, len_nil, List.length_set, List.length_map, List.length_append] <;> omega) | fail)) only [go_sem, r0, r3, r4, hlv, e1, hb3, hb4, hb5, hwn, hwr, q1]
    refine ⟨k - 1, by omega, _, i + 1, v', rfl, oA2, q2, by omega, by omega, ?_, ?_, ?_⟩
    · simp (maxSteps := 1000000) (disch := (first | omega | (simp only [nx_alloc, nx_upd, len_cons, len_nil, List.length_set, List.length_map, List.length_append] <;> omega) | fail)) only [go_sem, r0]
    · simp (maxSteps := 1000000) (disch := (first | omega | (simp only [nx_alloc, nx_upd, len_cons, len_nil, List.length_set, List.length_map, List.length_append] <;> omega) | fail)) only [go_sem]
    · simp (maxSteps := 1000000) (disch := (first | omega | (simp only [nx_alloc, nx_upd, len_cons, len_nil, List.length_set, List.length_map, List.length_append] <;> omega) | fail)) only [go_sem]
      rfl
  have e1 : ¬ ((i : Int) < (l.length : Int)) := by omega
  rw [show f.take i = f from List.take_of_length_le (by omega)] at rf
  have hus := usedN_le f
  have hl0 : ∀ x ∈ f, 0 ≤ x ∧ x ≤ 1048576 := fun x hx => by have := hf8 x hx; omega
  have h215 : (2 : Nat) ^ 15 = 32768 := rfl
  have hP := lengthsP_of (f := f) (L := 15) hl0 (by omega) (by decide) (by decide) (by omega)
  have hH := hok_of (f := f) (L := 15) hl0 (by omega)
  obtain ⟨ho, hkr, hp⟩ := lenF_like (by decide) (by decide) hH
  have hlen15 := lenF_len 20 f ((15 : Nat) : Int)
  have hcode := fun h => lenF_code (f := f) (lim := 15) (by decide) (by decide) hH (by omega) h
  have hLo := lengths_ok w0 A' f fv 15 (InRow.of rf).view (by omega)
  rw [show lengthsP f 15 = (lenF 20 f 15, 0) from hP] at hLo
  rw [show lenF 20 f ((15 : Nat) : Int) = lenF 20 f 15 from rfl] at hlen15 hp
  have hcode : usedN f ≠ 0 → isCode (lenF 20 f 15) = true := hcode
  clear ho hkr hP
  generalize lenF 20 f 15 = g at *
  simp (maxSteps := 1000000) (disch := (first | omega | (simp only [nx_alloc, nx_upd, len_cons, len_nil, List.length_set, List.length_map, List.length_append] <;> omega) | fail)) only [go_sem, r0, r3, r4, hlv, e1]
  refine hLo.mono ?_
  rintro e A1 ⟨gv, rfl, o1, rg⟩
  have hlg : ∀ X, lenU X (some (.slice 3)) gv = some (.int .i64 g.length, X) := View.lenX rg.view
  have hlf : ∀ X, lenU X (some (.slice 3)) fv = some (.int .i64 f.length, X) := View.lenX (InRow.of rf).view
  rw [hlen15] at hlg
  have vg : InView A1 g gv := rg.view
  by_cases hf0 : f.length = 0
  · have e2 : ((f.length : Nat) : Int) = 0 := by omega
    simp (maxSteps := 1000000) (disch := (first | omega | (simp only [nx_alloc, nx_upd, len_cons, len_nil, List.length_set, List.length_map, List.length_append] <;> omega) | fail)) only [go_sem, r3, hlg, hlf, e2, Try.results7]
    exact gc_fin' hw (oA.trans o1) rfl (.bool _)
  have e2 : ¬ ((f.length : Nat) : Int) = 0 := by omega
  have hu0 : usedN f ≠ 0 := by
    rw [usedN_lng]
    have hx : f[0]? = some f[0] := List.getElem?_eq_getElem (by omega)
    exact lng_of hx (by have := hf8 f[0] (List.getElem_mem _); omega)
  have hc := hcode hu0
  obtain ⟨hk32, _, h15⟩ := isCode_kr hc
  have hcP : codesP g = (codeL g, 0) := by unfold codesP; rw [if_pos hc]
  have hco := codes_ok w0 A1 g gv vg (by omega)
  rw [hcP] at hco
  simp (maxSteps := 1000000) (disch := (first | omega | (simp only [nx_alloc, nx_upd, len_cons, len_nil, List.length_set, List.length_map, List.length_append] <;> omega) | fail)) only [go_sem, r3, hlg, hlf, e2]
  refine hco.mono ?_
  rintro e C ⟨cv, rfl, o2, rc⟩
  have rcv := rc.view
  rw [flatP_eq] at rcv
  have hcl := codeL_len g
  have hlc : ∀ X, lenU X (some (.slice 42)) cv = some (.int .i64 (codeL g).length, X) := View.lenX rcv
  rw [hcl, hlen15] at hlc
  have vg2 : InView C g gv := View.over vg o2
  have hcat : ∀ (i : Nat) (x : Nat), g[i]? = some (x : Int) → 0 < x → (codeL g)[i]? = some (((rv x (wrd g i x) : Nat) : Int), (x : Int)) := fun i x hx h0 => by
    unfold codeL
    rw [List.getElem?_map, List.getElem?_range (List.getElem?_eq_some_iff.1 hx).1]
    show some (pieceAt g i) = _
    rw [pieceAt_some hx h0]
  have hpos : ∀ (i : Nat), i < f.length → ∃ x : Nat, g[i]? = some (x : Int) ∧ 0 < x ∧ x ≤ 15 := fun i hi => by
    obtain ⟨x, hx⟩ : ∃ x, g[i]? = some x := ⟨_, List.getElem?_eq_getElem (by omega)⟩
    obtain ⟨y, hy⟩ : ∃ x, f[i]? = some x := ⟨_, List.getElem?_eq_getElem (by omega)⟩
    have h1 := hp i x y hx hy
    have h2 := hf8 y (List.mem_of_getElem? hy)
    have h3 := h15 x (List.mem_of_getElem? hx)
    obtain ⟨m, rfl⟩ := Int.eq_ofNat_of_zero_le h3.1
    exact ⟨m, hx, by omega, by omega⟩
  generalize codeL g = c at *
  simp (maxSteps := 1000000) (disch := (first | omega | (simp only [nx_alloc, nx_upd, len_cons, len_nil, List.length_set, List.length_map, List.length_append] <;> omega) | fail)) only [go_sem, r3, hlc, hlf]
  refine aw_loop (fun k x B => ∃ (ρ : Nat → Value) (i : Nat), x = E 134 ρ [] ∧ B = C ∧ k = f.length - i ∧ i ≤ f.length ∧ ρ 5 = gv ∧ ρ 7 = cv ∧ ρ 9 = .int .i64 i) f.length
    ⟨_, 0, rfl, rfl, rfl, Nat.zero_le _, rfl, rfl, rfl⟩ ?_
  clear r0 r3 r4 e1 hend
  rintro k x B ⟨ρ, i, rfl, rfl, hk, hi, r5, r7, r9⟩
  refine aw_of ?_
  by_cases hend : i = f.length
  · have e1 : ¬ ((i : Int) < (f.length : Int)) := by omega
    simp (maxSteps := 1000000) (disch := (first | omega | (simp only [nx_alloc, nx_upd, len_cons, len_nil, List.length_set, List.length_map, List.length_append] <;> omega) | fail)) only [go_sem, r5, r7, r9, hlc, e1, Try.results7]
    exact gc_fin' hw ((oA.trans o1).trans o2) rfl (.bool _)
  have e1 : ((i : Int) < (f.length : Int)) := by omega
  obtain ⟨x, hgx, hx0, hx15⟩ := hpos i (by omega)
  have hcx := hcat i x hgx hx0
  obtain ⟨b1, f1, _, _, x3, cs1, e1', m1, x4, x5, _, x6, x7⟩ := pcs_at (P := Try.prog) (e := 42) rcv Try.sz42 hcx
  obtain ⟨_, _, _, _, y3, _, _, _, y4, y5⟩ := View.at1 (P := Try.prog) (e := 3) vg2 Try.sz3 (i64E_at _ i _ hgx)
  have d1 : ¬ (x : Int) < 1 := by omega
  simp (maxSteps := 1000000) (disch := (first | omega | (simp only [nx_alloc, nx_upd, len_cons, len_nil, List.length_set, List.length_map, List.length_append] <;> omega) | fail)) only [go_sem, r5, r7, r9, hlc, e1]
  refine aw_draw (by kernel_rfl) ?_
  simp (maxSteps := 1000000) (disch := (first | omega | (simp only [nx_alloc, nx_upd, len_cons, len_nil, List.length_set, List.length_map, List.length_append] <;> omega) | fail)) only [go_sem, r5, r7, r9, x3, x4, x5, x6, x7, y3, y4, y5, d1]
  refine aw_loop (fun m y D => ∃ (ρ : Nat → Value) (j : Nat), y = E 134 ρ [] ∧ D = B ∧ m = f.length - j ∧ j ≤ f.length ∧ ρ 5 = gv ∧ ρ 7 = cv ∧ ρ 9 = .int .i64 i ∧ ρ 10 = .int .i64 j) f.length
    ⟨_, 0, rfl, rfl, rfl, Nat.zero_le _, by first | rfl | exact r5, by first | rfl | exact r7, by first | rfl | exact r9, rfl⟩ ?_
  clear r5 r7 r9
  rintro m y D ⟨ρ, j, rfl, rfl, hm, hj, r5, r7, r9, r10⟩
  refine aw_of ?_
  by_cases hend2 : j = f.length
  · have e2 : ¬ ((j : Int) < (f.length : Int)) := by omega
    simp (maxSteps := 1000000) (disch := (first | omega | (simp only [nx_alloc, nx_upd, len_cons, len_nil, List.length_set, List.length_map, List.length_append] <;> omega) | fail)) only [go_sem, r5, r7, r9, r10, hlc, e2]
    refine ⟨k - 1, by omega, _, i + 1, rfl, by omega, by omega, ?_, ?_, ?_⟩
    · simp (maxSteps := 1000000) (disch := (first | omega | (simp only [nx_alloc, nx_upd, len_cons, len_nil, List.length_set, List.length_map, List.length_append] <;> omega) | fail)) only [go_sem, r5]
    · simp (maxSteps := 1000000) (disch := (first | omega | (simp only [nx_alloc, nx_upd, len_cons, len_nil, List.length_set, List.length_map, List.length_append] <;> omega) | fail)) only [go_sem, r7]
    · simp (maxSteps := 1000000) (disch := (first | omega | (simp only [nx_alloc, nx_upd, len_cons, len_nil, List.length_set, List.length_map, List.length_append] <;> omega) | fail)) only [go_sem]
      rfl
  have e2 : ((j : Int) < (f.length : Int)) := by omega
  have fin' : ∀ (ρ' : Nat → Value), ρ' 5 = gv → ρ' 7 = cv → ρ' 9 = .int .i64 i → ρ' 10 = .int .i64 ((j : Int) + 1) → ∃ m', m' < m ∧ ∃ (ρ : Nat → Value) (j : Nat), E 134 ρ' [] = E 134 ρ [] ∧ m' = f.length - j ∧ j ≤ f.length ∧ ρ 5 = gv ∧ ρ 7 = cv ∧ ρ 9 = .int .i64 i ∧ ρ 10 = .int .i64 j := fun ρ' a1 a2 a3 a4 => ⟨m - 1, by omega, ρ', j + 1, rfl, by omega, by omega, a1, a2, a3, a4⟩
  obtain ⟨z, hgz, hz0, hz15⟩ := hpos j (by omega)
  have hcz := hcat j z hgz hz0
  obtain ⟨b2, f2, _, _, z3, cs2, e2', m2, z4, z5, _, z6, z7⟩ := pcs_at (P := Try.prog) (e := 42) rcv Try.sz42 hcz
  by_cases hij : i = j
  · subst hij
    simp (maxSteps := 1000000) (disch := (first | omega | (simp only [nx_alloc, nx_upd, len_cons, len_nil, List.length_set, List.length_map, List.length_append] <;> omega) | fail)) only [go_sem, r5, r7, r9, r10, hlc, e2]
    refine aw_draw (by kernel_rfl) ?_
    simp (maxSteps := 1000000) (disch := (first | omega | (simp only [nx_alloc, nx_upd, len_cons, len_nil, List.length_set, List.length_map, List.length_append] <;> omega) | fail)) only [go_sem, r5, r7, r9, r10]
    refine fin' _ ?_ ?_ ?_ ?_
    · simp (maxSteps := 1000000) (disch := (first | omega | (simp only [nx_alloc, nx_upd, len_cons, len_nil, List.length_set, List.length_map, List.length_append] <;> omega) | fail)) only [go_sem, r5]
    · simp (maxSteps := 1000000) (disch := (first | omega | (simp only [nx_alloc, nx_upd, len_cons, len_nil, List.length_set, List.length_map, List.length_append] <;> omega) | fail)) only [go_sem, r7]
    · simp (maxSteps := 1000000) (disch := (first | omega | (simp only [nx_alloc, nx_upd, len_cons, len_nil, List.length_set, List.length_map, List.length_append] <;> omega) | fail)) only [go_sem, r9]
    · simp (maxSteps := 1000000) (disch := (first | omega | (simp only [nx_alloc, nx_upd, len_cons, len_nil, List.length_set, List.length_map, List.length_append] <;> omega) | fail)) only [go_sem]
  have d2 : ¬ (i : Int) = (j : Int) := by omega
  by_cases hxz : (z : Int) ≥ (x : Int)
  · have hfr := free_law hk32 hij hx0 (by omega) hz15 hgx hgz
    obtain ⟨q, hq⟩ : ∃ q, q = 2 ^ x := ⟨_, rfl⟩
    have hq0 : 0 < q := by rw [hq]; exact Nat.pow_pos (by decide)
    have hsh : ishl .u32 1 (x : Int) = (q : Int) := by
      have := u32_sl (a := 1) (s := x) (by omega) (by have : 2 ^ x ≤ 2 ^ 15 := Nat.pow_le_pow_right (by decide) hx15; omega)
      rw [show (1 : Int) = ((1 : Nat) : Int) from rfl, this, Nat.one_shiftLeft, hq]
    rw [← hq] at hfr
    have hrem : ¬ (((rv z (wrd g j z) : Nat) : Int).tmod (q : Int) = ((rv x (wrd g i x) : Nat) : Int)) := by
      rw [Int.tmod_eq_emod_of_nonneg (by omega), ← Int.natCast_emod]
      omega
    simp (maxSteps := 1000000) (disch := (first | omega | (simp only [nx_alloc, nx_upd, len_cons, len_nil, List.length_set, List.length_map, List.length_append] <;> omega) | fail)) only [go_sem, r5, r7, r9, r10, hlc, e2]
    refine aw_draw (by kernel_rfl) ?_
    simp (maxSteps := 1000000) (disch := (first | omega | (simp only [nx_alloc, nx_upd, len_cons, len_nil, List.length_set, List.length_map, List.length_append] <;> omega) | fail)) only [go_sem, r5, r7, r9, r10, d2, z3, z4, z5, z6, z7, x3, x4, x5, x6, x7, hxz, hsh, hrem]
    refine fin' _ ?_ ?_ ?_ ?_
    · simp (maxSteps := 1000000) (disch := (first | omega | (simp only [nx_alloc, nx_upd, len_cons, len_nil, List.length_set, List.length_map, List.length_append] <;> omega) | fail)) only [go_sem, r5]
    · simp (maxSteps := 1000000) (disch := (first | omega | (simp only [nx_alloc, nx_upd, len_cons, len_nil, List.length_set, List.length_map, List.length_append] <;> omega) | fail)) only [go_sem, r7]
    · simp (maxSteps := 1000000) (disch := (first | omega | (simp only [nx_alloc, nx_upd, len_cons, len_nil, List.length_set, List.length_map, List.length_append] <;> omega) | fail)) only [go_sem, r9]
    · simp (maxSteps := 1000000) (disch := (first | omega | (simp only [nx_alloc, nx_upd, len_cons, len_nil, List.length_set, List.length_map, List.length_append] <;> omega) | fail)) only [go_sem]
  · simp (maxSteps := 1000000) (disch := (first | omega | (simp only [nx_alloc, nx_upd, len_cons, len_nil, List.length_set, List.length_map, List.length_append] <;> omega) | fail)) only [go_sem, r5, r7, r9, r10, hlc, e2]
    refine aw_draw (by kernel_rfl) ?_
    simp (maxSteps := 1000000) (disch := (first | omega | (simp only [nx_alloc, nx_upd, len_cons, len_nil, List.length_set, List.length_map, List.length_append] <;> omega) | fail)) only [go_sem, r5, r7, r9, r10, d2, z3, z4, z5, z6, z7, x3, x4, x5, x6, x7, hxz]
    refine fin' _ ?_ ?_ ?_ ?_
    · simp (maxSteps := 1000000) (disch := (first | omega | (simp only [nx_alloc, nx_upd, len_cons, len_nil, List.length_set, List.length_map, List.length_append] <;> omega) | fail)) only [go_sem, r5]
    · simp (maxSteps := 1000000) (disch := (first | omega | (simp only [nx_alloc, nx_upd, len_cons, len_nil, List.length_set, List.length_map, List.length_append] <;> omega) | fail)) only [go_sem, r7]
    · simp (maxSteps := 1000000) (disch := (first | omega | (simp only [nx_alloc, nx_upd, len_cons, len_nil, List.length_set, List.length_map, List.length_append] <;> omega) | fail)) only [go_sem, r9]
    · simp (maxSteps := 1000000) (disch := (first | omega | (simp only [nx_alloc, nx_upd, len_cons, len_nil, List.length_set, List.length_map, List.length_append] <;> omega) | fail)) only [go_sem]
end Go.Fw
