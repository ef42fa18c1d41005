import Derived.Test.YtpjacnialnlilaaFwPre39
set_option linter.unusedSimpArgs false
set_option linter.unusedVariables false
set_option maxRecDepth 4000
namespace Go.Fw
open Go.Proofs Go.RowKit
theorem Try.enters9 : Enters Try.prog 9 := enters_of Try.func9 rfl (by kernel_rfl)
set_option maxHeartbeats 8000000 in
theorem back_walk (w0 : World) (A : St) (v : Value) (l : List Int) (u : Value) (sy : List Int) (hv : View A 1 (l.flatMap u16E) l.length v) (hok : ∀ x ∈ l, u16Ok x) (hu : View A 1 (sy.flatMap u8E) sy.length u) (hoku : ∀ x ∈ sy, u8Ok x) : ACalls Try.prog w0 9 #[v, u] A (fin (.bool true) A) := by
  refine call_E (l := [v, u]) Try.enters9 Try.func9 rfl (Nat.le_of_ble_eq_true rfl) fun hw hbd => ?_
  have hlv : ∀ X, lenU X (some (.slice 30)) v = some (.int .i64 l.length, X) := View.lenX hv
  have hlu : ∀ X, lenU X (some (.slice 5)) u = some (.int .i64 sy.length, X) := View.lenX hu
  by_cases hbig : ((l.length : Nat) : Int) > 300
  · simp (maxSteps := 1000000) (disch := (first | omega | (simp only [nx_alloc, nx_upd, len_cons, len_nil, List.length_set, List.length_map, List.length_append] <;> omega) | fail)) only [go_sem, Try.ntmps9, Try.results9, hlv, hbig]
    refine call1 (shown_ok w0 _) ?_
    simp (maxSteps := 1000000) (disch := (first | omega | (simp only [nx_alloc, nx_upd, len_cons, len_nil, List.length_set, List.length_map, List.length_append] <;> omega) | fail)) only [go_sem, Try.results9]
    exact gc_fin' hw (Over.refl _) rfl (.bool _)
  by_cases hbig2 : ((sy.length : Nat) : Int) > 200
  · simp (maxSteps := 1000000) (disch := (first | omega | (simp only [nx_alloc, nx_upd, len_cons, len_nil, List.length_set, List.length_map, List.length_append] <;> omega) | fail)) only [go_sem, Try.ntmps9, Try.results9, hlv, hlu, hbig, hbig2]
    refine call1 (shown_ok w0 _) ?_
    simp (maxSteps := 1000000) (disch := (first | omega | (simp only [nx_alloc, nx_upd, len_cons, len_nil, List.length_set, List.length_map, List.length_append] <;> omega) | fail)) only [go_sem, Try.results9]
    exact gc_fin' hw (Over.refl _) rfl (.bool _)
  simp (maxSteps := 1000000) (disch := (first | omega | (simp only [nx_alloc, nx_upd, len_cons, len_nil, List.length_set, List.length_map, List.length_append] <;> omega) | fail)) only [go_sem, Try.ntmps9, Try.results9, hlv, hlu, hbig, hbig2]
  refine call1 (shown_ok w0 _) ?_
  simp (maxSteps := 1000000) (disch := (first | omega | (simp only [nx_alloc, nx_upd, len_cons, len_nil, List.length_set, List.length_map, List.length_append] <;> omega) | fail)) only [go_sem]
  obtain ⟨f, hfd⟩ : ∃ f, f = l.map fun x => x + 1 := ⟨_, rfl⟩
  have hfl : f.length = l.length := by rw [hfd, List.length_map]
  have hf8 : ∀ x ∈ f, 1 ≤ x ∧ x ≤ 65536 := fun x hx => by
    rw [hfd] at hx
    obtain ⟨y, hy, rfl⟩ := List.mem_map.1 hx
    have := hok y hy
    unfold u16Ok at this
    omega
  refine aw_loop (fun k x A' => ∃ (ρ : Nat → Value) (i : Nat) (fv : Value), x = E 140 ρ [] ∧ Over A A' ∧ Row A' 3 1 A.next ((f.take i).map (Value.int .i64 ·)) (f.take i).length fv ∧ k = l.length - i ∧ i ≤ l.length ∧ ρ 0 = v ∧ ρ 1 = u ∧ ρ 5 = fv ∧ ρ 6 = .int .i64 i) l.length
    ⟨_, 0, _, rfl, (Over.refl A).alloc _, ⟨rfl, .inr ⟨A.next, none, rfl, .inl rfl, Nat.le_refl _, by rw [nx_alloc]; omega, get_alloc_same ..⟩⟩, rfl, Nat.zero_le _, rfl, rfl, rfl, rfl⟩ ?_
  rintro k x A' ⟨ρ, i, fv, rfl, oA, rf, hk, hi, r0, r1, r5, r6⟩
  refine aw_of ?_
  have htk : (f.take i).length ≤ i := List.length_take_le ..
  by_cases hend : i = l.length
  rotate_left
  · have e1 : (i : Int) < (l.length : Int) := by omega
    obtain ⟨n, hx⟩ : ∃ x, l[i]? = some x := ⟨_, List.getElem?_eq_getElem (by omega)⟩
    obtain ⟨pb, po, hb1, hb2, hb3, cells, e', md, hb4, hb5⟩ := View.at1 (P := Try.prog) (e := 30) (View.over hv oA) Try.sz30 (u16E_at _ i n hx)
    have hfx : f[i]? = some (n + 1) := by rw [hfd, List.getElem?_map, hx]; rfl
    have htk2 : f.take (i + 1) = f.take i ++ [n + 1] := by rw [List.take_add_one, hfx]; rfl
    have hn := hok n (List.mem_of_getElem? hx)
    have hn0 := hn.1
    have hn1 := hn.2
    have hwr : IntKind.i64.wrap (n + 1) = n + 1 := wrap_small (by omega) (by omega)
    have hwn : IntKind.i64.wrap n = n := wrap_small hn0 (by omega)
    obtain ⟨v', A2, q1, q2, q3, q4, q5⟩ := int_push rf (n + 1) oA.next (by omega)
    rw [← htk2] at q2
    have oA2 : Over A A2 := ⟨by have := oA.next; omega, fun b hb => (q5 b (by have := oA.next; omega) (rf.ne hb)).trans (oA.get b hb)⟩
    simp (maxSteps := 1000000) (disch := (first | omega | (simp only [nx_alloc, nx_upd, len_cons, len_nil, List.length_set, List.length_map, List.length_append] <;> omega) | fail)) only [go_sem, r0, r1, r5, r6, hlv, e1, hb3, hb4, hb5, hwn, hwr, q1]
    refine ⟨k - 1, by omega, _, i + 1, v', rfl, oA2, q2, by omega, by omega, ?_, ?_, ?_, ?_⟩
    · simp (maxSteps := 1000000) (disch := (first | omega | (simp only [nx_alloc, nx_upd, len_cons, len_nil, List.length_set, List.length_map, List.length_append] <;> omega) | fail)) only [go_sem, r0]
    · simp (maxSteps := 1000000) (disch := (first | omega | (simp only [nx_alloc, nx_upd, len_cons, len_nil, List.length_set, List.length_map, List.length_append] <;> omega) | fail)) only [go_sem, r1]
    · simp (maxSteps := 1000000) (disch := (first | omega | (simp only [nx_alloc, nx_upd, len_cons, len_nil, List.length_set, List.length_map, List.length_append] <;> omega) | fail)) only [go_sem]
    · simp (maxSteps := 1000000) (disch := (first | omega | (simp only [nx_alloc, nx_upd, len_cons, len_nil, List.length_set, List.length_map, List.length_append] <;> omega) | fail)) only [go_sem]
      rfl
  have e1 : ¬ ((i : Int) < (l.length : Int)) := by omega
  rw [show f.take i = f from List.take_of_length_le (by omega)] at rf
  have hus := usedN_le f
  have hl0 : ∀ x ∈ f, 0 ≤ x ∧ x ≤ 1048576 := fun x hx => by have := hf8 x hx; omega
  have h215 : (2 : Nat) ^ 15 = 32768 := rfl
  have hP := lengthsP_of (f := f) (L := 15) hl0 (by omega) (by decide) (by decide) (by omega)
  have hH := hok_of (f := f) (L := 15) hl0 (by omega)
  obtain ⟨ho, hkr, hp⟩ := lenF_like (by decide) (by decide) hH
  have hlen15 := lenF_len 20 f ((15 : Nat) : Int)
  have hcode : usedN f ≠ 0 → isCode (lenF 20 f 15) = true := fun h => lenF_code (f := f) (lim := 15) (by decide) (by decide) hH (by omega) h
  have hLo := lengths_ok w0 A' f fv 15 (InRow.of rf).view (by omega)
  rw [show lengthsP f 15 = (lenF 20 f 15, 0) from hP] at hLo
  rw [show lenF 20 f ((15 : Nat) : Int) = lenF 20 f 15 from rfl] at hlen15 hp
  clear ho hkr hP
  generalize lenF 20 f 15 = g at *
  simp (maxSteps := 1000000) (disch := (first | omega | (simp only [nx_alloc, nx_upd, len_cons, len_nil, List.length_set, List.length_map, List.length_append] <;> omega) | fail)) only [go_sem, r0, r1, r5, r6, hlv, e1]
  refine hLo.mono ?_
  rintro e A1 ⟨gv, rfl, o1, rg⟩
  have hlg : ∀ X, lenU X (some (.slice 3)) gv = some (.int .i64 g.length, X) := View.lenX rg.view
  have hlf : ∀ X, lenU X (some (.slice 3)) fv = some (.int .i64 f.length, X) := View.lenX (InRow.of rf).view
  rw [hlen15] at hlg
  have vg : InView A1 g gv := rg.view
  by_cases hf0 : f.length = 0
  · have e2 : ((f.length : Nat) : Int) = 0 := by omega
    simp (maxSteps := 1000000) (disch := (first | omega | (simp only [nx_alloc, nx_upd, len_cons, len_nil, List.length_set, List.length_map, List.length_append] <;> omega) | fail)) only [go_sem, r5, hlg, hlf, e2, Try.results9]
    exact gc_fin' hw (oA.trans o1) rfl (.bool _)
  have e2 : ¬ ((f.length : Nat) : Int) = 0 := by omega
  have hu0 : usedN f ≠ 0 := by
    rw [usedN_lng]
    have hx : f[0]? = some f[0] := List.getElem?_eq_getElem (by omega)
    exact lng_of hx (by have := hf8 f[0] (List.getElem_mem _); omega)
  have hc := hcode hu0
  obtain ⟨hk32, _, h15⟩ := isCode_kr hc
  have hcP : codesP g = (codeL g, 0) := by unfold codesP; rw [if_pos hc]
  have hco := codes_ok w0 A1 g gv vg (by omega)
  rw [hcP] at hco
  simp (maxSteps := 1000000) (disch := (first | omega | (simp only [nx_alloc, nx_upd, len_cons, len_nil, List.length_set, List.length_map, List.length_append] <;> omega) | fail)) only [go_sem, r5, hlg, hlf, e2]
  refine hco.mono ?_
  rintro e C ⟨cv, rfl, o2, rc⟩
  have rcv := rc.view
  rw [flatP_eq] at rcv
  have hcl := codeL_len g
  have hlc : ∀ X, lenU X (some (.slice 42)) cv = some (.int .i64 (codeL g).length, X) := View.lenX rcv
  rw [hcl, hlen15] at hlc
  have vg2 : InView C g gv := View.over vg o2
  have oC : Over A C := (oA.trans o1).trans o2
  have hcat : ∀ (i : Nat) (x : Nat), g[i]? = some (x : Int) → 0 < x → (codeL g)[i]? = some (((rv x (wrd g i x) : Nat) : Int), (x : Int)) := fun i x hx h0 => by
    unfold codeL
    rw [List.getElem?_map, List.getElem?_range (List.getElem?_eq_some_iff.1 hx).1]
    show some (pieceAt g i) = _
    rw [pieceAt_some hx h0]
  have hpos : ∀ (i : Nat), i < f.length → ∃ x : Nat, g[i]? = some (x : Int) ∧ 0 < x ∧ x ≤ 15 := fun i hi => by
    obtain ⟨x, hx⟩ : ∃ x, g[i]? = some x := ⟨_, List.getElem?_eq_getElem (by omega)⟩
    obtain ⟨y, hy⟩ : ∃ x, f[i]? = some x := ⟨_, List.getElem?_eq_getElem (by omega)⟩
    have h1 := hp i x y hx hy
    have h2 := hf8 y (List.mem_of_getElem? hy)
    have h3 := h15 x (List.mem_of_getElem? hx)
    obtain ⟨m, rfl⟩ := Int.eq_ofNat_of_zero_le h3.1
    exact ⟨m, hx, by omega, by omega⟩
  have hvr : ∀ b, rowB gv = some b → b < C.next := fun b hb => View.lt_rb vg2 hb (by omega)
  obtain ⟨sx, hsx⟩ : ∃ sx : List Nat, sx = sy.map fun y => y.toNat % f.length := ⟨_, rfl⟩
  have hsl : sx.length = sy.length := by rw [hsx, List.length_map]
  have hsat : ∀ (i : Nat) (y : Int), sy[i]? = some y → sx[i]? = some (y.toNat % f.length) ∧ y.tmod (f.length : Int) = ((y.toNat % f.length : Nat) : Int) ∧ y.toNat % f.length < f.length := fun i y hy => by
    have h0 := hoku y (List.mem_of_getElem? hy)
    unfold u8Ok at h0
    refine ⟨by rw [hsx, List.getElem?_map, hy]; rfl, ?_, Nat.mod_lt _ (by omega)⟩
    rw [Int.tmod_eq_emod_of_nonneg h0.1, Int.natCast_emod, Int.toNat_of_nonneg h0.1]
  obtain ⟨ps, hps⟩ : ∃ ps : List (Int × Int), ps = sx.map fun t => pieceAt g t := ⟨_, rfl⟩
  have hpl : ps.length = sy.length := by rw [hps, List.length_map, hsl]
  have hpat : ∀ (i t : Nat), sx[i]? = some t → ps[i]? = some (pieceAt g t) := fun i t ht => by rw [hps, List.getElem?_map, ht]; rfl
  have hsN : ∀ t ∈ sx, t < f.length := fun t ht => by
    rw [hsx] at ht
    obtain ⟨y, _, rfl⟩ := List.mem_map.1 ht
    exact Nat.mod_lt _ (by omega)
  have hpm : ∀ p ∈ ps, ∃ (n k : Nat), p = ((n : Int), (k : Int)) ∧ k ≤ 15 ∧ n < 2 ^ k := fun p hp' => by
    rw [hps] at hp'
    obtain ⟨t, ht, rfl⟩ := List.mem_map.1 hp'
    obtain ⟨x, hx, hx0, hx15⟩ := hpos t (hsN t ht)
    exact ⟨_, x, pieceAt_some hx hx0, hx15, rv_lt _ _⟩
  have hPc : ∀ p ∈ ps, PcOk p := fun p hp' => by
    obtain ⟨n, k, rfl, h1, h2⟩ := hpm p hp'
    have : 2 ^ k ≤ 2 ^ 15 := Nat.pow_le_pow_right (by decide) h1
    unfold PcOk
    refine ⟨?_, ?_, ?_, ?_⟩ <;> simp only <;> omega
  have hPo : packOk ps = true := by
    unfold packOk
    rw [List.all_eq_true]
    intro p hp'
    obtain ⟨n, k, rfl, h1, h2⟩ := hpm p hp'
    unfold mayB
    rw [decide_eq_true_eq]
    refine ⟨by simp only; omega, by simp only; omega, ?_⟩
    simp only [Int.toNat_natCast]
    rw [show ((2 : Int) ^ k) = ((2 ^ k : Nat) : Int) by rw [Int.natCast_pow]; rfl]
    omega
  simp (maxSteps := 1000000) (disch := (first | omega | (simp only [nx_alloc, nx_upd, len_cons, len_nil, List.length_set, List.length_map, List.length_append] <;> omega) | fail)) only [go_sem, r5, hlc, hlf]
  refine aw_loop (fun k x B => ∃ (ρ : Nat → Value) (i : Nat) (pv : Value), x = E 140 ρ [] ∧ Over C B ∧ Row B 42 2 C.next ((ps.take i).flatMap pcE) (ps.take i).length pv ∧ k = sy.length - i ∧ i ≤ sy.length ∧ ρ 1 = u ∧ ρ 5 = fv ∧ ρ 7 = gv ∧ ρ 9 = cv ∧ ρ 11 = pv ∧ ρ 12 = .int .i64 i) sy.length
    ⟨_, 0, _, rfl, (Over.refl C).alloc _, ⟨rfl, .inr ⟨C.next, none, rfl, .inl rfl, Nat.le_refl _, by rw [nx_alloc]; omega, get_alloc_same ..⟩⟩, rfl, Nat.zero_le _, by first | rfl | exact r1, by first | rfl | exact r5, rfl, rfl, rfl, rfl⟩ ?_
  clear r0 r1 r5 r6 e1 hend
  rintro k x B ⟨ρ, i, pv, rfl, oB, rp, hk, hi, r1, r5, r7, r9, r11, r12⟩
  refine aw_of ?_
  have htp : (ps.take i).length ≤ i := List.length_take_le ..
  by_cases hend : i = sy.length
  rotate_left
  · have e1 : (i : Int) < (sy.length : Int) := by omega
    obtain ⟨y, hy⟩ : ∃ x, sy[i]? = some x := ⟨_, List.getElem?_eq_getElem (by omega)⟩
    obtain ⟨pb, po, hb1, hb2, hb3, cells, e', md, hb4, hb5⟩ := View.at1 (P := Try.prog) (e := 5) (View.over hu (oC.trans oB)) Try.sz5 (u8E_at _ i y hy)
    obtain ⟨h1, h2, h3⟩ := hsat i y hy
    obtain ⟨x, hx, hx0, hx15⟩ := hpos _ h3
    have hpx := hpat i _ h1
    rw [pieceAt_some hx hx0] at hpx
    obtain ⟨b1, f1, x1, _, x3, cs1, e1', m1, x4, x5, x6, _⟩ := pcs_at (P := Try.prog) (e := 42) (View.over rcv oB) Try.sz42 (hcat _ x hx hx0)
    have htk2 : ps.take (i + 1) = ps.take i ++ [(((rv x (wrd g (y.toNat % f.length) x) : Nat) : Int), (x : Int))] := by rw [List.take_add_one, hpx]; rfl
    have hyk := hoku y (List.mem_of_getElem? hy)
    unfold u8Ok at hyk
    have hwy : IntKind.i64.wrap y = y := wrap_small hyk.1 (by omega)
    obtain ⟨v', A2, q1, q2, q3, q4, q5⟩ := pcb_push rp (((rv x (wrd g (y.toNat % f.length) x) : Nat) : Int), (x : Int)) oB.next (by omega)
    rw [← htk2] at q2
    have oA2 : Over C A2 := ⟨by have := oB.next; omega, fun b hb => (q5 b (by have := oB.next; omega) (rp.ne hb)).trans (oB.get b hb)⟩
    unfold pcE at q1
    simp (maxSteps := 1000000) (disch := (first | omega | (simp only [nx_alloc, nx_upd, len_cons, len_nil, List.length_set, List.length_map, List.length_append] <;> omega) | fail)) only [go_sem, r1, r5, r7, r9, r11, r12, hlu, hlf, e1, hb3, hb4, hb5, hwy, h2, x3, x4, x5, x6, q1]
    refine ⟨k - 1, by omega, _, i + 1, v', rfl, oA2, q2, by omega, by omega, ?_, ?_, ?_, ?_, ?_, ?_⟩
    · simp (maxSteps := 1000000) (disch := (first | omega | (simp only [nx_alloc, nx_upd, len_cons, len_nil, List.length_set, List.length_map, List.length_append] <;> omega) | fail)) only [go_sem, r1]
    · simp (maxSteps := 1000000) (disch := (first | omega | (simp only [nx_alloc, nx_upd, len_cons, len_nil, List.length_set, List.length_map, List.length_append] <;> omega) | fail)) only [go_sem, r5]
    · simp (maxSteps := 1000000) (disch := (first | omega | (simp only [nx_alloc, nx_upd, len_cons, len_nil, List.length_set, List.length_map, List.length_append] <;> omega) | fail)) only [go_sem, r7]
    · simp (maxSteps := 1000000) (disch := (first | omega | (simp only [nx_alloc, nx_upd, len_cons, len_nil, List.length_set, List.length_map, List.length_append] <;> omega) | fail)) only [go_sem, r9]
    · simp (maxSteps := 1000000) (disch := (first | omega | (simp only [nx_alloc, nx_upd, len_cons, len_nil, List.length_set, List.length_map, List.length_append] <;> omega) | fail)) only [go_sem]
    · simp (maxSteps := 1000000) (disch := (first | omega | (simp only [nx_alloc, nx_upd, len_cons, len_nil, List.length_set, List.length_map, List.length_append] <;> omega) | fail)) only [go_sem]
      rfl
  have e1 : ¬ ((i : Int) < (sy.length : Int)) := by omega
  rw [show ps.take i = ps from List.take_of_length_le (by omega)] at rp
  have rpv := rp.view
  rw [flatP_eq] at rpv
  simp (maxSteps := 1000000) (disch := (first | omega | (simp only [nx_alloc, nx_upd, len_cons, len_nil, List.length_set, List.length_map, List.length_append] <;> omega) | fail)) only [go_sem, r1, r5, r7, r9, r11, r12, hlu, e1]
  refine call1 (pack_ok w0 B pv ps hPc (by omega) rpv) ?_
  have e3 : (packS ps).2 = 0 := by rw [packS_ok hPc hPo]
  have hV := packS_V hPc hPo
  have hS := packS_size hPc hPo
  obtain ⟨s, hs⟩ : ∃ s, s = (packS ps).1 := ⟨_, rfl⟩
  have wl : (packW ps).2 = (bitsL ps).length := by rw [packW_b ps hPc hPo]
  have bl : (bitsL ps).length ≤ 24 * ps.length := by have := packW_le ps ps.length; rw [List.take_length, wl] at this; exact this
  rw [← hs] at hV hS
  simp (maxSteps := 1000000) (disch := (first | omega | (simp only [nx_alloc, nx_upd, len_cons, len_nil, List.length_set, List.length_map, List.length_append] <;> omega) | fail)) only [go_sem, packR_eq, e3, ← hs]
  refine call1 (new_ok w0 B s) ?_
  simp (maxSteps := 1000000) (disch := (first | omega | (simp only [nx_alloc, nx_upd, len_cons, len_nil, List.length_set, List.length_map, List.length_append] <;> omega) | fail)) only [go_sem]
  refine aw_loop (fun k x D => ∃ (ρ : Nat → Value) (i : Nat), x = E 140 ρ [] ∧ Over B D ∧ B.next < D.next ∧ D.get B.next = some (rdB 70 s (bitsL (ps.take i)).length) ∧ k = sy.length - i ∧ i ≤ sy.length ∧ ρ 1 = u ∧ ρ 5 = fv ∧ ρ 7 = gv ∧ ρ 14 = .int .i64 0 ∧ ρ 15 = .pointer (some ⟨B.next, 0, none⟩) ∧ ρ 16 = .int .i64 i) sy.length
    ⟨_, 0, rfl, (Over.refl B).alloc _, by rw [nx_alloc]; omega, get_alloc_same .., rfl, Nat.zero_le _, by first | rfl | exact r1, by first | rfl | exact r5, by first | rfl | exact r7, rfl, rfl, rfl⟩ ?_
  clear r1 r5 r7 r9 r11 r12 e1 hend
  rintro k x D ⟨ρ, i, rfl, oD, hnx, gR, hk, hi, r1, r5, r7, r14, r15, r16⟩
  refine aw_of ?_
  have hle := bitsL_take_le ps i
  have oAD : Over A D := (oC.trans oB).trans oD
  by_cases hend : i = sy.length
  · have e1 : ¬ ((i : Int) < (sy.length : Int)) := by omega
    rw [show ps.take i = ps from List.take_of_length_le (by omega)] at gR
    have hend' : endS s (bitsL ps).length = 0 := by
      unfold endS
      rw [if_neg]
      rintro (h | h)
      · omega
      · exact h (by rw [hV]; exact Nat.div_eq_of_lt (valN_lt _ (bits_L ps)))
    simp (maxSteps := 1000000) (disch := (first | omega | (simp only [nx_alloc, nx_upd, len_cons, len_nil, List.length_set, List.length_map, List.length_append] <;> omega) | fail)) only [go_sem, r1, r14, r15, r16, hlu, e1]
    refine call1 (end_ok w0 D B.next s (bitsL ps).length gR (by omega) (by omega)) ?_
    rw [hend']
    simp (maxSteps := 1000000) (disch := (first | omega | (simp only [nx_alloc, nx_upd, len_cons, len_nil, List.length_set, List.length_map, List.length_append] <;> omega) | fail)) only [go_sem, Try.results9]
    exact gc_fin' hw oAD rfl (.bool _)
  have e1 : (i : Int) < (sy.length : Int) := by omega
  obtain ⟨y, hy⟩ : ∃ x, sy[i]? = some x := ⟨_, List.getElem?_eq_getElem (by omega)⟩
  obtain ⟨h1, h2, h3⟩ := hsat i y hy
  obtain ⟨x, hx, hx0, hx15⟩ := hpos _ h3
  have hpx := hpat i _ h1
  rw [pieceAt_some hx hx0] at hpx
  have hval := piece_at hpx (rv_lt x _)
  rw [← hV] at hval
  have hle2 := bitsL_take_le ps (i + 1)
  have hsn : (bitsL (ps.take (i + 1))).length = (bitsL (ps.take i)).length + x := by rw [bitsL_snoc ps i _ hpx, List.length_append, bitsN_length]; rfl
  have hnp := nextP_reads hc hx hx0 hval (by omega)
  have hn := next_ok w0 D g gv B.next s (bitsL (ps.take i)).length (View.over (View.over vg2 oB) oD) (by omega) gR (fun h => by have := hvr _ h; have := oB.next; omega) (by omega) (by omega)
  rw [hnp, ← hsn] at hn
  have oE : Over B (D.upd B.next (some (rdB 70 s (bitsL (ps.take (i + 1))).length))) := oD.upd (Nat.le_refl _) _
  have gE : (D.upd B.next (some (rdB 70 s (bitsL (ps.take (i + 1))).length))).get B.next = some (rdB 70 s (bitsL (ps.take (i + 1))).length) := get_upd_same ..
  have nE : B.next < (D.upd B.next (some (rdB 70 s (bitsL (ps.take (i + 1))).length))).next := hnx
  unfold nextV at hn
  simp (maxSteps := 1000000) (disch := (first | omega | (simp only [nx_alloc, nx_upd, len_cons, len_nil, List.length_set, List.length_map, List.length_append] <;> omega) | fail)) only [go_sem, r1, r5, r7, r14, r15, r16, hlu, e1]
  refine call1 hn ?_
  generalize D.upd B.next (some (rdB 70 s (bitsL (ps.take (i + 1))).length)) = F at *
  obtain ⟨pb, po, hb1, hb2, hb3, cells, e', md, hb4, hb5⟩ := View.at1 (P := Try.prog) (e := 5) (View.over hu ((oC.trans oB).trans oE)) Try.sz5 (u8E_at _ i y hy)
  have hyk := hoku y (List.mem_of_getElem? hy)
  unfold u8Ok at hyk
  have hwy : IntKind.i64.wrap y = y := wrap_small hyk.1 (by omega)
  simp (maxSteps := 1000000) (disch := (first | omega | (simp only [nx_alloc, nx_upd, len_cons, len_nil, List.length_set, List.length_map, List.length_append] <;> omega) | fail)) only [go_sem, r1, r5, r7, r14, r15, r16, hlf, hb3, hb4, hb5, hwy, h2]
  refine ⟨k - 1, by omega, _, i + 1, rfl, oE, nE, gE, by omega, by omega, ?_, ?_, ?_, ?_, ?_, ?_⟩
  · simp (maxSteps := 1000000) (disch := (first | omega | (simp only [nx_alloc, nx_upd, len_cons, len_nil, List.length_set, List.length_map, List.length_append] <;> omega) | fail)) only [go_sem, r1]
  · simp (maxSteps := 1000000) (disch := (first | omega | (simp only [nx_alloc, nx_upd, len_cons, len_nil, List.length_set, List.length_map, List.length_append] <;> omega) | fail)) only [go_sem, r5]
  · simp (maxSteps := 1000000) (disch := (first | omega | (simp only [nx_alloc, nx_upd, len_cons, len_nil, List.length_set, List.length_map, List.length_append] <;> omega) | fail)) only [go_sem, r7]
  · simp (maxSteps := 1000000) (disch := (first | omega | (simp only [nx_alloc, nx_upd, len_cons, len_nil, List.length_set, List.length_map, List.length_append] <;> omega) | fail)) only [go_sem, r14]
  · simp (maxSteps := 1000000) (disch := (first | omega | (simp only [nx_alloc, nx_upd, len_cons, len_nil, List.length_set, List.length_map, List.length_append] <;> omega) | fail)) only [go_sem, r15]
  · simp (maxSteps := 1000000) (disch := (first | omega | (simp only [nx_alloc, nx_upd, len_cons, len_nil, List.length_set, List.length_map, List.length_append] <;> omega) | fail)) only [go_sem]
    rfl
end Go.Fw
