import Derived.Test.YtfmbflmknjlefaaFwWire22
set_option linter.unusedSimpArgs false
set_option linter.unusedVariables false
set_option maxRecDepth 4000
namespace Go.Fw
open Go.Proofs Go.RowKit
theorem Try.enters19 : Enters Try.prog 19 := enters_of Try.func19 rfl (by kernel_rfl)
theorem gq_stop {A A' : St} (o : Over A A') (b : Option Blk) (e : Int) : GetPost A (rq0, [], e) (.returned (.tuple #[.agg #[.int .i64 0, .int .u32 0, .int .i64 0, .int .u32 0, .int .u32 0, .slice none 0 0, .slice none 0 0, .slice none 0 0], .string ⟨#[]⟩, .int .i64 e])) (A'.upd A.next b) :=
  ⟨_, rfl, o.upd (Nat.le_refl _) _, _, _, _, rfl, Row.nil .., Row.nil .., Row.nil ..⟩
set_option maxHeartbeats 16000000 in
theorem rgetq_ok (w0 : World) (A : St) (s : ByteArray) (hs : s.size ≤ 1048576) : ACalls Try.prog w0 19 #[.string s] A (GetPost A (reqP (nums s))) := by
  have hw0 : RW (nums s) := ⟨nums_byte s, by rw [nums_length]; exact hs⟩
  generalize hr : nums s = r at *
  have hst : s = strOfNums r := by rw [← hr, str_nums]
  subst hst
  refine call_E (l := [.string (strOfNums r)]) Try.enters19 Try.func19 rfl (Nat.le_of_ble_eq_true rfl) fun hw hbd => ?_
  have hbld : abuild Try.prog 31 #[] = some (.agg #[.int .i64 0, .int .u32 0, .int .i64 0, .int .u32 0, .int .u32 0, .slice none 0 0, .slice none 0 0, .slice none 0 0]) := by kernel_rfl
  obtain ⟨A1, hA1⟩ : ∃ A1, A1 = A.alloc (.cells [.int .i64 0, .int .u32 0, .int .i64 0, .int .u32 0, .int .u32 0, .slice none 0 0, .slice none 0 0, .slice none 0 0] 31 (some 0)) := ⟨_, rfl⟩
  have o1 : Over A A1 := hA1 ▸ (Over.refl A).alloc _
  have n1 : A1.next = A.next + 1 := by rw [hA1]; rfl
  have g1 : A1.get A.next = some (.cells [.int .i64 0, .int .u32 0, .int .i64 0, .int .u32 0, .int .u32 0, .slice none 0 0, .slice none 0 0, .slice none 0 0] 31 (some 0)) := by rw [hA1]; exact get_alloc_same ..
  have hld8 := ldN (n := 8) (cs := [.int .i64 0, .int .u32 0, .int .i64 0, .int .u32 0, .int .u32 0, .slice none 0 0, .slice none 0 0, .slice none 0 0]) (e := 31) (m := some 0) rfl
  simp (maxSteps := 1000000) (disch := (first | omega | (simp only [nx_alloc, nx_upd, len_cons, len_nil, List.length_set, List.length_map, List.length_append] <;> omega) | fail)) only [go_sem, Try.ntmps19, Try.results19]
  rw [← hA1]
  refine call1 (rfixed_ok w0 A1 (strOfNums r) 1 (by rw [str_size]; have := hw0.2; omega)) ?_
  rw [nums_str hw0.1]
  rcases h1 : fixL r 1 with ⟨cl, r1, e1⟩
  obtain ⟨w1, _, c1, d1, _, _⟩ := fixL_facts hw0 (by omega) (by omega) h1
  unfold getV
  by_cases z1 : e1 = 0
  rotate_left
  · have hp : reqP r = (rq0, [], e1) := by unfold reqP; simp [z1, h1]
    rw [hp]
    simp (maxSteps := 1000000) (disch := (first | omega | (simp only [nx_alloc, nx_upd, len_cons, len_nil, List.length_set, List.length_map, List.length_append] <;> omega) | fail)) only [go_sem, z1, g1, hbld, hld8, Try.results19]
    exact gc_here (gq_stop o1 _ e1)
  subst z1
  by_cases hc : 3 ≤ cl
  · have hp : reqP r = (rq0, [], 1) := by unfold reqP; simp [h1, show cliB cl = false from cli_hi (by omega)]
    rw [hp]
    simp (maxSteps := 1000000) (disch := (first | omega | (simp only [nx_alloc, nx_upd, len_cons, len_nil, List.length_set, List.length_map, List.length_append] <;> omega) | fail)) only [go_sem, g1, hbld, hld8, Try.results19]
    exact gc_here (gq_stop o1 _ 1)
  have hcl : cliB cl = true := cli_in (by omega) (by omega)
  simp (maxSteps := 1000000) (disch := (first | omega | (simp only [nx_alloc, nx_upd, len_cons, len_nil, List.length_set, List.length_map, List.length_append] <;> omega) | fail)) only [go_sem]
  refine call1 (rfixed_ok w0 A1 (strOfNums r1) 4 (by rw [str_size]; have := w1.2; omega)) ?_
  rw [nums_str w1.1]
  rcases h2 : fixL r1 4 with ⟨q, r2, e2⟩
  obtain ⟨w2, _, c2, d2, _, _⟩ := fixL_facts w1 (by omega) (by omega) h2
  unfold getV
  by_cases z2 : e2 = 0
  rotate_left
  · have hp : reqP r = (rq0, [], e2) := by unfold reqP; simp [h1, hcl, z2, h2]
    rw [hp]
    simp (maxSteps := 1000000) (disch := (first | omega | (simp only [nx_alloc, nx_upd, len_cons, len_nil, List.length_set, List.length_map, List.length_append] <;> omega) | fail)) only [go_sem, z2, g1, hbld, hld8, Try.results19]
    exact gc_here (gq_stop o1 _ e2)
  subst z2
  simp (maxSteps := 1000000) (disch := (first | omega | (simp only [nx_alloc, nx_upd, len_cons, len_nil, List.length_set, List.length_map, List.length_append] <;> omega) | fail)) only [go_sem]
  refine call1 (rfixed_ok w0 A1 (strOfNums r2) 1 (by rw [str_size]; have := w2.2; omega)) ?_
  rw [nums_str w2.1]
  rcases h3 : fixL r2 1 with ⟨k, r3, e3⟩
  obtain ⟨w3, _, c3, d3, _, _⟩ := fixL_facts w2 (by omega) (by omega) h3
  unfold getV
  by_cases z3 : e3 = 0
  rotate_left
  · have hp : reqP r = (rq0, [], e3) := by unfold reqP; simp [h1, hcl, h2, z3, h3]
    rw [hp]
    simp (maxSteps := 1000000) (disch := (first | omega | (simp only [nx_alloc, nx_upd, len_cons, len_nil, List.length_set, List.length_map, List.length_append] <;> omega) | fail)) only [go_sem, z3, g1, hbld, hld8, Try.results19]
    exact gc_here (gq_stop o1 _ e3)
  subst z3
  by_cases hk0 : k < 1
  · have hp : reqP r = (rq0, [], 1) := by unfold reqP; simp [h1, hcl, h2, h3, show ¬ (1 ≤ k) by omega]
    rw [hp]
    simp (maxSteps := 1000000) (disch := (first | omega | (simp only [nx_alloc, nx_upd, len_cons, len_nil, List.length_set, List.length_map, List.length_append] <;> omega) | fail)) only [go_sem, g1, hbld, hld8, Try.results19]
    exact gc_here (gq_stop o1 _ 1)
  by_cases hk5 : 5 < k
  · have hp : reqP r = (rq0, [], 1) := by unfold reqP; simp [h1, hcl, h2, h3, show ¬ (k ≤ 5) by omega]
    rw [hp]
    simp (maxSteps := 1000000) (disch := (first | omega | (simp only [nx_alloc, nx_upd, len_cons, len_nil, List.length_set, List.length_map, List.length_append] <;> omega) | fail)) only [go_sem, g1, hbld, hld8, Try.results19]
    exact gc_here (gq_stop o1 _ 1)
  simp (maxSteps := 1000000) (disch := (first | omega | (simp only [nx_alloc, nx_upd, len_cons, len_nil, List.length_set, List.length_map, List.length_append] <;> omega) | fail)) only [go_sem]
  refine call1 (rfixed_ok w0 A1 (strOfNums r3) 4 (by rw [str_size]; have := w3.2; omega)) ?_
  rw [nums_str w3.1]
  rcases h4 : fixL r3 4 with ⟨i, r4, e4⟩
  obtain ⟨w4, _, c4, d4, _, _⟩ := fixL_facts w3 (by omega) (by omega) h4
  unfold getV
  by_cases z4 : e4 = 0
  rotate_left
  · have hp : reqP r = (rq0, [], e4) := by unfold reqP; simp [h1, hcl, h2, h3, show 1 ≤ k by omega, show k ≤ 5 by omega, z4, h4]
    rw [hp]
    simp (maxSteps := 1000000) (disch := (first | omega | (simp only [nx_alloc, nx_upd, len_cons, len_nil, List.length_set, List.length_map, List.length_append] <;> omega) | fail)) only [go_sem, z4, g1, hbld, hld8, Try.results19]
    exact gc_here (gq_stop o1 _ e4)
  subst z4
  have d2' : q < 4294967296 := by simpa using d2
  have d4' : i < 4294967296 := by simpa using d4
  have hwc : IntKind.wrap .i64 cl = cl := IntWalk.i64_in _ (by constructor <;> omega)
  have hwk : IntKind.wrap .i64 k = k := IntWalk.i64_in _ (by constructor <;> omega)
  have hwq : IntKind.wrap .u32 q = q := IntWalk.u32_in _ (by constructor <;> omega)
  have hwi : IntKind.wrap .u32 i = i := IntWalk.u32_in _ (by constructor <;> omega)
  obtain ⟨A2, hA2⟩ : ∃ A2, A2 = (A1.alloc (.cells [.int .i64 0, .int .u32 0, .int .i64 0, .int .u32 0, .int .u32 0, .slice none 0 0, .slice none 0 0, .slice none 0 0] 31 (some 0))).upd (A.next + 1) (some (.cells [.int .i64 cl, .int .u32 q, .int .i64 k, .int .u32 i, .int .u32 0, .slice none 0 0, .slice none 0 0, .slice none 0 0] 31 (some 0))) := ⟨_, rfl⟩
  have o2 : Over A1 A2 := hA2 ▸ ((Over.refl A1).alloc _).upd (by omega) _
  have n2 : A2.next = A.next + 2 := by rw [hA2]; show A1.next + 1 = _; omega
  have g2 : A2.get (A.next + 1) = some (.cells [.int .i64 cl, .int .u32 q, .int .i64 k, .int .u32 i, .int .u32 0, .slice none 0 0, .slice none 0 0, .slice none 0 0] 31 (some 0)) := by rw [hA2]; exact get_upd_same ..
  have k2 : A2.get A.next = some (.cells [.int .i64 0, .int .u32 0, .int .i64 0, .int .u32 0, .int .u32 0, .slice none 0 0, .slice none 0 0, .slice none 0 0] 31 (some 0)) := (o2.get _ (by omega)).trans g1
  have hrq : reqP r = match (if k = 1 then progR r4 else (verN, r4, 0)) with | (V, r5, e5) => if e5 ≠ 0 then (rq0, [], e5) else if rightB ⟨cl, q, ⟨k, i, V⟩⟩ = false then (rq0, [], 1) else (⟨cl, q, ⟨k, i, V⟩⟩, r5, 0) := by unfold reqP; simp [h1, hcl, h2, h3, show 1 ≤ k by omega, show k ≤ 5 by omega, h4]
  by_cases hk : k = 1
  · rw [if_pos hk] at hrq
    rcases hV : progR r4 with ⟨V, r5, e5⟩
    rw [hV] at hrq
    simp only at hrq
    simp (maxSteps := 1000000) (disch := (first | omega | (simp only [nx_alloc, nx_upd, len_cons, len_nil, List.length_set, List.length_map, List.length_append] <;> omega) | fail)) only [go_sem, n1, hwc, hwk, hwq, hwi, hk]
    rw [hk] at hA2 g2
    rw [← hA2]
    refine (rread_ver_ok w0 A2 (strOfNums r4) (by rw [str_size]; exact w4.2)).mono ?_
    rw [nums_str w4.1, hV]
    rintro e A3 ⟨v, rfl, o3, p, q', u, rfl, v1, v2, v3⟩
    have n3 := o3.next
    have g3 : A3.get (A.next + 1) = _ := (o3.get _ (by omega)).trans g2
    have k3 : A3.get A.next = _ := (o3.get _ (by omega)).trans k2
    have p1 := cellOf1 (Row.sing v1)
    have p2 := cellOf1 (Row.sing v2)
    have p3 := cellOf1 (Row.sing v3)
    have q1 := Row.one1' v1
    have hld4 := ldN (n := 4) (cs := [.int .u32 V.id, p, q', u]) (e := 27) (m := some 0) rfl
    have hst4 := fun (X : St) (b : Nat) => stN (n := 4) (X := X) (b := b) (z := [.int .u32 0, .slice none 0 0, .slice none 0 0, .slice none 0 0]) (cs := [.int .u32 V.id, p, q', u]) (e := 27) rfl rfl (by simp [p1, p2, p3]; rfl)
    by_cases z5 : e5 = 0
    rotate_left
    · rw [if_pos z5] at hrq
      rw [hrq]
      simp (maxSteps := 1000000) (disch := (first | omega | (simp only [nx_alloc, nx_upd, len_cons, len_nil, List.length_set, List.length_map, List.length_append] <;> omega) | fail)) only [go_sem, z5, g3, k3, hbld, hld8, hst4, p1, p2, p3, Try.results19]
      refine gc_here ?_
      refine gq_stop ?_ _ e5
      exact (o1.trans o2).trans (o3.trans (((Over.refl A3).alloc _).upd (Nat.le_refl _) _))
    subst z5
    rw [if_neg (by simp)] at hrq
    obtain ⟨w5, hVs, hVk, _⟩ := progR_rw w4 hV
    obtain ⟨A4, hA4⟩ : ∃ A4, A4 = ((A3.alloc (.cells [.int .u32 0, .slice none 0 0, .slice none 0 0, .slice none 0 0] 27 (some 0))).upd A3.next (some (.cells [.int .u32 V.id, p, q', u] 27 (some 0)))).upd (A.next + 1) (some (.cells [.int .i64 cl, .int .u32 q, .int .i64 1, .int .u32 i, .int .u32 V.id, p, q', u] 31 (some 0))) := ⟨_, rfl⟩
    have o4 : Over A A4 := by rw [hA4]; exact ((((o1.trans o2).trans o3).alloc _).upd (by omega) _).upd (by omega) _
    have n4 : A4.next = A3.next + 1 := by rw [hA4]; rfl
    have g4 : A4.get (A.next + 1) = some (.cells [.int .i64 cl, .int .u32 q, .int .i64 1, .int .u32 i, .int .u32 V.id, p, q', u] 31 (some 0)) := by rw [hA4]; exact get_upd_same ..
    have k4 : A4.get A.next = some (.cells [.int .i64 0, .int .u32 0, .int .i64 0, .int .u32 0, .int .u32 0, .slice none 0 0, .slice none 0 0, .slice none 0 0] 31 (some 0)) := by rw [hA4, get_upd_old (by omega), get_upd_old (by omega), get_alloc_old (by omega)]; exact k3
    have kp : ∀ b, A2.next ≤ b → b < A3.next → A4.get b = A3.get b := fun b h1 h2 => by rw [hA4, get_upd_old (by omega), get_upd_old (by omega), get_alloc_old (by omega)]
    have u1 : HsRow A4 A.next V.blocks p := Row.keep v1 (by omega) (fun b _ => kp b) (by omega)
    have u2 : StRow A4 A.next V.names q' := Row.keep v2 (by omega) (fun b _ => kp b) (by omega)
    have u3 : InRow A4 A.next V.sizes u := Row.keep v3 (by omega) (fun b _ => kp b) (by omega)
    have hrc : ReqC A4 ⟨cl, q, ⟨1, i, V⟩⟩ [.int .i64 cl, .int .u32 q, .int .i64 1, .int .u32 i, .int .u32 V.id, p, q', u] := ⟨_, rfl, _, rfl, _, _, _, rfl, Row.view u1, Row.view u2, Row.view u3⟩
    have hldr := ldN (n := 8) (e := 31) (m := some 0) hrc.len
    have hstr := fun (X : St) (b : Nat) (z : List Value) (hz : z.length = 8) => stN (n := 8) (X := X) (b := b) (z := z) (e := 31) hz hrc.len hrc.cell
    have hstz := fun (X : St) (b : Nat) => hstr X b [.int .i64 0, .int .u32 0, .int .i64 0, .int .u32 0, .int .u32 0, .slice none 0 0, .slice none 0 0, .slice none 0 0] rfl
    simp (maxSteps := 1000000) (disch := (first | omega | (simp only [nx_alloc, nx_upd, len_cons, len_nil, List.length_set, List.length_map, List.length_append] <;> omega) | fail)) only [go_sem, g3, hst4, hld4, p1, p2, p3]
    rw [← hA4]
    try simp (maxSteps := 1000000) (disch := (first | omega | (simp only [nx_alloc, nx_upd, len_cons, len_nil, List.length_set, List.length_map, List.length_append] <;> omega) | fail)) only [go_sem, g4, hldr]
    refine call1 (maybe_ok w0 A4 _ _ hrc hVs) ?_
    rw [hk] at hrq
    cases hb : rightB ⟨cl, q, ⟨1, i, V⟩⟩
    · rw [if_pos hb] at hrq
      rw [hrq]
      simp (maxSteps := 1000000) (disch := (first | omega | (simp only [nx_alloc, nx_upd, len_cons, len_nil, List.length_set, List.length_map, List.length_append] <;> omega) | fail)) only [go_sem, k4, hbld, hld8, Try.results19]
      exact gc_here (gq_stop o4 _ 1)
    · rw [if_neg (by rw [hb]; simp)] at hrq
      rw [hrq]
      simp (maxSteps := 1000000) (disch := (first | omega | (simp only [nx_alloc, nx_upd, len_cons, len_nil, List.length_set, List.length_map, List.length_append] <;> omega) | fail)) only [go_sem, g4, k4, hldr, hstz, p1, p2, p3, Try.results19]
      refine gc_here ⟨_, rfl, o4.upd (Nat.le_refl _) _, _, _, _, rfl, Row.keep v1 (by show A3.next ≤ A4.next; omega) (fun b _ h1 h2 => by rw [get_upd_old (by omega)]; exact kp b h1 h2) (by omega), Row.keep v2 (by show A3.next ≤ A4.next; omega) (fun b _ h1 h2 => by rw [get_upd_old (by omega)]; exact kp b h1 h2) (by omega), Row.keep v3 (by show A3.next ≤ A4.next; omega) (fun b _ h1 h2 => by rw [get_upd_old (by omega)]; exact kp b h1 h2) (by omega)⟩
  · rw [if_neg hk] at hrq
    simp only [ne_eq, not_true_eq_false, ↓reduceIte] at hrq
    have hrc : ReqC A2 ⟨cl, q, ⟨k, i, verN⟩⟩ [.int .i64 cl, .int .u32 q, .int .i64 k, .int .u32 i, .int .u32 0, .slice none 0 0, .slice none 0 0, .slice none 0 0] := ⟨_, rfl, _, rfl, verN_c A2⟩
    have hldr := ldN (n := 8) (e := 31) (m := some 0) hrc.len
    simp (maxSteps := 1000000) (disch := (first | omega | (simp only [nx_alloc, nx_upd, len_cons, len_nil, List.length_set, List.length_map, List.length_append] <;> omega) | fail)) only [go_sem, n1, hwc, hwk, hwq, hwi, hk]
    rw [← hA2]
    try simp (maxSteps := 1000000) (disch := (first | omega | (simp only [nx_alloc, nx_upd, len_cons, len_nil, List.length_set, List.length_map, List.length_append] <;> omega) | fail)) only [go_sem, g2, hldr]
    refine call1 (maybe_ok w0 A2 _ _ hrc verN_small) ?_
    cases hb : rightB ⟨cl, q, ⟨k, i, verN⟩⟩
    · rw [if_pos hb] at hrq
      rw [hrq]
      simp (maxSteps := 1000000) (disch := (first | omega | (simp only [nx_alloc, nx_upd, len_cons, len_nil, List.length_set, List.length_map, List.length_append] <;> omega) | fail)) only [go_sem, k2, hbld, hld8, Try.results19]
      exact gc_here (gq_stop (o1.trans o2) _ 1)
    · rw [if_neg (by rw [hb]; simp)] at hrq
      rw [hrq]
      simp (maxSteps := 1000000) (disch := (first | omega | (simp only [nx_alloc, nx_upd, len_cons, len_nil, List.length_set, List.length_map, List.length_append] <;> omega) | fail)) only [go_sem, g2, k2, hldr, Try.results19]
      exact gc_here ⟨_, rfl, (o1.trans o2).upd (Nat.le_refl _) _, _, _, _, rfl, Row.nil .., Row.nil .., Row.nil ..⟩
end Go.Fw
