import Derived.Test.YtmfccnnkolegmaaFwSq5
import Derived.Test.YtmfccnnkolegmaaFwBit4
set_option linter.unusedSimpArgs false
set_option linter.unusedVariables false
set_option maxRecDepth 4000
namespace Go.Fw
open Go.Proofs Go.RowKit
/-! Squeeze of the document. -/
theorem Try.enters11 : Enters Try.prog 11 := enters_of Try.func11 rfl (by kernel_rfl)
theorem rpc_more {B C : St} {l : List (Int × Int)} {v : Value} {lo : Nat} (o : Over B C) (hlo : B.next ≤ lo) (hlo2 : lo ≤ C.next) (h : Row C 60 2 lo (l.flatMap pcE) l.length v) (x : Int × Int) (hl : l.length ≤ 1000000) :
    ∃ v' C2, aappend Try.prog (C.alloc (.cells [.int .u32 x.1, .int .i64 x.2] 60 (some 0))) 57 57 v (.slice (some ⟨C.next, 0, none⟩) 1 1) = some (v', C2) ∧ Row C2 60 2 lo ((l ++ [x]).flatMap pcE) (l ++ [x]).length v' ∧ Over B C2 ∧ lo ≤ C2.next := by
  obtain ⟨v', A2, q1, q2, q3, q4, q5⟩ := pc_push h x hlo2 hl
  exact ⟨v', A2, q1, q2, ⟨by have := o.next; omega, fun b hb => (q5 b (by have := o.next; omega) (h.ne (by omega))).trans (o.get b hb)⟩, by omega⟩
set_option maxHeartbeats 16000000 in
theorem rsqueeze_ok (w0 : World) (A : St) (s : ByteArray) (hs : s.size ≤ 1000000) : ACalls Try.prog w0 11 #[.string s] A (fin (sqV s) A) := by
  refine call_E (l := [.string s]) Try.enters11 Try.func11 rfl (Nat.le_of_ble_eq_true rfl) fun hw hbd => ?_
  by_cases hcap : 4096 < s.size
  · have e1 : ((s.size : Nat) : Int) > 4096 := by omega
    simp (maxSteps := 1000000) (disch := first | omega | (simp only [Fw.z1, Fw.z2, Fw.z3, Fw.z4, Fw.z5, Fw.z6, Fw.z7] <;> omega) | fail) only [go_sem, Try.ntmps11, Try.results11, e1]
    exact gc_fin' hw (Over.refl _) (by unfold sqV squeezeP; rw [if_pos hcap]; rfl) (bnd_sqV _ _)
  have e1 : ¬ ((s.size : Nat) : Int) > 4096 := by omega
  have hq := sq_ok (s := s) (by omega)
  have hsq : sqV s = .tuple #[.string (packS (sqP s)).1, .int .i64 (packS (sqP s)).2] := by unfold sqV squeezeP; rw [if_neg hcap]
  have hpl := sqP_len (s := s)
  obtain ⟨hpc, hpo⟩ := sqP_ok (s := s) (by omega)
  have hsl := splitL_len s
  have hS := splitL_S s
  have hbv := bnd_sqV A.next s
  simp (maxSteps := 1000000) (disch := first | omega | (simp only [Fw.z1, Fw.z2, Fw.z3, Fw.z4, Fw.z5, Fw.z6, Fw.z7] <;> omega) | fail) only [go_sem, Try.ntmps11, Try.results11, e1]
  refine (rSplit_ok w0 A s (by omega)).mono ?_
  rintro e A1 ⟨tv, rfl, o1, rt⟩
  have vt : TokView A1 (splitL s) tv := rt.view
  simp (maxSteps := 1000000) (disch := first | omega | (simp only [Fw.z1, Fw.z2, Fw.z3, Fw.z4, Fw.z5, Fw.z6, Fw.z7] <;> omega) | fail) only [go_sem]
  refine (rfreq_ok w0 A1 (splitL s) tv vt (by omega) (fun t ht => (hS t ht).b)).mono ?_
  rintro e A2 ⟨fv, rfl, o2, rf⟩
  have hLo := rlengths_ok w0 A2 _ fv 15 rf.view (by rw [freqL_len]; decide)
  rw [hq.lens] at hLo
  simp (maxSteps := 1000000) (disch := first | omega | (simp only [Fw.z1, Fw.z2, Fw.z3, Fw.z4, Fw.z5, Fw.z6, Fw.z7] <;> omega) | fail) only [go_sem]
  refine hLo.mono ?_
  rintro e A3 ⟨gv, rfl, o3, rg⟩
  have vg : InView A3 (sqL s) gv := rg.view
  have hlen := hq.len
  simp (maxSteps := 1000000) (disch := first | omega | (simp only [Fw.z1, Fw.z2, Fw.z3, Fw.z4, Fw.z5, Fw.z6, Fw.z7] <;> omega) | fail) only [go_sem]
  have hco := rcodes_ok w0 A3 (sqL s) gv vg (by omega)
  rw [hq.codes] at hco
  refine hco.mono ?_
  rintro e A4 ⟨cv, rfl, o4, rc⟩
  have rcv := rc.view
  rw [flatP_eq] at rcv
  have hcl := codeL_len (sqL s)
  have vg4 : InView A4 (sqL s) gv := View.over vg o4
  have vt4 : TokView A4 (splitL s) tv := View.over (View.over (View.over vt o2) o3) o4
  have oA4 : Over A A4 := ((o1.trans o2).trans o3).trans o4
  have hlt : ∀ X, lenU X (some (.slice 33)) tv = some (.int .i64 (splitL s).length, X) := View.lenX vt
  have hused := hq.used
  have hcode := hq.code
  have hsqP : sqP s = (((lng (sqL s) 0 : Nat) : Int), 9) :: (tabP (sqL s) 289 ++ ((splitL s).flatMap (tokP (sqL s)) ++ [pieceAt (sqL s) 288])) := rfl
  have htab := tabP_len (sqL s) 289
  generalize hLd : splitL s = L at *
  generalize hgd : sqL s = g at *
  clear hLo hco rg rf vg vt
  simp (maxSteps := 1000000) (disch := first | omega | (simp only [Fw.z1, Fw.z2, Fw.z3, Fw.z4, Fw.z5, Fw.z6, Fw.z7] <;> omega) | fail) only [go_sem]
  refine aw_loop (fun k x B => ∃ (ρ : Nat → Value) (i : Nat), x = E 129 ρ [] ∧ B = A4.alloc (.cells [] 60 (some 0)) ∧ k = 289 - i ∧ i ≤ 289 ∧ ρ 4 = tv ∧ ρ 5 = gv ∧ ρ 7 = cv ∧ ρ 9 = .slice (some ⟨A4.next, 0, none⟩) 0 0 ∧ ρ 10 = .int .u32 (lng (g.take i) 0 : Nat) ∧ ρ 11 = .int .i64 i) 289
    ⟨_, 0, rfl, rfl, rfl, Nat.zero_le _, rfl, rfl, rfl, rfl, rfl, rfl⟩ ?_
  rintro k x B ⟨ρ, i, rfl, hB, hk, hi, r4, r5, r7, r9, r10, r11⟩
  refine aw_of ?_
  have oB : Over A4 B := by rw [hB]; exact (Over.refl A4).alloc _
  have hlgi := lng_le (g.take i) 0
  have htl : (g.take i).length ≤ i := List.length_take_le ..
  by_cases hend : i = 289
  rotate_left
  · have e2 : (i : Int) < 289 := by omega
    obtain ⟨x, hx, hx15, _⟩ := hused i (by omega)
    obtain ⟨pb, po, hb1, hb2, hb3, cells, e', md, hb4, hb5⟩ := View.at1 (P := Try.prog) (e := 3) (View.over vg4 oB) Try.sz3 (i64E_at _ i _ hx)
    have htk : g.take (i + 1) = g.take i ++ [(x : Int)] := by rw [List.take_add_one, hx]; rfl
    have hsn := lng_snoc (g.take i) (x : Int) 0
    rw [← htk] at hsn
    by_cases h0 : (x : Int) > 0
    · rw [if_pos (by omega)] at hsn
      have hw1 : IntKind.u32.wrap (((lng (g.take i) 0 : Nat) : Int) + 1) = ((lng (g.take (i + 1)) 0 : Nat) : Int) := by
        rw [hsn]; simp only [IntKind.wrap, IntKind.signed, IntKind.bits]; simp; omega
      simp (maxSteps := 1000000) (disch := first | omega | (simp only [Fw.z1, Fw.z2, Fw.z3, Fw.z4, Fw.z5, Fw.z6, Fw.z7] <;> omega) | fail) only [go_sem, r4, r5, r7, r9, r10, r11, e2, hb3, hb4, hb5, h0, hw1]
      refine ⟨k - 1, by omega, _, i + 1, rfl, hB, by omega, by omega, ?_, ?_, ?_, ?_, ?_, ?_⟩
      · simp (maxSteps := 1000000) (disch := first | omega | (simp only [Fw.z1, Fw.z2, Fw.z3, Fw.z4, Fw.z5, Fw.z6, Fw.z7] <;> omega) | fail) only [go_sem, r4]
      · simp (maxSteps := 1000000) (disch := first | omega | (simp only [Fw.z1, Fw.z2, Fw.z3, Fw.z4, Fw.z5, Fw.z6, Fw.z7] <;> omega) | fail) only [go_sem, r5]
      · simp (maxSteps := 1000000) (disch := first | omega | (simp only [Fw.z1, Fw.z2, Fw.z3, Fw.z4, Fw.z5, Fw.z6, Fw.z7] <;> omega) | fail) only [go_sem, r7]
      · simp (maxSteps := 1000000) (disch := first | omega | (simp only [Fw.z1, Fw.z2, Fw.z3, Fw.z4, Fw.z5, Fw.z6, Fw.z7] <;> omega) | fail) only [go_sem, r9]
      · simp (maxSteps := 1000000) (disch := first | omega | (simp only [Fw.z1, Fw.z2, Fw.z3, Fw.z4, Fw.z5, Fw.z6, Fw.z7] <;> omega) | fail) only [go_sem]
      · simp (maxSteps := 1000000) (disch := first | omega | (simp only [Fw.z1, Fw.z2, Fw.z3, Fw.z4, Fw.z5, Fw.z6, Fw.z7] <;> omega) | fail) only [go_sem]
        rfl
    · rw [if_neg (by omega)] at hsn
      simp (maxSteps := 1000000) (disch := first | omega | (simp only [Fw.z1, Fw.z2, Fw.z3, Fw.z4, Fw.z5, Fw.z6, Fw.z7] <;> omega) | fail) only [go_sem, r4, r5, r7, r9, r10, r11, e2, hb3, hb4, hb5, h0]
      refine ⟨k - 1, by omega, _, i + 1, rfl, hB, by omega, by omega, ?_, ?_, ?_, ?_, ?_, ?_⟩
      · simp (maxSteps := 1000000) (disch := first | omega | (simp only [Fw.z1, Fw.z2, Fw.z3, Fw.z4, Fw.z5, Fw.z6, Fw.z7] <;> omega) | fail) only [go_sem, r4]
      · simp (maxSteps := 1000000) (disch := first | omega | (simp only [Fw.z1, Fw.z2, Fw.z3, Fw.z4, Fw.z5, Fw.z6, Fw.z7] <;> omega) | fail) only [go_sem, r5]
      · simp (maxSteps := 1000000) (disch := first | omega | (simp only [Fw.z1, Fw.z2, Fw.z3, Fw.z4, Fw.z5, Fw.z6, Fw.z7] <;> omega) | fail) only [go_sem, r7]
      · simp (maxSteps := 1000000) (disch := first | omega | (simp only [Fw.z1, Fw.z2, Fw.z3, Fw.z4, Fw.z5, Fw.z6, Fw.z7] <;> omega) | fail) only [go_sem, r9]
      · simp (maxSteps := 1000000) (disch := first | omega | (simp only [Fw.z1, Fw.z2, Fw.z3, Fw.z4, Fw.z5, Fw.z6, Fw.z7] <;> omega) | fail) only [go_sem, r10]
        rw [hsn]; rfl
      · simp (maxSteps := 1000000) (disch := first | omega | (simp only [Fw.z1, Fw.z2, Fw.z3, Fw.z4, Fw.z5, Fw.z6, Fw.z7] <;> omega) | fail) only [go_sem]
        rfl
  have e2 : ¬ (i : Int) < 289 := by omega
  rw [hend, List.take_of_length_le (by omega)] at r10
  have rowB0 : Row B 60 2 A4.next (([] : List (Int × Int)).flatMap pcE) ([] : List (Int × Int)).length (.slice (some ⟨A4.next, 0, none⟩) 0 0) := ⟨rfl, .inr ⟨A4.next, none, rfl, .inl rfl, Nat.le_refl _, by rw [hB, nx_alloc]; omega, by rw [hB]; exact get_alloc_same ..⟩⟩
  obtain ⟨p1, C1, q1, row1, oc1, lo1⟩ := rpc_more oB (Nat.le_refl _) oB.next rowB0 (((lng g 0 : Nat) : Int), 9) (Nat.zero_le _)
  have hlgB := lng_le g 0
  simp (maxSteps := 1000000) (disch := first | omega | (simp only [Fw.z1, Fw.z2, Fw.z3, Fw.z4, Fw.z5, Fw.z6, Fw.z7] <;> omega) | fail) only [go_sem, r4, r5, r7, r9, r10, r11, e2, q1]
  refine aw_loop (fun k x C => ∃ (ρ : Nat → Value) (i : Nat) (pv : Value), x = E 129 ρ [] ∧ Over A4 C ∧ Row C 60 2 A4.next (((((lng g 0 : Nat) : Int), 9) :: tabP g i).flatMap pcE) ((((lng g 0 : Nat) : Int), 9) :: tabP g i).length pv ∧ k = 289 - i ∧ i ≤ 289 ∧ ρ 4 = tv ∧ ρ 5 = gv ∧ ρ 7 = cv ∧ ρ 9 = pv ∧ ρ 12 = .int .i64 i) 289
    ⟨_, 0, p1, rfl, oc1, row1, rfl, Nat.zero_le _, by first | rfl | exact r4, by first | rfl | exact r5, by first | rfl | exact r7, rfl, rfl⟩ ?_
  clear r4 r5 r7 r9 r10 r11 hend e2 q1 row1 oc1 rowB0 hB oB hk hi hlgi htl
  rintro k x C ⟨ρ, i, pv, rfl, oC, rp, hk, hi, r4, r5, r7, r9, r12⟩
  refine aw_of ?_
  have htl2 := tabP_len g i
  by_cases hend : i = 289
  rotate_left
  · have e2 : (i : Int) < 289 := by omega
    obtain ⟨x, hx, hx15, _⟩ := hused i (by omega)
    obtain ⟨pb, po, hb1, hb2, hb3, cells, e', md, hb4, hb5⟩ := View.at1 (P := Try.prog) (e := 3) vg4 Try.sz3 (i64E_at _ i _ hx)
    have hb4' := (oC.get pb hb1).trans hb4
    have hgd2 := getD_some hx
    by_cases h0 : (x : Int) > 0
    · have htp : (((lng g 0 : Nat) : Int), (9 : Int)) :: tabP g (i + 1) = (((lng g 0 : Nat) : Int), 9) :: tabP g i ++ [((i : Int), 9)] ++ [((x : Int), 4)] := by
        rw [tabP, hgd2, if_pos h0]; simp
      obtain ⟨v1, C1, q1, row1, oc1, lo1⟩ := rpc_more oC (Nat.le_refl _) oC.next rp ((i : Int), 9) (by rw [List.length_cons]; omega)
      obtain ⟨v2, C2, q2, row2, oc2, lo2⟩ := rpc_more oc1 (Nat.le_refl _) oc1.next row1 ((x : Int), 4) (by rw [List.length_append, List.length_cons, List.length_singleton]; omega)
      rw [← htp] at row2
      have hc1 := (oc1.get pb hb1).trans hb4
      have hw1 : IntKind.u32.wrap (i : Int) = (i : Int) := by simp only [IntKind.wrap, IntKind.signed, IntKind.bits]; simp; omega
      have hw2 : IntKind.u32.wrap (x : Int) = (x : Int) := by simp only [IntKind.wrap, IntKind.signed, IntKind.bits]; simp; omega
      simp (maxSteps := 1000000) (disch := first | omega | (simp only [Fw.z1, Fw.z2, Fw.z3, Fw.z4, Fw.z5, Fw.z6, Fw.z7] <;> omega) | fail) only [go_sem, r4, r5, r7, r9, r12, e2, hb3, hb4', hb5, h0, hw1, q1, hc1, hw2, q2]
      refine ⟨k - 1, by omega, _, i + 1, v2, rfl, oc2, row2, by omega, by omega, ?_, ?_, ?_, ?_, ?_⟩
      · simp (maxSteps := 1000000) (disch := first | omega | (simp only [Fw.z1, Fw.z2, Fw.z3, Fw.z4, Fw.z5, Fw.z6, Fw.z7] <;> omega) | fail) only [go_sem, r4]
      · simp (maxSteps := 1000000) (disch := first | omega | (simp only [Fw.z1, Fw.z2, Fw.z3, Fw.z4, Fw.z5, Fw.z6, Fw.z7] <;> omega) | fail) only [go_sem, r5]
      · simp (maxSteps := 1000000) (disch := first | omega | (simp only [Fw.z1, Fw.z2, Fw.z3, Fw.z4, Fw.z5, Fw.z6, Fw.z7] <;> omega) | fail) only [go_sem, r7]
      · simp (maxSteps := 1000000) (disch := first | omega | (simp only [Fw.z1, Fw.z2, Fw.z3, Fw.z4, Fw.z5, Fw.z6, Fw.z7] <;> omega) | fail) only [go_sem]
      · simp (maxSteps := 1000000) (disch := first | omega | (simp only [Fw.z1, Fw.z2, Fw.z3, Fw.z4, Fw.z5, Fw.z6, Fw.z7] <;> omega) | fail) only [go_sem]
        rfl
    · have htp : tabP g (i + 1) = tabP g i := by rw [tabP, hgd2, if_neg h0, List.append_nil]
      simp (maxSteps := 1000000) (disch := first | omega | (simp only [Fw.z1, Fw.z2, Fw.z3, Fw.z4, Fw.z5, Fw.z6, Fw.z7] <;> omega) | fail) only [go_sem, r4, r5, r7, r9, r12, e2, hb3, hb4', hb5, h0]
      refine ⟨k - 1, by omega, _, i + 1, pv, rfl, oC, by rw [htp]; exact rp, by omega, by omega, ?_, ?_, ?_, ?_, ?_⟩
      · simp (maxSteps := 1000000) (disch := first | omega | (simp only [Fw.z1, Fw.z2, Fw.z3, Fw.z4, Fw.z5, Fw.z6, Fw.z7] <;> omega) | fail) only [go_sem, r4]
      · simp (maxSteps := 1000000) (disch := first | omega | (simp only [Fw.z1, Fw.z2, Fw.z3, Fw.z4, Fw.z5, Fw.z6, Fw.z7] <;> omega) | fail) only [go_sem, r5]
      · simp (maxSteps := 1000000) (disch := first | omega | (simp only [Fw.z1, Fw.z2, Fw.z3, Fw.z4, Fw.z5, Fw.z6, Fw.z7] <;> omega) | fail) only [go_sem, r7]
      · simp (maxSteps := 1000000) (disch := first | omega | (simp only [Fw.z1, Fw.z2, Fw.z3, Fw.z4, Fw.z5, Fw.z6, Fw.z7] <;> omega) | fail) only [go_sem, r9]
      · simp (maxSteps := 1000000) (disch := first | omega | (simp only [Fw.z1, Fw.z2, Fw.z3, Fw.z4, Fw.z5, Fw.z6, Fw.z7] <;> omega) | fail) only [go_sem]
        rfl
  have e2 : ¬ (i : Int) < 289 := by omega
  rw [hend] at rp
  generalize tabP g 289 = T at *
  obtain ⟨U, hU⟩ : ∃ U : List (Int × Int), U = (((lng g 0 : Nat) : Int), 9) :: T := ⟨_, rfl⟩
  have hsqU : sqP s = U ++ L.flatMap (tokP g) ++ [pieceAt g 288] := by rw [hsqP, hU]; simp
  rw [← hU] at rp
  have hUl : U.length ≤ 579 := by rw [hU, List.length_cons]; omega
  simp (maxSteps := 1000000) (disch := first | omega | (simp only [Fw.z1, Fw.z2, Fw.z3, Fw.z4, Fw.z5, Fw.z6, Fw.z7] <;> omega) | fail) only [go_sem, r4, r5, r7, r9, r12, e2]
  refine aw_loop (fun k x D => ∃ (ρ : Nat → Value) (i : Nat) (pv : Value), x = E 129 ρ [] ∧ Over A4 D ∧ Row D 60 2 A4.next ((U ++ (L.take i).flatMap (tokP g)).flatMap pcE) (U ++ (L.take i).flatMap (tokP g)).length pv ∧ k = L.length - i ∧ i ≤ L.length ∧ ρ 4 = tv ∧ ρ 7 = cv ∧ ρ 9 = pv ∧ ρ 13 = .int .i64 i) L.length
    ⟨_, 0, pv, rfl, oC, ?_, rfl, Nat.zero_le _, by first | rfl | exact r4, by first | rfl | exact r7, by first | rfl | exact r9, rfl⟩ ?_
  · rw [List.take_zero, List.flatMap_nil, List.append_nil]; exact rp
  clear r4 r5 r7 r9 r12 e2 hend rp hU hsqP hk hi oC htl2
  rintro k x D ⟨ρ, i, pv, rfl, oD, rp, hk, hi, r4, r7, r9, r13⟩
  refine aw_of ?_
  have hbl := bodyP_len g (L.take i)
  have htl2 : (L.take i).length ≤ i := List.length_take_le ..
  have hUl2 : (U ++ (L.take i).flatMap (tokP g)).length ≤ 20000 := by rw [List.length_append]; omega
  by_cases hend2 : i = L.length
  · have e2 : ¬ (i : Int) < (L.length : Nat) := by omega
    obtain ⟨b1, f1, x1, _, x3, cs1, e1', m1, x4, x5, x6, _⟩ := pcs_at (P := Try.prog) (e := 60) (View.over rcv oD) Try.sz60 (codeL_at (g := g) (k := 288) (by omega))
    have x3' : indexAddrU Try.prog (some (.slice 60)) cv (.int .i64 288) = _ := x3 .i64
    rw [hend2, List.take_length] at rp hUl2
    obtain ⟨p', C', q1, row', oc', _⟩ := rpc_more oD (Nat.le_refl _) oD.next rp (pieceAt g 288) (by omega)
    rw [← hsqU] at row'
    have rv := row'.view
    rw [flatP_eq] at rv
    simp (maxSteps := 1000000) (disch := first | omega | (simp only [Fw.z1, Fw.z2, Fw.z3, Fw.z4, Fw.z5, Fw.z6, Fw.z7] <;> omega) | fail) only [go_sem, r4, r7, r9, r13, hlt, e2, x3', x4, x5, x6, q1]
    refine call1 (rpack_ok w0 C' p' (sqP s) hpc (by omega) rv) ?_
    simp (maxSteps := 1000000) (disch := first | omega | (simp only [Fw.z1, Fw.z2, Fw.z3, Fw.z4, Fw.z5, Fw.z6, Fw.z7] <;> omega) | fail) only [go_sem, packR_eq, Try.results11]
    exact gc_fin' hw (oA4.trans oc') hsq.symm hbv
  have e2 : (i : Int) < (L.length : Nat) := by omega
  obtain ⟨t, ht⟩ : ∃ x, L[i]? = some x := ⟨_, List.getElem?_eq_getElem (by omega)⟩
  have htS := hS t (List.mem_of_getElem? ht)
  obtain ⟨b, off, hb1, hb2, hb3, cells, e', m, hb4, hb5, hb6, hb7, hb8, hb9⟩ := tks_at (P := Try.prog) (e := 33) vt4 Try.sz33 ht
  have hd4 := (oD.get b hb1).trans hb4
  have htk : L.take (i + 1) = L.take i ++ [t] := by rw [List.take_add_one, ht]; rfl
  rcases htS with ⟨z1, z2, z3, z4⟩ | ⟨z1, z2, z3, z4, z5⟩
  · obtain ⟨sk, hsk⟩ := Int.eq_ofNat_of_zero_le z2
    obtain ⟨b1, f1, x1, _, x3, cs1, e1', m1, x4, x5, x6, _⟩ := pcs_at (P := Try.prog) (e := 60) (View.over rcv oD) Try.sz60 (codeL_at (g := g) (k := sk) (by omega))
    obtain ⟨p3, C3, q1, row3, oc3, _⟩ := rpc_more oD (Nat.le_refl _) oD.next rp (pieceAt g sk) (by omega)
    have htp : tokP g t = [pieceAt g sk] := by unfold tokP; rw [if_pos z1, show t.1.toNat = sk by omega]
    have hst : U ++ (L.take (i + 1)).flatMap (tokP g) = U ++ (L.take i).flatMap (tokP g) ++ [pieceAt g sk] := by
      rw [htk, List.flatMap_append, List.flatMap_singleton, htp, List.append_assoc]
    rw [← hst] at row3
    have hwc : IntKind.i64.wrap (sk : Int) = (sk : Int) := wrap_small (by omega) (by omega)
    rw [hsk] at hb7
    simp (maxSteps := 1000000) (disch := first | omega | (simp only [Fw.z1, Fw.z2, Fw.z3, Fw.z4, Fw.z5, Fw.z6, Fw.z7] <;> omega) | fail) only [go_sem, r4, r7, r9, r13, hlt, e2, hb3, hd4, hb7, hb8, z1, hwc, x3, x4, x5, x6, q1]
    refine ⟨k - 1, by omega, _, i + 1, p3, rfl, oc3, row3, by omega, by omega, ?_, ?_, ?_, ?_⟩
    · simp (maxSteps := 1000000) (disch := first | omega | (simp only [Fw.z1, Fw.z2, Fw.z3, Fw.z4, Fw.z5, Fw.z6, Fw.z7] <;> omega) | fail) only [go_sem, r4]
    · simp (maxSteps := 1000000) (disch := first | omega | (simp only [Fw.z1, Fw.z2, Fw.z3, Fw.z4, Fw.z5, Fw.z6, Fw.z7] <;> omega) | fail) only [go_sem, r7]
    · simp (maxSteps := 1000000) (disch := first | omega | (simp only [Fw.z1, Fw.z2, Fw.z3, Fw.z4, Fw.z5, Fw.z6, Fw.z7] <;> omega) | fail) only [go_sem]
    · simp (maxSteps := 1000000) (disch := first | omega | (simp only [Fw.z1, Fw.z2, Fw.z3, Fw.z4, Fw.z5, Fw.z6, Fw.z7] <;> omega) | fail) only [go_sem]
      rfl
  · have e3 : ¬ t.2.1 = 0 := by omega
    obtain ⟨sk, hsk⟩ := Int.eq_ofNat_of_zero_le (show 0 ≤ t.2.1 + 253 by omega)
    obtain ⟨b1, f1, x1, _, x3, cs1, e1', m1, x4, x5, x6, _⟩ := pcs_at (P := Try.prog) (e := 60) (View.over rcv oD) Try.sz60 (codeL_at (g := g) (k := sk) (by omega))
    obtain ⟨p3, C3, q1, row3, oc3, _⟩ := rpc_more oD (Nat.le_refl _) oD.next rp (pieceAt g sk) (by omega)
    have hc4 := (oc3.get b hb1).trans hb4
    have htp : tokP g t = [pieceAt g sk, (t.2.2 - 1, 9)] := by unfold tokP; rw [if_neg (by omega), show (t.2.1 + 253).toNat = sk by omega]
    obtain ⟨p4, C4, q2, row4, oc4, _⟩ := rpc_more oc3 (Nat.le_refl _) oc3.next row3 (t.2.2 - 1, 9) (by rw [List.length_append, List.length_singleton]; omega)
    have hst : U ++ (L.take (i + 1)).flatMap (tokP g) = U ++ (L.take i).flatMap (tokP g) ++ [pieceAt g sk] ++ [(t.2.2 - 1, 9)] := by
      rw [htk, List.flatMap_append, List.flatMap_singleton, htp]; simp
    rw [← hst] at row4
    have hw1 : IntKind.i64.wrap (t.2.2 - 1) = t.2.2 - 1 := wrap_small (by omega) (by omega)
    have hw2 : IntKind.u32.wrap (t.2.2 - 1) = t.2.2 - 1 := by simp only [IntKind.wrap, IntKind.signed, IntKind.bits]; simp; omega
    have hw3 : IntKind.i64.wrap (256 + t.2.1) = 256 + t.2.1 := wrap_small (by omega) (by omega)
    have hw4 : IntKind.i64.wrap (256 + t.2.1 - 3) = (sk : Int) := by rw [wrap_small (by omega) (by omega)]; omega
    simp (maxSteps := 1000000) (disch := first | omega | (simp only [Fw.z1, Fw.z2, Fw.z3, Fw.z4, Fw.z5, Fw.z6, Fw.z7] <;> omega) | fail) only [go_sem, r4, r7, r9, r13, hlt, e2, hb3, hd4, hb7, hb8, hb9, e3, hw3, hw4, x3, x4, x5, x6, q1, hc4, hw1, hw2, q2]
    refine ⟨k - 1, by omega, _, i + 1, p4, rfl, oc4, row4, by omega, by omega, ?_, ?_, ?_, ?_⟩
    · simp (maxSteps := 1000000) (disch := first | omega | (simp only [Fw.z1, Fw.z2, Fw.z3, Fw.z4, Fw.z5, Fw.z6, Fw.z7] <;> omega) | fail) only [go_sem, r4]
    · simp (maxSteps := 1000000) (disch := first | omega | (simp only [Fw.z1, Fw.z2, Fw.z3, Fw.z4, Fw.z5, Fw.z6, Fw.z7] <;> omega) | fail) only [go_sem, r7]
    · simp (maxSteps := 1000000) (disch := first | omega | (simp only [Fw.z1, Fw.z2, Fw.z3, Fw.z4, Fw.z5, Fw.z6, Fw.z7] <;> omega) | fail) only [go_sem]
    · simp (maxSteps := 1000000) (disch := first | omega | (simp only [Fw.z1, Fw.z2, Fw.z3, Fw.z4, Fw.z5, Fw.z6, Fw.z7] <;> omega) | fail) only [go_sem]
      rfl
end Go.Fw
