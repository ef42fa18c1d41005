import Derived.Test.YtfmbflmknjlefaaFwWire23
set_option linter.unusedSimpArgs false
set_option linter.unusedVariables false
set_option maxRecDepth 4000
namespace Go.Fw
open Go.Proofs Go.RowKit
theorem Try.enters52 : Enters Try.prog 52 := enters_of Try.func52 rfl (by kernel_rfl)
theorem Try.enters53 : Enters Try.prog 53 := enters_of Try.func53 rfl (by kernel_rfl)
theorem Try.enters54 : Enters Try.prog 54 := enters_of Try.func54 rfl (by kernel_rfl)
theorem Try.enters55 : Enters Try.prog 55 := enters_of Try.func55 rfl (by kernel_rfl)
theorem Try.enters56 : Enters Try.prog 56 := enters_of Try.func56 rfl (by kernel_rfl)
theorem Try.enters57 : Enters Try.prog 57 := enters_of Try.func57 rfl (by kernel_rfl)
def rsB (s : RS) : Blk := .cells [.string (strOfNums s.1), .int .i64 s.2] 95 (some 0)
theorem gc_rs {A A' : St} {c : Nat} {s s' : RS} {v v' : Value} (hw : WF A) (hc : A.get c = some (rsB s)) (h : Over (A.upd c (some (rsB s'))) A') (hv : v' = v) (hb : Bnd A.next v) : GcE A (fin v (A.upd c (some (rsB s')))) (.returned v') A' :=
  gc_upd hw (hw c _ hc).1 (rdB_bnd _ s') h hv hb
theorem rs_self {A : St} {c : Nat} {s : RS} (hc : A.get c = some (rsB s)) : Over (A.upd c (some (rsB s))) A := over_upd (Nat.le_refl _) hc (fun b _ _ => rfl)
def fixS (w : Int) (s : RS) : Int × RS := if s.2 ≠ 0 then (0, s) else ((fixL s.1 w).1, ((fixL s.1 w).2.1, (fixL s.1 w).2.2))
theorem fixS_rw {w : Int} {s : RS} (hr : RW s.1) (h1 : 1 ≤ w) (h4 : w ≤ 4) : RW (fixS w s).2.1 ∧ 0 ≤ (fixS w s).1 ∧ (fixS w s).1 < 256 ^ w.toNat := by
  unfold fixS
  by_cases he : s.2 ≠ 0
  · rw [if_pos he]; exact ⟨hr, Int.le_refl _, Int.pow_pos (by omega)⟩
  · rw [if_neg he]
    obtain ⟨a, _, b, c, _⟩ := fixL_facts hr h1 h4 (n := (fixL s.1 w).1) (t := (fixL s.1 w).2.1) (e := (fixL s.1 w).2.2) rfl
    exact ⟨a, b, c⟩
theorem rsfix_ok (w0 : World) (A : St) (c : Nat) (s : RS) (w : Int) (hc : A.get c = some (rsB s)) (hr : RW s.1) :
    ACalls Try.prog w0 52 #[.pointer (some ⟨c, 0, none⟩), .int .i64 w] A (fin (.int .u64 (fixS w s).1) (A.upd c (some (rsB (fixS w s).2)))) := by
  refine call_E Try.enters52 Try.func52 rfl (Nat.le_of_ble_eq_true rfl) fun hw hbd => ?_
  obtain ⟨r, e⟩ := s
  have hc' := hc
  unfold rsB at hc'
  simp only at hc' hr
  by_cases he : e = 0
  rotate_left
  · have hq : fixS w (r, e) = (0, (r, e)) := if_pos he
    rw [hq]
    simp (maxSteps := 1000000) (disch := (first | omega | (simp only [nx_alloc, nx_upd, len_cons, len_nil, List.length_set, List.length_map, List.length_append] <;> omega) | fail)) only [go_sem, Try.ntmps52, Try.results52, hc', he]
    exact gc_rs hw hc (rs_self hc) rfl (.int _ _)
  subst he
  have hq : fixS w (r, 0) = ((fixL r w).1, ((fixL r w).2.1, (fixL r w).2.2)) := if_neg (by simp)
  rw [hq]
  simp (maxSteps := 1000000) (disch := (first | omega | (simp only [nx_alloc, nx_upd, len_cons, len_nil, List.length_set, List.length_map, List.length_append] <;> omega) | fail)) only [go_sem, Try.ntmps52, Try.results52, hc']
  refine call1 (rfixed_ok w0 A (strOfNums r) w (by rw [str_size]; have := hr.2; omega)) ?_
  rw [nums_str hr.1]
  rcases fixL r w with ⟨n, t, f⟩
  unfold getV
  simp (maxSteps := 1000000) (disch := (first | omega | (simp only [nx_alloc, nx_upd, len_cons, len_nil, List.length_set, List.length_map, List.length_append] <;> omega) | fail)) only [go_sem, hc', Try.results52]
  exact gc_rs hw hc (over_upd (Nat.le_refl _) (by simp (disch := (first | omega | (simp only [nx_alloc, nx_upd, len_cons, len_nil, List.length_set, List.length_map, List.length_append] <;> omega) | fail)) only [St.get_upd, St.get_alloc, St.next_alloc, St.next_upd, ↓reduceIte, natF_lt, natF_gt, natF_ne, Nat.add_assoc, Nat.reduceAdd, Nat.reduceEqDiff, Nat.add_left_cancel_iff]; rfl) (fun b hb hne => by simp (disch := (first | omega | (simp only [nx_alloc, nx_upd, len_cons, len_nil, List.length_set, List.length_map, List.length_append] <;> omega) | fail)) only [St.get_upd, St.get_alloc, St.next_alloc, St.next_upd, ↓reduceIte, natF_lt, natF_gt, natF_ne, Nat.add_assoc, Nat.reduceAdd, Nat.reduceEqDiff, Nat.add_left_cancel_iff])) rfl (.int _ _)
def manyQ (most : Int) (s : RS) : Int × RS := if (fixS 1 s).2.2 = 0 ∧ (fixS 1 s).1 > most then (0, ((fixS 1 s).2.1, 111)) else if (fixS 1 s).2.2 ≠ 0 then (0, (fixS 1 s).2) else fixS 1 s
theorem rsmany_ok (w0 : World) (A : St) (c : Nat) (s : RS) (most : Int) (hc : A.get c = some (rsB s)) (hr : RW s.1) :
    ACalls Try.prog w0 53 #[.pointer (some ⟨c, 0, none⟩), .int .i64 most] A (fin (.int .i64 (manyQ most s).1) (A.upd c (some (rsB (manyQ most s).2)))) := by
  refine call_E Try.enters53 Try.func53 rfl (Nat.le_of_ble_eq_true rfl) fun hw hbd => ?_
  have hcn := (hw c _ hc).1
  obtain ⟨f1, f2, f3⟩ := fixS_rw hr (w := 1) (by omega) (by omega)
  simp (maxSteps := 1000000) (disch := (first | omega | (simp only [nx_alloc, nx_upd, len_cons, len_nil, List.length_set, List.length_map, List.length_append] <;> omega) | fail)) only [go_sem, Try.ntmps53, Try.results53]
  refine call1 (rsfix_ok w0 A c s 1 hc hr) ?_
  have hq : manyQ most s = if (fixS 1 s).2.2 = 0 ∧ (fixS 1 s).1 > most then (0, ((fixS 1 s).2.1, 111)) else if (fixS 1 s).2.2 ≠ 0 then (0, (fixS 1 s).2) else fixS 1 s := rfl
  rw [hq]
  rcases hf : fixS 1 s with ⟨n, t, e⟩
  rw [hf] at f1 f2 f3
  simp only at f1 f2 f3 ⊢
  have f3' : n < 256 := by simpa using f3
  have hwn : IntKind.wrap .i64 n = n := IntWalk.i64_in _ (by constructor <;> omega)
  have hg : (A.upd c (some (rsB (t, e)))).get c = some (.cells [.string (strOfNums t), .int .i64 e] 95 (some 0)) := get_upd_same ..
  have ov : Over (A.upd c (some (rsB (t, e)))) (A.upd c (some (rsB (t, e)))) := Over.refl _
  obtain ⟨A2, hA2⟩ : ∃ A2, A2 = A.upd c (some (rsB (t, e))) := ⟨_, rfl⟩
  have o2 : ∀ b, b < A.next → b ≠ c → A2.get b = A.get b := fun b hb hne => by rw [hA2, St.get_upd, if_neg hne]
  have n2 : A2.next = A.next := by rw [hA2]; rfl
  have g2 : A2.get c = some (rsB (t, e)) := by rw [hA2]; exact hg
  rw [← hA2] at hg ⊢
  by_cases he : e = 0
  rotate_left
  · rw [if_neg (fun h => he h.1), if_pos he]
    simp (maxSteps := 1000000) (disch := (first | omega | (simp only [nx_alloc, nx_upd, len_cons, len_nil, List.length_set, List.length_map, List.length_append] <;> omega) | fail)) only [go_sem, he, hg, Try.results53]
    exact gc_rs hw hc (over_upd (by omega) g2 (fun b hb hne => o2 b hb hne)) rfl (.int _ _)
  subst he
  by_cases hbig : n > most
  · rw [if_pos ⟨rfl, hbig⟩]
    have hbig' : most < n := hbig
    simp (maxSteps := 1000000) (disch := (first | omega | (simp only [nx_alloc, nx_upd, len_cons, len_nil, List.length_set, List.length_map, List.length_append] <;> omega) | fail)) only [go_sem, hwn, hbig', hg, Try.results53]
    exact gc_rs hw hc (over_upd (by show A.next ≤ A2.next; omega) (get_upd_same ..) (fun b hb hne => by rw [St.get_upd, if_neg hne]; exact o2 b hb hne)) rfl (.int _ _)
  · rw [if_neg (fun h => hbig h.2), if_neg (by simp)]
    have hbig' : ¬ most < n := hbig
    simp (maxSteps := 1000000) (disch := (first | omega | (simp only [nx_alloc, nx_upd, len_cons, len_nil, List.length_set, List.length_map, List.length_append] <;> omega) | fail)) only [go_sem, hwn, hbig', hg, Try.results53]
    exact gc_rs hw hc (over_upd (by omega) g2 (fun b hb hne => o2 b hb hne)) rfl (.int _ _)
/-- Something that was read, with what is left. -/
def RsPost {α : Type} (c : Nat) (E : α → St → Value → Prop) (p : α × RS) (A : St) (e : Ending) (A' : St) : Prop := ∃ v, e = .returned v ∧ Over (A.upd c (some (rsB p.2))) A' ∧ E p.1 A' v
def reqS (s : RS) : ReqT × RS := if s.2 ≠ 0 then (rq0, s) else ((reqP s.1).1, ((reqP s.1).2.1, (reqP s.1).2.2))
def verS (s : RS) : VerT × RS := if s.2 ≠ 0 then (verN, s) else ((progR s.1).1, ((progR s.1).2.1, (progR s.1).2.2))
set_option maxHeartbeats 4000000 in
theorem rsreq_ok (w0 : World) (A : St) (c : Nat) (s : RS) (hc : A.get c = some (rsB s)) (hr : RW s.1) :
    ACalls Try.prog w0 54 #[.pointer (some ⟨c, 0, none⟩)] A (RsPost c (fun x A' v => ReqRow A' A.next x v) (reqS s) A) := by
  refine call_E Try.enters54 Try.func54 rfl (Nat.le_of_ble_eq_true rfl) fun hw hbd => ?_
  have hcn := (hw c _ hc).1
  obtain ⟨r, e⟩ := s
  have hc' := hc
  unfold rsB at hc'
  simp only at hc' hr
  have hbld : abuild Try.prog 31 #[] = some (.agg #[.int .i64 0, .int .u32 0, .int .i64 0, .int .u32 0, .int .u32 0, .slice none 0 0, .slice none 0 0, .slice none 0 0]) := by kernel_rfl
  have hld8 := ldN (n := 8) (cs := [.int .i64 0, .int .u32 0, .int .i64 0, .int .u32 0, .int .u32 0, .slice none 0 0, .slice none 0 0, .slice none 0 0]) (e := 31) (m := some 0) rfl
  obtain ⟨A1, hA1⟩ : ∃ A1, A1 = A.alloc (.cells [.int .i64 0, .int .u32 0, .int .i64 0, .int .u32 0, .int .u32 0, .slice none 0 0, .slice none 0 0, .slice none 0 0] 31 (some 0)) := ⟨_, rfl⟩
  have o1 : Over A A1 := hA1 ▸ (Over.refl A).alloc _
  have n1 : A1.next = A.next + 1 := by rw [hA1]; rfl
  have g1 : A1.get A.next = some (.cells [.int .i64 0, .int .u32 0, .int .i64 0, .int .u32 0, .int .u32 0, .slice none 0 0, .slice none 0 0, .slice none 0 0] 31 (some 0)) := by rw [hA1]; exact get_alloc_same ..
  have gc1 := (o1.get c hcn).trans hc'
  by_cases he : e = 0
  rotate_left
  · have hq : reqS (r, e) = (rq0, (r, e)) := if_pos he
    rw [hq]
    simp (maxSteps := 1000000) (disch := (first | omega | (simp only [nx_alloc, nx_upd, len_cons, len_nil, List.length_set, List.length_map, List.length_append] <;> omega) | fail)) only [go_sem, Try.ntmps54, Try.results54, hc', he]
    rw [← hA1]
    try simp (maxSteps := 1000000) (disch := (first | omega | (simp only [nx_alloc, nx_upd, len_cons, len_nil, List.length_set, List.length_map, List.length_append] <;> omega) | fail)) only [go_sem, g1, gc1, he, hbld, hld8, Try.results54]
    refine gc_here ⟨_, rfl, over_upd (by show A.next ≤ A1.next; omega) (by rw [get_upd_old (by omega)]; exact gc1) (fun b hb hne => by rw [get_upd_old (by omega)]; exact o1.get b hb), _, _, _, rfl, Row.nil .., Row.nil .., Row.nil ..⟩
  subst he
  have hq : reqS (r, 0) = ((reqP r).1, ((reqP r).2.1, (reqP r).2.2)) := if_neg (by simp)
  rw [hq]
  simp (maxSteps := 1000000) (disch := (first | omega | (simp only [nx_alloc, nx_upd, len_cons, len_nil, List.length_set, List.length_map, List.length_append] <;> omega) | fail)) only [go_sem, Try.ntmps54, Try.results54, hc']
  rw [← hA1]
  try simp (maxSteps := 1000000) (disch := (first | omega | (simp only [nx_alloc, nx_upd, len_cons, len_nil, List.length_set, List.length_map, List.length_append] <;> omega) | fail)) only [go_sem, gc1]
  refine (rgetq_ok w0 A1 (strOfNums r) (by rw [str_size]; exact hr.2)).mono ?_
  rw [nums_str hr.1]
  rcases hp : reqP r with ⟨x, t, f⟩
  rintro e A2 ⟨v, rfl, o2, hx⟩
  have hx0 := hx
  obtain ⟨p, q', u, rfl, v1, v2, v3⟩ := hx
  have n2 := o2.next
  have k1 : A2.get A.next = _ := (o2.get _ (by omega)).trans g1
  have k2 : A2.get c = _ := (o2.get _ (by omega)).trans gc1
  have hrq : ReqC A2 x [.int .i64 x.client, .int .u32 x.seq, .int .i64 x.op.kind, .int .u32 x.op.id, .int .u32 x.op.v.id, p, q', u] := ⟨_, rfl, _, rfl, _, _, _, rfl, Row.view v1, Row.view v2, Row.view v3⟩
  have hldr := fun e' m => ldN (e := e') (m := m) hrq.len
  have hstr := fun (X : St) (b : Nat) => stN (n := 8) (X := X) (b := b) (z := [.int .i64 0, .int .u32 0, .int .i64 0, .int .u32 0, .int .u32 0, .slice none 0 0, .slice none 0 0, .slice none 0 0]) (e := 31) rfl hrq.len hrq.cell
  have p1 := cellOf1 (Row.sing v1)
  have p2 := cellOf1 (Row.sing v2)
  have p3 := cellOf1 (Row.sing v3)
  have hne : A2.next ≠ c := by omega
  have hne2 : A.next ≠ c := by omega
  have hne3 : A.next ≠ A2.next := by omega
  simp (maxSteps := 1000000) (disch := (first | omega | (simp only [nx_alloc, nx_upd, len_cons, len_nil, List.length_set, List.length_map, List.length_append] <;> omega) | fail)) only [go_sem, k1, k2, hldr, hstr, p1, p2, p3, Try.results54]
  refine gc_here ⟨_, rfl, over_upd (by show A.next ≤ A2.next + 1; omega) ?_ ?_, _, _, _, rfl, Row.keep v1 (by show A2.next ≤ A2.next + 1; omega) ?_ (by omega), Row.keep v2 (by show A2.next ≤ A2.next + 1; omega) ?_ (by omega), Row.keep v3 (by show A2.next ≤ A2.next + 1; omega) ?_ (by omega)⟩
  · simp (disch := (first | omega | (simp only [nx_alloc, nx_upd, len_cons, len_nil, List.length_set, List.length_map, List.length_append] <;> omega) | fail)) only [St.get_upd, St.get_alloc, St.next_alloc, St.next_upd, ↓reduceIte, natF_lt, natF_gt, natF_ne, Nat.add_assoc, Nat.reduceAdd, Nat.reduceEqDiff, Nat.add_left_cancel_iff]
    rfl
  · intro b hb hbc
    rw [get_upd_old (by omega), get_upd_old (by omega), get_upd_old (by omega), get_upd_old (by omega), get_alloc_old (by omega), o2.get b (by omega), o1.get b hb]
  all_goals
    intro b _ hb1 hb2
    rw [get_upd_old (by omega), get_upd_old (by omega), get_upd_old (by omega), get_upd_old (by omega), get_alloc_old (by omega)]
set_option maxHeartbeats 4000000 in
theorem rsver_ok (w0 : World) (A : St) (c : Nat) (s : RS) (hc : A.get c = some (rsB s)) (hr : RW s.1) :
    ACalls Try.prog w0 55 #[.pointer (some ⟨c, 0, none⟩)] A (RsPost c (fun V A' v => VerRow A' A.next V v) (verS s) A) := by
  refine call_E Try.enters55 Try.func55 rfl (Nat.le_of_ble_eq_true rfl) fun hw hbd => ?_
  have hcn := (hw c _ hc).1
  obtain ⟨r, e⟩ := s
  have hc' := hc
  unfold rsB at hc'
  simp only at hc' hr
  have hbld : abuild Try.prog 27 #[] = some (.agg #[.int .u32 0, .slice none 0 0, .slice none 0 0, .slice none 0 0]) := by kernel_rfl
  have hld4 := ldN (n := 4) (cs := [.int .u32 0, .slice none 0 0, .slice none 0 0, .slice none 0 0]) (e := 27) (m := some 0) rfl
  obtain ⟨A1, hA1⟩ : ∃ A1, A1 = A.alloc (.cells [.int .u32 0, .slice none 0 0, .slice none 0 0, .slice none 0 0] 27 (some 0)) := ⟨_, rfl⟩
  have o1 : Over A A1 := hA1 ▸ (Over.refl A).alloc _
  have n1 : A1.next = A.next + 1 := by rw [hA1]; rfl
  have g1 : A1.get A.next = some (.cells [.int .u32 0, .slice none 0 0, .slice none 0 0, .slice none 0 0] 27 (some 0)) := by rw [hA1]; exact get_alloc_same ..
  have gc1 := (o1.get c hcn).trans hc'
  by_cases he : e = 0
  rotate_left
  · have hq : verS (r, e) = (verN, (r, e)) := if_pos he
    rw [hq]
    simp (maxSteps := 1000000) (disch := (first | omega | (simp only [nx_alloc, nx_upd, len_cons, len_nil, List.length_set, List.length_map, List.length_append] <;> omega) | fail)) only [go_sem, Try.ntmps55, Try.results55, hc', he]
    rw [← hA1]
    try simp (maxSteps := 1000000) (disch := (first | omega | (simp only [nx_alloc, nx_upd, len_cons, len_nil, List.length_set, List.length_map, List.length_append] <;> omega) | fail)) only [go_sem, g1, gc1, he, hbld, hld4, Try.results55]
    refine gc_here ⟨_, rfl, over_upd (by show A.next ≤ A1.next; omega) (by rw [get_upd_old (by omega)]; exact gc1) (fun b hb hne => by rw [get_upd_old (by omega)]; exact o1.get b hb), _, _, _, rfl, Row.nil .., Row.nil .., Row.nil ..⟩
  subst he
  have hq : verS (r, 0) = ((progR r).1, ((progR r).2.1, (progR r).2.2)) := if_neg (by simp)
  rw [hq]
  simp (maxSteps := 1000000) (disch := (first | omega | (simp only [nx_alloc, nx_upd, len_cons, len_nil, List.length_set, List.length_map, List.length_append] <;> omega) | fail)) only [go_sem, Try.ntmps55, Try.results55, hc']
  rw [← hA1]
  try simp (maxSteps := 1000000) (disch := (first | omega | (simp only [nx_alloc, nx_upd, len_cons, len_nil, List.length_set, List.length_map, List.length_append] <;> omega) | fail)) only [go_sem, gc1]
  refine (rread_ver_ok w0 A1 (strOfNums r) (by rw [str_size]; exact hr.2)).mono ?_
  rw [nums_str hr.1]
  rcases hp : progR r with ⟨V, t, f⟩
  rintro e A2 ⟨v, rfl, o2, p, q', u, rfl, v1, v2, v3⟩
  have n2 := o2.next
  have k1 : A2.get A.next = _ := (o2.get _ (by omega)).trans g1
  have k2 : A2.get c = _ := (o2.get _ (by omega)).trans gc1
  have p1 := cellOf1 (Row.sing v1)
  have p2 := cellOf1 (Row.sing v2)
  have p3 := cellOf1 (Row.sing v3)
  have hldr := fun e' m => ldN (n := 4) (cs := [.int .u32 V.id, p, q', u]) (e := e') (m := m) rfl
  have hstr := fun (X : St) (b : Nat) => stN (n := 4) (X := X) (b := b) (z := [.int .u32 0, .slice none 0 0, .slice none 0 0, .slice none 0 0]) (cs := [.int .u32 V.id, p, q', u]) (e := 27) rfl rfl (by simp [p1, p2, p3]; rfl)
  have hne : A2.next ≠ c := by omega
  have hne2 : A.next ≠ c := by omega
  have hne3 : A.next ≠ A2.next := by omega
  simp (maxSteps := 1000000) (disch := (first | omega | (simp only [nx_alloc, nx_upd, len_cons, len_nil, List.length_set, List.length_map, List.length_append] <;> omega) | fail)) only [go_sem, k1, k2, hldr, hstr, p1, p2, p3, Try.results55]
  refine gc_here ⟨_, rfl, over_upd (by show A.next ≤ A2.next + 1; omega) ?_ ?_, _, _, _, rfl, Row.keep v1 (by show A2.next ≤ A2.next + 1; omega) ?_ (by omega), Row.keep v2 (by show A2.next ≤ A2.next + 1; omega) ?_ (by omega), Row.keep v3 (by show A2.next ≤ A2.next + 1; omega) ?_ (by omega)⟩
  · simp (disch := (first | omega | (simp only [nx_alloc, nx_upd, len_cons, len_nil, List.length_set, List.length_map, List.length_append] <;> omega) | fail)) only [St.get_upd, St.get_alloc, St.next_alloc, St.next_upd, ↓reduceIte, natF_lt, natF_gt, natF_ne, Nat.add_assoc, Nat.reduceAdd, Nat.reduceEqDiff, Nat.add_left_cancel_iff]
    rfl
  · intro b hb hbc
    rw [get_upd_old (by omega), get_upd_old (by omega), get_upd_old (by omega), get_upd_old (by omega), get_alloc_old (by omega), o2.get b (by omega), o1.get b hb]
  all_goals
    intro b _ hb1 hb2
    rw [get_upd_old (by omega), get_upd_old (by omega), get_upd_old (by omega), get_upd_old (by omega), get_alloc_old (by omega)]
theorem rstext_ok (w0 : World) (A : St) (c : Nat) (s : RS) (hc : A.get c = some (rsB s)) (hr : RW s.1) :
    ACalls Try.prog w0 57 #[.pointer (some ⟨c, 0, none⟩)] A (fin (.string (strOfNums (textS s).1)) (A.upd c (some (rsB (textS s).2)))) := by
  refine call_E Try.enters57 Try.func57 rfl (Nat.le_of_ble_eq_true rfl) fun hw hbd => ?_
  obtain ⟨r, e⟩ := s
  have hc' := hc
  unfold rsB at hc'
  simp only at hc' hr
  by_cases he : e = 0
  rotate_left
  · have hq : textS (r, e) = ([], (r, e)) := if_pos he
    rw [hq]
    simp (maxSteps := 1000000) (disch := (first | omega | (simp only [nx_alloc, nx_upd, len_cons, len_nil, List.length_set, List.length_map, List.length_append] <;> omega) | fail)) only [go_sem, Try.ntmps57, Try.results57, hc', he]
    exact gc_rs hw hc (rs_self hc) rfl (.string _)
  subst he
  have hq : textS (r, 0) = ((readL r).1, ((readL r).2.1, (readL r).2.2)) := if_neg (by simp)
  rw [hq]
  simp (maxSteps := 1000000) (disch := (first | omega | (simp only [nx_alloc, nx_upd, len_cons, len_nil, List.length_set, List.length_map, List.length_append] <;> omega) | fail)) only [go_sem, Try.ntmps57, Try.results57, hc']
  refine call1 (rread_ok w0 A (strOfNums r) (by rw [str_size]; have := hr.2; omega)) ?_
  rw [nums_str hr.1]
  rcases readL r with ⟨n, t, f⟩
  unfold readV
  simp (maxSteps := 1000000) (disch := (first | omega | (simp only [nx_alloc, nx_upd, len_cons, len_nil, List.length_set, List.length_map, List.length_append] <;> omega) | fail)) only [go_sem, hc', Try.results57]
  exact gc_rs hw hc (over_upd (Nat.le_refl _) (by simp (disch := (first | omega | (simp only [nx_alloc, nx_upd, len_cons, len_nil, List.length_set, List.length_map, List.length_append] <;> omega) | fail)) only [St.get_upd, St.get_alloc, St.next_alloc, St.next_upd, ↓reduceIte, natF_lt, natF_gt, natF_ne, Nat.add_assoc, Nat.reduceAdd, Nat.reduceEqDiff, Nat.add_left_cancel_iff]; rfl) (fun b hb hne => by simp (disch := (first | omega | (simp only [nx_alloc, nx_upd, len_cons, len_nil, List.length_set, List.length_map, List.length_append] <;> omega) | fail)) only [St.get_upd, St.get_alloc, St.next_alloc, St.next_upd, ↓reduceIte, natF_lt, natF_gt, natF_ne, Nat.add_assoc, Nat.reduceAdd, Nat.reduceEqDiff, Nat.add_left_cancel_iff])) rfl (.string _)
set_option maxHeartbeats 4000000 in
theorem rshash_ok (w0 : World) (A : St) (c : Nat) (s : RS) (hc : A.get c = some (rsB s)) (hr : RW s.1) :
    ACalls Try.prog w0 56 #[.pointer (some ⟨c, 0, none⟩)] A (fin (.agg (hsC (hashS s).1).toArray) (A.upd c (some (rsB (hashS s).2)))) := by
  refine call_E Try.enters56 Try.func56 rfl (Nat.le_of_ble_eq_true rfl) fun hw hbd => ?_
  have hcn := (hw c _ hc).1
  obtain ⟨r, e⟩ := s
  have hc' := hc
  unfold rsB at hc'
  simp only at hc' hr
  have hsz := str_size r
  have hn := nums_str hr.1
  have hzl := hsC_len zeroH
  by_cases he : e = 0
  rotate_left
  · have hq : hashS (r, e) = (zeroH, (r, e)) := if_pos he
    rw [hq]
    simp (maxSteps := 1000000) (disch := (first | omega | (simp only [nx_alloc, nx_upd, len_cons, len_nil, List.length_set, List.length_map, List.length_append] <;> omega) | fail)) only [go_sem, Try.ntmps56, Try.results56, hc', he, buildH, storeHs, loadHs]
    refine gc_rs hw hc (over_upd ?_ ?_ ?_) rfl (bndHs _ _)
    · (try simp only [nx_upd, nx_alloc]); omega
    · simp (disch := (first | omega | (simp only [nx_alloc, nx_upd, len_cons, len_nil, List.length_set, List.length_map, List.length_append] <;> omega) | fail)) only [St.get_upd, St.get_alloc, St.next_alloc, St.next_upd, ↓reduceIte, natF_lt, natF_gt, natF_ne, Nat.add_assoc, Nat.reduceAdd, Nat.reduceEqDiff, Nat.add_left_cancel_iff]
      exact hc
    · intro b hb hne
      simp (disch := (first | omega | (simp only [nx_alloc, nx_upd, len_cons, len_nil, List.length_set, List.length_map, List.length_append] <;> omega) | fail)) only [St.get_upd, St.get_alloc, St.next_alloc, St.next_upd, ↓reduceIte, natF_lt, natF_gt, natF_ne, Nat.add_assoc, Nat.reduceAdd, Nat.reduceEqDiff, Nat.add_left_cancel_iff]
  subst he
  by_cases h32 : 32 ≤ r.length
  rotate_left
  · have hq : hashS (r, 0) = (zeroH, (r, 40)) := by unfold hashS; rw [if_neg (by simp), dif_neg h32]
    have h32' : ((strOfNums r).size : Int) < 32 := by omega
    rw [hq]
    simp (maxSteps := 1000000) (disch := (first | omega | (simp only [nx_alloc, nx_upd, len_cons, len_nil, List.length_set, List.length_map, List.length_append] <;> omega) | fail)) only [go_sem, Try.ntmps56, Try.results56, hc', buildH, storeHs, loadHs]
    refine gc_rs hw hc (over_upd ?_ ?_ ?_) rfl (bndHs _ _)
    · (try simp only [nx_upd, nx_alloc]); omega
    · simp (disch := (first | omega | (simp only [nx_alloc, nx_upd, len_cons, len_nil, List.length_set, List.length_map, List.length_append] <;> omega) | fail)) only [St.get_upd, St.get_alloc, St.next_alloc, St.next_upd, ↓reduceIte, natF_lt, natF_gt, natF_ne, Nat.add_assoc, Nat.reduceAdd, Nat.reduceEqDiff, Nat.add_left_cancel_iff]
      rfl
    · intro b hb hne
      simp (disch := (first | omega | (simp only [nx_alloc, nx_upd, len_cons, len_nil, List.length_set, List.length_map, List.length_append] <;> omega) | fail)) only [St.get_upd, St.get_alloc, St.next_alloc, St.next_upd, ↓reduceIte, natF_lt, natF_gt, natF_ne, Nat.add_assoc, Nat.reduceAdd, Nat.reduceEqDiff, Nat.add_left_cancel_iff]
  have hq : hashS (r, 0) = (⟨r.take 32, by rw [List.length_take]; omega⟩, (r.drop 32, 0)) := by unfold hashS; rw [if_neg (by simp), dif_pos h32]
  have h32' : ¬ ((strOfNums r).size : Int) < 32 := by omega
  rw [hq]
  simp (maxSteps := 1000000) (disch := (first | omega | (simp only [nx_alloc, nx_upd, len_cons, len_nil, List.length_set, List.length_map, List.length_append] <;> omega) | fail)) only [go_sem, Try.ntmps56, Try.results56, hc', buildH, storeHs]
  refine aw_loop (fun k x A' => ∃ (ρ : Nat → Value) (i : Nat), x = E 49 ρ [] ∧ k = 32 - i ∧ i ≤ 32 ∧ Over A A' ∧ A'.next = A.next + 2 ∧ A'.get A.next = some (.cells (hsC zeroH) 43 (some 0)) ∧ A'.get (A.next + 1) = some (.cells (cutH r i) 43 (some 0)) ∧
      ρ 0 = .pointer (some ⟨c, 0, none⟩) ∧ ρ 2 = .pointer (some ⟨A.next, 0, none⟩) ∧ ρ 3 = .pointer (some ⟨A.next + 1, 0, none⟩) ∧ ρ 4 = .int .i64 i) 32
    ⟨_, 0, rfl, rfl, Nat.zero_le _, ((((Over.refl A).alloc _).alloc _).upd (by omega) _), rfl, by simp (disch := (first | omega | (simp only [nx_alloc, nx_upd, len_cons, len_nil, List.length_set, List.length_map, List.length_append] <;> omega) | fail)) only [St.get_upd, St.get_alloc, St.next_alloc, St.next_upd, ↓reduceIte, natF_lt, natF_gt, natF_ne, Nat.add_assoc, Nat.reduceAdd, Nat.reduceEqDiff, Nat.add_left_cancel_iff]; rfl, by simp (disch := (first | omega | (simp only [nx_alloc, nx_upd, len_cons, len_nil, List.length_set, List.length_map, List.length_append] <;> omega) | fail)) only [St.get_upd, St.get_alloc, St.next_alloc, St.next_upd, ↓reduceIte, natF_lt, natF_gt, natF_ne, Nat.add_assoc, Nat.reduceAdd, Nat.reduceEqDiff, Nat.add_left_cancel_iff]; rfl, rfl, rfl, rfl, rfl⟩ ?_
  rintro k x A' ⟨ρ, i, rfl, hk, hi, ho, hn2, z0, z1, g0, g2, g3, g4⟩
  refine aw_of ?_
  have zc := (ho.get c hcn).trans hc'
  by_cases hend : i = 32
  rotate_left
  · have e1 : ((i : Int) < 32) := by omega
    have hcx : r[i]? = some (sbt (strOfNums r) i) := by have := sbt_nums (strOfNums r) i (by omega); rw [hn] at this; exact this
    have hcl := cutH_len r i hi h32
    have hset := cutH_set r i (by omega) h32 _ hcx
    simp (maxSteps := 1000000) (disch := (first | omega | (simp only [nx_alloc, nx_upd, len_cons, len_nil, List.length_set, List.length_map, List.length_append] <;> omega) | fail)) only [go_sem, g0, g2, g3, g4, z1, zc, hcl, hset]
    refine ⟨k - 1, by omega, _, i + 1, rfl, by omega, by omega, ho.upd (by omega) _, hn2, ?_, ?_, ?_, ?_, ?_, ?_⟩
    · exact z0
    · rfl
    · simp (maxSteps := 1000000) (disch := (first | omega | (simp only [nx_alloc, nx_upd, len_cons, len_nil, List.length_set, List.length_map, List.length_append] <;> omega) | fail)) only [go_sem, g0]
    · simp (maxSteps := 1000000) (disch := (first | omega | (simp only [nx_alloc, nx_upd, len_cons, len_nil, List.length_set, List.length_map, List.length_append] <;> omega) | fail)) only [go_sem, g2]
    · simp (maxSteps := 1000000) (disch := (first | omega | (simp only [nx_alloc, nx_upd, len_cons, len_nil, List.length_set, List.length_map, List.length_append] <;> omega) | fail)) only [go_sem, g3]
    · simp (maxSteps := 1000000) (disch := (first | omega | (simp only [nx_alloc, nx_upd, len_cons, len_nil, List.length_set, List.length_map, List.length_append] <;> omega) | fail)) only [go_sem]
      rfl
  subst hend
  have hH : cutH r 32 = hsC ⟨r.take 32, by rw [List.length_take]; omega⟩ := by unfold cutH hsC; rw [Nat.sub_self, List.replicate_zero, List.append_nil]
  rw [hH] at z1
  have x2 := str_drop hr.1 32
  have h32n : 32 ≤ (strOfNums r).size := by omega
  generalize (⟨r.take 32, by rw [List.length_take]; omega⟩ : HashT) = hh at *
  rw [← hsz] at x2
  simp (maxSteps := 1000000) (disch := (first | omega | (simp only [nx_alloc, nx_upd, len_cons, len_nil, List.length_set, List.length_map, List.length_append] <;> omega) | fail)) only [go_sem, g0, g2, g3, g4, z0, z1, zc, storeHs, loadHs, hzl, x2, Try.results56]
  refine gc_rs hw hc (over_upd ?_ ?_ ?_) rfl (bndHs _ _)
  · (try simp only [nx_upd, nx_alloc]); omega
  · simp (disch := (first | omega | (simp only [nx_alloc, nx_upd, len_cons, len_nil, List.length_set, List.length_map, List.length_append] <;> omega) | fail)) only [St.get_upd, St.get_alloc, St.next_alloc, St.next_upd, ↓reduceIte, natF_lt, natF_gt, natF_ne, Nat.add_assoc, Nat.reduceAdd, Nat.reduceEqDiff, Nat.add_left_cancel_iff]
    rfl
  · intro b hb hne
    simp (disch := (first | omega | (simp only [nx_alloc, nx_upd, len_cons, len_nil, List.length_set, List.length_map, List.length_append] <;> omega) | fail)) only [St.get_upd, St.get_alloc, St.next_alloc, St.next_upd, ↓reduceIte, natF_lt, natF_gt, natF_ne, Nat.add_assoc, Nat.reduceAdd, Nat.reduceEqDiff, Nat.add_left_cancel_iff]
    exact ho.get b hb
end Go.Fw
