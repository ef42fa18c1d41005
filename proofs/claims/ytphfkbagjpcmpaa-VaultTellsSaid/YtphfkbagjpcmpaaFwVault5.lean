import Derived.Test.YtphfkbagjpcmpaaFwVault4
set_option linter.unusedSimpArgs false
set_option linter.unusedVariables false
namespace Go.Fw
open Go.Proofs Go.RowKit
theorem Try.enters13 : Enters Try.prog 13 := enters_of Try.func13 rfl (by kernel_rfl)
structure StT where
  vers : List VerT
  seqs : List Int
  last : List ReplyT
structure ReqT where
  client : Int
  seq : Int
  op : VOp
def ReqC (A : St) (r : ReqT) (cs : List Value) : Prop := ∃ oc, cs = .int .i64 r.client :: .int .u32 r.seq :: oc ∧ VOpC A r.op oc
theorem ReqC.ge {A A' : St} {r : ReqT} {cs : List Value} (h : ReqC A r cs) (g : Ge A A') : ReqC A' r cs := by
  obtain ⟨oc, rfl, h⟩ := h; exact ⟨oc, rfl, h.ge g⟩
theorem VOpC.len {A : St} {o : VOp} {cs : List Value} (h : VOpC A o cs) : cs.length = 6 := by
  obtain ⟨vs, rfl, h⟩ := h; rw [List.length_cons, List.length_cons, h.len]
theorem VOpC.cell {A : St} {o : VOp} {cs : List Value} (h : VOpC A o cs) : cs.all cell1 = true := by
  obtain ⟨vs, rfl, h⟩ := h; rw [List.all_cons, List.all_cons, h.cell]; rfl
theorem ReqC.len {A : St} {r : ReqT} {cs : List Value} (h : ReqC A r cs) : cs.length = 8 := by
  obtain ⟨oc, rfl, h⟩ := h; rw [List.length_cons, List.length_cons, h.len]
theorem ReqC.cell {A : St} {r : ReqT} {cs : List Value} (h : ReqC A r cs) : cs.all cell1 = true := by
  obtain ⟨oc, rfl, h⟩ := h; rw [List.all_cons, List.all_cons, h.cell]; rfl
/-- A vault's state: its cells. -/
def StC (A : St) (S : StT) (cs : List Value) : Prop := ∃ v rs, cs = v :: (S.seqs.map (Value.int .u32 ·) ++ rs.flatten) ∧ VsV A S.vers v ∧ All2 (RepC A) S.last rs ∧ S.seqs.length = 3 ∧ S.last.length = 3
theorem StC.ge {A A' : St} {S : StT} {cs : List Value} (h : StC A S cs) (g : Ge A A') : StC A' S cs := by
  obtain ⟨v, rs, h1, h2, h3, h4⟩ := h
  exact ⟨v, rs, h1, h2.ge g, h3.imp (fun _ _ h => h.ge g), h4⟩
theorem reps_cell {A : St} {l : List ReplyT} {rs : List (List Value)} (h : All2 (RepC A) l rs) : rs.flatten.all cell1 = true ∧ (∀ cs ∈ rs, cs.length = 6) := by
  induction h with
  | nil => exact ⟨rfl, fun cs h => (by cases h)⟩
  | cons h _ ih => exact ⟨by rw [List.flatten_cons, List.all_append, h.cell, ih.1]; rfl, fun cs hc => by rcases List.mem_cons.1 hc with rfl | hc; exact h.len; exact ih.2 cs hc⟩
theorem StC.len {A : St} {S : StT} {cs : List Value} (h : StC A S cs) : cs.length = 22 ∧ cs.all cell1 = true := by
  obtain ⟨v, rs, rfl, h2, h3, h4, h5⟩ := h
  obtain ⟨h6, h7⟩ := reps_cell h3
  have h8 : rs.length = 3 := by rw [← h3.length]; exact h5
  refine ⟨by rw [List.length_cons, List.length_append, List.length_map, flat_len h7, h4, h8], ?_⟩
  obtain ⟨ad, c, rfl⟩ := h2.sl
  rw [List.all_cons, List.all_append, h6, List.all_map]
  simp [cell1]
/-- One client's part of a state. -/
theorem StC.at {A : St} {S : StT} {cs : List Value} (h : StC A S cs) {c : Nat} (hc : c < 3) : ∃ q R rc, S.seqs[c]? = some q ∧ S.last[c]? = some R ∧ cs[1 + c]? = some (.int .u32 q) ∧ (cs.drop (4 + c * 6)).take 6 = rc ∧ RepC A R rc := by
  obtain ⟨v, rs, rfl, h2, h3, h4, h5⟩ := h
  obtain ⟨h6, h7⟩ := reps_cell h3
  obtain ⟨q, hq⟩ : ∃ q, S.seqs[c]? = some q := ⟨S.seqs[c]'(by omega), List.getElem?_eq_getElem _⟩
  obtain ⟨R, hR⟩ : ∃ q, S.last[c]? = some q := ⟨S.last[c]'(by omega), List.getElem?_eq_getElem _⟩
  obtain ⟨rc, hrc, hrep⟩ := h3.get hR
  refine ⟨q, R, rc, hq, hR, ?_, ?_, hrep⟩
  · rw [Nat.add_comm, List.getElem?_cons_succ, List.getElem?_append_left (by rw [List.length_map]; omega), List.getElem?_map, hq]; rfl
  · rw [show 4 + c * 6 = (3 + c * 6) + 1 by omega, List.drop_succ_cons, ← List.drop_drop, List.drop_left' (by rw [List.length_map]; exact h4)]
    exact flat_elem h7 hrc
theorem StC.set {A : St} {S : StT} {v : Value} {tl : List Value} (h : StC A S (v :: tl)) {A' : St} (g : Ge A A') {l' : List VerT} {v' : Value} (hv : VsV A' l' v') {c : Nat} (hc : c < 3) (q : Int) {x : ReplyT} {rc : List Value} (hx : RepC A' x rc) :
    StC A' ⟨l', S.seqs.set c q, S.last.set c x⟩ (setList ((v' :: tl).set (1 + c) (.int .u32 q)) (4 + c * 6) rc) := by
  obtain ⟨v0, rs, e, h2, h3, h4, h5⟩ := h.ge g
  obtain ⟨rfl, rfl⟩ := List.cons.inj e
  obtain ⟨h6, h7⟩ := reps_cell h3
  obtain ⟨sq, la⟩ : ∃ x : Nat, True := ⟨0, trivial⟩
  obtain ⟨vers, seqs, last⟩ := S
  simp only at h2 h3 h4 h5 ⊢
  match seqs, h4 with
  | [s0, s1, s2], _ =>
  cases h3 with
  | nil => simp at h5
  | cons a0 h3 =>
  cases h3 with
  | nil => simp at h5
  | cons a1 h3 =>
  cases h3 with
  | nil => simp at h5
  | cons a2 h3 =>
  cases h3 with
  | cons a3 h3 => simp at h5
  | nil =>
  rename_i R0 r0 R1 r1 R2 r2
  have l0 := a0.len
  have l1 := a1.len
  have l2 := a2.len
  have lx := hx.len
  have hc' : c = 0 ∨ c = 1 ∨ c = 2 := by omega
  rcases hc' with rfl | rfl | rfl
  · refine ⟨v', [rc, r1, r2], ?_, hv, .cons hx (.cons a1 (.cons a2 .nil)), rfl, rfl⟩
    have := setList_mid [v', .int .u32 q, .int .u32 s1, .int .u32 s2] r0 (r1 ++ (r2 ++ [])) rc (by omega)
    exact this
  · refine ⟨v', [r0, rc, r2], ?_, hv, .cons a0 (.cons hx (.cons a2 .nil)), rfl, rfl⟩
    have := setList_mid ([v', .int .u32 s0, .int .u32 q, .int .u32 s2] ++ r0) r1 (r2 ++ []) rc (by omega)
    rw [List.length_append, l0, List.append_assoc, List.append_assoc] at this
    exact this
  · refine ⟨v', [r0, r1, rc], ?_, hv, .cons a0 (.cons a1 (.cons hx .nil)), rfl, rfl⟩
    have := setList_mid ([v', .int .u32 s0, .int .u32 s1, .int .u32 q] ++ (r0 ++ r1)) r2 [] rc (by omega)
    rw [List.length_append, List.length_append, l0, l1, List.append_assoc, List.append_assoc, List.append_assoc, List.append_assoc] at this
    exact this
def applyS (S : StT) (r : ReqT) : StT × ReplyT :=
  if r.client < 0 ∨ 3 ≤ r.client ∨ r.seq = 0 then (S, errR 170)
  else if r.seq = S.seqs.getD r.client.toNat 0 then (S, S.last.getD r.client.toNat (errR 0))
  else if r.seq < S.seqs.getD r.client.toNat 0 then (S, errR 171)
  else (⟨(doL S.vers r.op).1, S.seqs.set r.client.toNat r.seq, S.last.set r.client.toNat (doL S.vers r.op).2⟩, (doL S.vers r.op).2)
def ApPost (A : St) (L : List Nat) (x : StT × ReplyT) (e : Ending) (A' : St) : Prop := ∃ cs rc, e = .returned (.tuple #[.agg cs.toArray, .agg rc.toArray]) ∧ Over A A' ∧ StC (A'.hide L) x.1 cs ∧ RepC (A'.hide L) x.2 rc
def ReqT.ok (r : ReqT) : Prop := 0 ≤ r.seq ∧ r.seq < 4294967296 ∧ 0 ≤ r.op.id ∧ r.op.id < 4294967296 ∧ r.op.v.small
abbrev zState : List Value := [.slice none 0 0, .int .u32 0, .int .u32 0, .int .u32 0, .int .i64 0, .slice none 0 0, .int .u32 0, .slice none 0 0, .slice none 0 0, .slice none 0 0, .int .i64 0, .slice none 0 0, .int .u32 0, .slice none 0 0, .slice none 0 0, .slice none 0 0, .int .i64 0, .slice none 0 0, .int .u32 0, .slice none 0 0, .slice none 0 0, .slice none 0 0]
abbrev zReply : List Value := [.int .i64 0, .slice none 0 0, .int .u32 0, .slice none 0 0, .slice none 0 0, .slice none 0 0]
set_option maxHeartbeats 8000000 in
theorem apply_ok (w0 : World) (A : St) (L : List Nat) (hL : ∀ b ∈ L, b < A.next) (S : StT) (cs : List Value) (r : ReqT) (qc : List Value) (hS : StC (A.hide L) S cs) (hr : ReqC (A.hide L) r qc) (hok : r.ok) (hl : S.vers.length ≤ 1000000) :
    ACalls Try.prog w0 13 #[.agg cs.toArray, .agg qc.toArray] A (ApPost A L (applyS S r)) := by
  obtain ⟨hs22, hsc⟩ := hS.len
  have hq8 := hr.len
  have hqc := hr.cell
  have hr0 := hr
  obtain ⟨oc, rfl, ho⟩ := hr
  have ho6 := ho.len
  have htk : cs.take 22 = cs := List.take_of_length_le (by omega)
  have hotk : oc.take 6 = oc := List.take_of_length_le (by omega)
  obtain ⟨k1, k2, k3, k4, k5⟩ := hok
  generalize hB : (((A.alloc (.cells cs 43 (some 0))).alloc (.cells (.int .i64 r.client :: .int .u32 r.seq :: oc) 32 (some 0))).alloc (.cells zState 43 (some 0))).alloc (.cells zReply 40 (some 0)) = B
  have oB : Over A B := by rw [← hB]; exact (((Over.refl A).alloc _).alloc _).alloc _ |>.alloc _
  have nB : B.next = A.next + 4 := by rw [← hB]; rfl
  have b0 : B.get A.next = some (.cells cs 43 (some 0)) := by rw [← hB]; simp (disch := (first | omega | (simp only [nx_alloc, nx_upd, len_cons, len_nil, List.length_set, List.length_map, List.length_append] <;> omega) | fail)) only [St.get_upd, St.get_alloc, St.next_alloc, St.next_upd, ↓reduceIte, natF_lt, natF_gt, natF_ne, Nat.add_assoc, Nat.reduceAdd, Nat.reduceEqDiff, Nat.add_left_cancel_iff]
  have b1 : B.get (A.next + 1) = some (.cells (.int .i64 r.client :: .int .u32 r.seq :: oc) 32 (some 0)) := by rw [← hB]; simp (disch := (first | omega | (simp only [nx_alloc, nx_upd, len_cons, len_nil, List.length_set, List.length_map, List.length_append] <;> omega) | fail)) only [St.get_upd, St.get_alloc, St.next_alloc, St.next_upd, ↓reduceIte, natF_lt, natF_gt, natF_ne, Nat.add_assoc, Nat.reduceAdd, Nat.reduceEqDiff, Nat.add_left_cancel_iff]
  have b2 : B.get (A.next + 2) = some (.cells zState 43 (some 0)) := by rw [← hB]; simp (disch := (first | omega | (simp only [nx_alloc, nx_upd, len_cons, len_nil, List.length_set, List.length_map, List.length_append] <;> omega) | fail)) only [St.get_upd, St.get_alloc, St.next_alloc, St.next_upd, ↓reduceIte, natF_lt, natF_gt, natF_ne, Nat.add_assoc, Nat.reduceAdd, Nat.reduceEqDiff, Nat.add_left_cancel_iff]
  have b3 : B.get (A.next + 3) = some (.cells zReply 40 (some 0)) := by rw [← hB]; simp (disch := (first | omega | (simp only [nx_alloc, nx_upd, len_cons, len_nil, List.length_set, List.length_map, List.length_append] <;> omega) | fail)) only [St.get_upd, St.get_alloc, St.next_alloc, St.next_upd, ↓reduceIte, natF_lt, natF_gt, natF_ne, Nat.add_assoc, Nat.reduceAdd, Nat.reduceEqDiff, Nat.add_left_cancel_iff]
  have stop : ∀ (x : ReplyT) (rc : List Value), RepC (A.hide L) x rc → applyS S r = (S, x) → ∀ A', A' = (B.upd (A.next + 2) (some (.cells cs 43 (some 0)))).upd (A.next + 3) (some (.cells rc 40 (some 0))) → GcE A (ApPost A L (applyS S r)) (.returned (.tuple #[.agg cs.toArray, .agg rc.toArray])) A' := by
    rintro x rc hx he A' rfl
    have o5 : Over A ((B.upd (A.next + 2) (some (.cells cs 43 (some 0)))).upd (A.next + 3) (some (.cells rc 40 (some 0)))) := (oB.upd (by omega) _).upd (by omega) _
    rw [he]
    exact gc_here ⟨cs, rc, rfl, o5, hS.ge (hide_over o5 L), hx.ge (hide_over o5 L)⟩
  have hst2 : ∀ X, storeC X (some 22) (some (.cells zState 43 (some 0))) (A.next + 2) 0 (.agg cs.toArray) = some (X.upd (A.next + 2) (some (.cells cs 43 (some 0)))) := fun X => stN rfl hs22 hsc
  unfold zState zReply at hB
  unfold zState at b2
  unfold zReply at b3
  unfold zState at hst2
  refine call_E Try.enters13 Try.func13 rfl (Nat.le_of_ble_eq_true rfl) fun hw hbd => ?_
  by_cases hbad : r.client < 0 ∨ 3 ≤ r.client ∨ r.seq = 0
  · have he : applyS S r = (S, errR 170) := if_pos hbad
    have hs := stop (errR 170) (errC 170) (errC_rep _ _) he
    unfold errC at hs
    rcases hbad with h | h | h
    · simp (maxSteps := 1000000) (disch := (first | omega | (simp only [nx_alloc, nx_upd, len_cons, len_nil, List.length_set, List.length_map, List.length_append] <;> omega) | fail)) only [Nat.reduceAdd, Nat.reduceSub, Nat.reduceMul, Nat.reduceLT, Nat.reduceLeDiff, Nat.reduceEqDiff, ↓reduceIte, reduceCtorEq, Int.reduceAdd, Int.reduceSub, Int.reduceMul, Int.reduceLT, Int.reduceLE, Int.reduceEq, Int.reduceNe, Int.reduceToNat, Int.reduceNeg, go_sem, Try.ntmps13, Try.results13]
      rw [hB]
      simp (maxSteps := 1000000) (disch := (first | omega | (simp only [nx_alloc, nx_upd, len_cons, len_nil, List.length_set, List.length_map, List.length_append] <;> omega) | fail)) only [Nat.reduceAdd, Nat.reduceSub, Nat.reduceMul, Nat.reduceLT, Nat.reduceLeDiff, Nat.reduceEqDiff, ↓reduceIte, reduceCtorEq, Int.reduceAdd, Int.reduceSub, Int.reduceMul, Int.reduceLT, Int.reduceLE, Int.reduceEq, Int.reduceNe, Int.reduceToNat, Int.reduceNeg, go_sem, b0, b2, b3, htk, hst2, Try.results13]
      exact hs _ rfl
    · have h1 : ¬ r.client < 0 := by omega
      have h2 : r.client ≥ 3 := h
      simp (maxSteps := 1000000) (disch := (first | omega | (simp only [nx_alloc, nx_upd, len_cons, len_nil, List.length_set, List.length_map, List.length_append] <;> omega) | fail)) only [Nat.reduceAdd, Nat.reduceSub, Nat.reduceMul, Nat.reduceLT, Nat.reduceLeDiff, Nat.reduceEqDiff, ↓reduceIte, reduceCtorEq, Int.reduceAdd, Int.reduceSub, Int.reduceMul, Int.reduceLT, Int.reduceLE, Int.reduceEq, Int.reduceNe, Int.reduceToNat, Int.reduceNeg, go_sem, Try.ntmps13, Try.results13]
      rw [hB]
      simp (maxSteps := 1000000) (disch := (first | omega | (simp only [nx_alloc, nx_upd, len_cons, len_nil, List.length_set, List.length_map, List.length_append] <;> omega) | fail)) only [Nat.reduceAdd, Nat.reduceSub, Nat.reduceMul, Nat.reduceLT, Nat.reduceLeDiff, Nat.reduceEqDiff, ↓reduceIte, reduceCtorEq, Int.reduceAdd, Int.reduceSub, Int.reduceMul, Int.reduceLT, Int.reduceLE, Int.reduceEq, Int.reduceNe, Int.reduceToNat, Int.reduceNeg, go_sem, b0, b2, b3, htk, hst2, Try.results13]
      exact hs _ rfl
    · by_cases h1 : r.client < 0
      · simp (maxSteps := 1000000) (disch := (first | omega | (simp only [nx_alloc, nx_upd, len_cons, len_nil, List.length_set, List.length_map, List.length_append] <;> omega) | fail)) only [Nat.reduceAdd, Nat.reduceSub, Nat.reduceMul, Nat.reduceLT, Nat.reduceLeDiff, Nat.reduceEqDiff, ↓reduceIte, reduceCtorEq, Int.reduceAdd, Int.reduceSub, Int.reduceMul, Int.reduceLT, Int.reduceLE, Int.reduceEq, Int.reduceNe, Int.reduceToNat, Int.reduceNeg, go_sem, Try.ntmps13, Try.results13]
        rw [hB]
        simp (maxSteps := 1000000) (disch := (first | omega | (simp only [nx_alloc, nx_upd, len_cons, len_nil, List.length_set, List.length_map, List.length_append] <;> omega) | fail)) only [Nat.reduceAdd, Nat.reduceSub, Nat.reduceMul, Nat.reduceLT, Nat.reduceLeDiff, Nat.reduceEqDiff, ↓reduceIte, reduceCtorEq, Int.reduceAdd, Int.reduceSub, Int.reduceMul, Int.reduceLT, Int.reduceLE, Int.reduceEq, Int.reduceNe, Int.reduceToNat, Int.reduceNeg, go_sem, b0, b2, b3, htk, hst2, Try.results13]
        exact hs _ rfl
      by_cases h2 : r.client ≥ 3
      · simp (maxSteps := 1000000) (disch := (first | omega | (simp only [nx_alloc, nx_upd, len_cons, len_nil, List.length_set, List.length_map, List.length_append] <;> omega) | fail)) only [Nat.reduceAdd, Nat.reduceSub, Nat.reduceMul, Nat.reduceLT, Nat.reduceLeDiff, Nat.reduceEqDiff, ↓reduceIte, reduceCtorEq, Int.reduceAdd, Int.reduceSub, Int.reduceMul, Int.reduceLT, Int.reduceLE, Int.reduceEq, Int.reduceNe, Int.reduceToNat, Int.reduceNeg, go_sem, Try.ntmps13, Try.results13]
        rw [hB]
        simp (maxSteps := 1000000) (disch := (first | omega | (simp only [nx_alloc, nx_upd, len_cons, len_nil, List.length_set, List.length_map, List.length_append] <;> omega) | fail)) only [Nat.reduceAdd, Nat.reduceSub, Nat.reduceMul, Nat.reduceLT, Nat.reduceLeDiff, Nat.reduceEqDiff, ↓reduceIte, reduceCtorEq, Int.reduceAdd, Int.reduceSub, Int.reduceMul, Int.reduceLT, Int.reduceLE, Int.reduceEq, Int.reduceNe, Int.reduceToNat, Int.reduceNeg, go_sem, b0, b2, b3, htk, hst2, Try.results13]
        exact hs _ rfl
      have hB' := hB
      rw [h] at hB'
      simp (maxSteps := 1000000) (disch := (first | omega | (simp only [nx_alloc, nx_upd, len_cons, len_nil, List.length_set, List.length_map, List.length_append] <;> omega) | fail)) only [Nat.reduceAdd, Nat.reduceSub, Nat.reduceMul, Nat.reduceLT, Nat.reduceLeDiff, Nat.reduceEqDiff, ↓reduceIte, reduceCtorEq, Int.reduceAdd, Int.reduceSub, Int.reduceMul, Int.reduceLT, Int.reduceLE, Int.reduceEq, Int.reduceNe, Int.reduceToNat, Int.reduceNeg, go_sem, h, Try.ntmps13, Try.results13]
      rw [hB']
      simp (maxSteps := 1000000) (disch := (first | omega | (simp only [nx_alloc, nx_upd, len_cons, len_nil, List.length_set, List.length_map, List.length_append] <;> omega) | fail)) only [Nat.reduceAdd, Nat.reduceSub, Nat.reduceMul, Nat.reduceLT, Nat.reduceLeDiff, Nat.reduceEqDiff, ↓reduceIte, reduceCtorEq, Int.reduceAdd, Int.reduceSub, Int.reduceMul, Int.reduceLT, Int.reduceLE, Int.reduceEq, Int.reduceNe, Int.reduceToNat, Int.reduceNeg, go_sem, b0, b2, b3, htk, hst2, Try.results13]
      exact hs _ rfl
  have h1 : ¬ r.client < 0 := fun h => hbad (.inl h)
  have h2 : ¬ r.client ≥ 3 := fun h => hbad (.inr (.inl h))
  have h3 : ¬ r.seq = 0 := fun h => hbad (.inr (.inr h))
  obtain ⟨c, hc⟩ := Int.eq_ofNat_of_zero_le (show 0 ≤ r.client by omega)
  have hc3 : c < 3 := by omega
  obtain ⟨q, R, rc, e1, e2, e3, e4, e5⟩ := hS.at hc3
  have hap : applyS S r = if r.seq = q then (S, R) else if r.seq < q then (S, errR 171) else (⟨(doL S.vers r.op).1, S.seqs.set c r.seq, S.last.set c (doL S.vers r.op).2⟩, (doL S.vers r.op).2) := by
    unfold applyS
    rw [if_neg hbad, hc, Int.toNat_natCast, List.getD_eq_getElem?_getD, e1, List.getD_eq_getElem?_getD, e2]; rfl
  by_cases hsq : r.seq = q
  · rw [if_pos hsq] at hap
    have hs := stop R rc e5 hap
    have hstr := stN (n := 6) (X := B.upd (A.next + 2) (some (.cells cs 43 (some 0)))) (b := A.next + 3) (z := zReply) (e := 40) rfl e5.len e5.cell
    unfold zReply at hstr
    simp (maxSteps := 1000000) (disch := (first | omega | (simp only [nx_alloc, nx_upd, len_cons, len_nil, List.length_set, List.length_map, List.length_append] <;> omega) | fail)) only [Nat.reduceAdd, Nat.reduceSub, Nat.reduceMul, Nat.reduceLT, Nat.reduceLeDiff, Nat.reduceEqDiff, ↓reduceIte, reduceCtorEq, Int.reduceAdd, Int.reduceSub, Int.reduceMul, Int.reduceLT, Int.reduceLE, Int.reduceEq, Int.reduceNe, Int.reduceToNat, Int.reduceNeg, go_sem, Try.ntmps13, Try.results13]
    rw [hB]
    simp (maxSteps := 1000000) (disch := (first | omega | (simp only [nx_alloc, nx_upd, len_cons, len_nil, List.length_set, List.length_map, List.length_append] <;> omega) | fail)) only [Nat.reduceAdd, Nat.reduceSub, Nat.reduceMul, Nat.reduceLT, Nat.reduceLeDiff, Nat.reduceEqDiff, ↓reduceIte, reduceCtorEq, Int.reduceAdd, Int.reduceSub, Int.reduceMul, Int.reduceLT, Int.reduceLE, Int.reduceEq, Int.reduceNe, Int.reduceToNat, Int.reduceNeg, go_sem, hc, b0, b1, e3, hsq]
    refine aw_draw2 [⟨false, [], [0]⟩, ⟨false, [], [0, 1]⟩, ⟨false, [], [0, 1]⟩, ⟨false, [1, 2], [0, 1]⟩, ⟨false, [1, 2, 3], [0, 1]⟩, ⟨true, [0], [0]⟩, ⟨true, [0, 1, 2, 3, 4, 5], [1]⟩] [B, B.upd (A.next + 2) (some (.cells cs 43 (some 0))), (B.upd (A.next + 2) (some (.cells cs 43 (some 0)))).upd (A.next + 3) (some (.cells rc 40 (some 0)))] 2 (by kernel_rfl) (by kernel_rfl) rfl ?_
    have hldr := ldN (n := 6) (e := 40) (m := some 0) e5.len
    simp (maxSteps := 1000000) (disch := (first | omega | (simp only [nx_alloc, nx_upd, len_cons, len_nil, List.length_set, List.length_map, List.length_append] <;> omega) | fail)) only [Nat.reduceAdd, Nat.reduceSub, Nat.reduceMul, Nat.reduceLT, Nat.reduceLeDiff, Nat.reduceEqDiff, ↓reduceIte, reduceCtorEq, Int.reduceAdd, Int.reduceSub, Int.reduceMul, Int.reduceLT, Int.reduceLE, Int.reduceEq, Int.reduceNe, Int.reduceToNat, Int.reduceNeg, go_sem, b0, b2, b3, htk, hst2, e4, hstr, hldr, Try.results13]
    exact hs _ rfl
  rw [if_neg hsq] at hap
  by_cases hlt : r.seq < q
  · rw [if_pos hlt] at hap
    have hs := stop (errR 171) (errC 171) (errC_rep _ _) hap
    unfold errC at hs
    simp (maxSteps := 1000000) (disch := (first | omega | (simp only [nx_alloc, nx_upd, len_cons, len_nil, List.length_set, List.length_map, List.length_append] <;> omega) | fail)) only [Nat.reduceAdd, Nat.reduceSub, Nat.reduceMul, Nat.reduceLT, Nat.reduceLeDiff, Nat.reduceEqDiff, ↓reduceIte, reduceCtorEq, Int.reduceAdd, Int.reduceSub, Int.reduceMul, Int.reduceLT, Int.reduceLE, Int.reduceEq, Int.reduceNe, Int.reduceToNat, Int.reduceNeg, go_sem, Try.ntmps13, Try.results13]
    rw [hB]
    simp (maxSteps := 1000000) (disch := (first | omega | (simp only [nx_alloc, nx_upd, len_cons, len_nil, List.length_set, List.length_map, List.length_append] <;> omega) | fail)) only [Nat.reduceAdd, Nat.reduceSub, Nat.reduceMul, Nat.reduceLT, Nat.reduceLeDiff, Nat.reduceEqDiff, ↓reduceIte, reduceCtorEq, Int.reduceAdd, Int.reduceSub, Int.reduceMul, Int.reduceLT, Int.reduceLE, Int.reduceEq, Int.reduceNe, Int.reduceToNat, Int.reduceNeg, go_sem, hc, b0, b1, e3, hsq, hlt, b2, b3, htk, hst2, Try.results13]
    exact hs _ rfl
  rw [if_neg hlt] at hap
  have hS0 := hS
  obtain ⟨v, rs, hcs, g1, g2, g3, g4⟩ := hS
  obtain ⟨g5, g6⟩ := reps_cell g2
  have hrs3 : rs.length = 3 := by rw [← g2.length]; exact g4
  obtain ⟨tl, htl⟩ : ∃ tl, tl = S.seqs.map (Value.int .u32 ·) ++ rs.flatten := ⟨_, rfl⟩
  rw [← htl] at hcs
  have htl21 : tl.length = 21 := by rw [htl, List.length_append, List.length_map, flat_len g6, g3, hrs3]
  have htlc : tl.all cell1 = true := by rw [htl, List.all_append, g5, List.all_map]; simp [cell1]
  subst hcs
  have hgB : Ge (A.hide L) (B.hide ((A.next + 3) :: (A.next + 2) :: A.next :: L)) := Ge.hide oB.next (fun b hb hbL => ⟨by simp only [List.mem_cons, not_or]; exact ⟨by omega, by omega, by omega, hbL⟩, oB.get b hb⟩)
  have hLB : ∀ b ∈ (A.next + 3) :: (A.next + 2) :: A.next :: L, b < B.next := by
    intro b hb
    simp only [List.mem_cons] at hb
    rcases hb with rfl | rfl | rfl | hb
    · omega
    · omega
    · omega
    · have := hL b hb; omega
  have hdo := do_ok w0 B _ hLB S.vers v tl r.op oc (g1.ge hgB) (ho.ge hgB) hl htl21 htlc ⟨k3, k4⟩ k5
  simp (maxSteps := 1000000) (disch := (first | omega | (simp only [nx_alloc, nx_upd, len_cons, len_nil, List.length_set, List.length_map, List.length_append] <;> omega) | fail)) only [Nat.reduceAdd, Nat.reduceSub, Nat.reduceMul, Nat.reduceLT, Nat.reduceLeDiff, Nat.reduceEqDiff, ↓reduceIte, reduceCtorEq, Int.reduceAdd, Int.reduceSub, Int.reduceMul, Int.reduceLT, Int.reduceLE, Int.reduceEq, Int.reduceNe, Int.reduceToNat, Int.reduceNeg, go_sem, Try.ntmps13, Try.results13]
  rw [hB]
  simp (maxSteps := 1000000) (disch := (first | omega | (simp only [nx_alloc, nx_upd, len_cons, len_nil, List.length_set, List.length_map, List.length_append] <;> omega) | fail)) only [Nat.reduceAdd, Nat.reduceSub, Nat.reduceMul, Nat.reduceLT, Nat.reduceLeDiff, Nat.reduceEqDiff, ↓reduceIte, reduceCtorEq, Int.reduceAdd, Int.reduceSub, Int.reduceMul, Int.reduceLT, Int.reduceLE, Int.reduceEq, Int.reduceNe, Int.reduceToNat, Int.reduceNeg, go_sem, hc, b0, b1, e3, hsq, hlt, b2, b3, htk, hotk]
  refine hdo.mono ?_
  rintro _ B2 ⟨v', rc', rfl, o2, hv2, hr2⟩
  have n2 := o2.next
  have d0 : B2.get A.next = some (.cells (v :: tl) 43 (some 0)) := by rw [o2.get _ (by omega)]; exact b0
  have d1 : B2.get (A.next + 1) = some (.cells (.int .i64 r.client :: .int .u32 r.seq :: oc) 32 (some 0)) := by rw [o2.get _ (by omega)]; exact b1
  have d2 : B2.get (A.next + 2) = some (.cells zState 43 (some 0)) := by rw [o2.get _ (by omega)]; exact b2
  have d3 : B2.get (A.next + 3) = some (.cells zReply 40 (some 0)) := by rw [o2.get _ (by omega)]; exact b3
  rw [hc] at d1
  have hv2' : one1 v' = true := by obtain ⟨ad, n, rfl⟩ := hv2.sl; rfl
  have hD22 : (v' :: tl).length = 22 := by rw [List.length_cons, htl21]
  have hDc : (v' :: tl).all cell1 = true := by rw [List.all_cons, cellOf1 hv2', htlc]; rfl
  have r6 := hr2.len
  have rcell := hr2.cell
  have hstA := fun X => stN (n := 22) (X := X) (b := A.next) (z := v :: tl) (e := 43) hs22 hD22 hDc
  have hstB := fun X => stN (n := 6) (X := X) (b := B2.next) (z := zReply) (e := 40) rfl r6 rcell
  unfold zReply at hstB d3
  unfold zState at d2
  simp (maxSteps := 1000000) (disch := (first | omega | (simp only [nx_alloc, nx_upd, len_cons, len_nil, List.length_set, List.length_map, List.length_append] <;> omega) | fail)) only [Nat.reduceAdd, Nat.reduceSub, Nat.reduceMul, Nat.reduceLT, Nat.reduceLeDiff, Nat.reduceEqDiff, ↓reduceIte, reduceCtorEq, Int.reduceAdd, Int.reduceSub, Int.reduceMul, Int.reduceLT, Int.reduceLE, Int.reduceEq, Int.reduceNe, Int.reduceToNat, Int.reduceNeg, go_sem, d0, hstA, hstB]
  generalize hDD : v' :: tl = D at *
  obtain ⟨C0, hC0⟩ : ∃ C0, C0 = ((B2.alloc (.cells [.int .i64 0, .slice none 0 0, .int .u32 0, .slice none 0 0, .slice none 0 0, .slice none 0 0] 40 (some 0))).upd A.next (some (.cells D 43 (some 0)))).upd B2.next (some (.cells rc' 40 (some 0))) := ⟨_, rfl⟩
  rw [← hC0]
  have c0 : C0.get A.next = some (.cells D 43 (some 0)) := by rw [hC0, St.get_upd, if_neg (by omega), get_upd_same]
  have cx : ∀ b, b < B2.next → b ≠ A.next → C0.get b = B2.get b := fun b hb hne => by rw [hC0, St.get_upd, if_neg (by omega), St.get_upd, if_neg hne, get_alloc_old hb]
  have c1 := (cx (A.next + 1) (by omega) (by omega)).trans d1
  have c2 := (cx (A.next + 2) (by omega) (by omega)).trans d2
  have c3 := (cx (A.next + 3) (by omega) (by omega)).trans d3
  have c4 : C0.get B2.next = some (.cells rc' 40 (some 0)) := by rw [hC0, get_upd_same]
  have nC : C0.next = B2.next + 1 := by rw [hC0]; rfl
  clear hC0
  have hD1l : (D.set (1 + c) (.int .u32 r.seq)).length = 22 := by rw [List.length_set]; exact hD22
  have hldr := ldN (n := 6) (e := 40) (m := some 0) r6
  refine aw_draw2 [⟨false, [], [0]⟩, ⟨false, [], [0, 1]⟩, ⟨false, [], [0]⟩, ⟨false, [2], [0]⟩, ⟨false, [], [0, 1]⟩, ⟨false, [], [0]⟩, ⟨false, [0, 2, 3, 5], [0]⟩, ⟨true, [0, 2, 3, 5, 6], [0]⟩, ⟨false, [], [0, 1]⟩, ⟨false, [0, 1, 2, 3, 4, 5, 6, 7, 8], [1]⟩, ⟨true, [0, 1, 2, 3, 4, 5, 6, 7, 8, 9], [1]⟩] [C0, C0.upd A.next (some (.cells (D.set (1 + c) (.int .u32 r.seq)) 43 (some 0))), (C0.upd A.next (some (.cells (D.set (1 + c) (.int .u32 r.seq)) 43 (some 0)))).upd A.next (some (.cells (setList (D.set (1 + c) (.int .u32 r.seq)) (4 + c * 6) rc') 43 (some 0)))] 2 (by kernel_rfl) (by kernel_rfl) rfl ?_
  simp (maxSteps := 1000000) (disch := (first | omega | (simp only [nx_alloc, nx_upd, len_cons, len_nil, List.length_set, List.length_map, List.length_append] <;> omega) | fail)) only [Nat.reduceAdd, Nat.reduceSub, Nat.reduceMul, Nat.reduceLT, Nat.reduceLeDiff, Nat.reduceEqDiff, ↓reduceIte, reduceCtorEq, Int.reduceAdd, Int.reduceSub, Int.reduceMul, Int.reduceLT, Int.reduceLE, Int.reduceEq, Int.reduceNe, Int.reduceToNat, Int.reduceNeg, go_sem, hc, c0, c1, c4, hldr, rcell]
  have hD2l : (setList (D.set (1 + c) (.int .u32 r.seq)) (4 + c * 6) rc').length = 22 := by rw [setList_length]; exact hD1l
  have gF : ∀ F : St, (∀ b, b < B2.next → b ≠ A.next → b ≠ A.next + 2 → b ≠ A.next + 3 → F.get b = C0.get b) → B2.next ≤ F.next → Ge (B2.hide ((A.next + 3) :: (A.next + 2) :: A.next :: L)) (F.hide L) := by
    intro F hF hn
    refine Ge.hide hn (fun b hb hbL => ?_)
    simp only [List.mem_cons, not_or] at hbL
    obtain ⟨x3, x2, x0, xL⟩ := hbL
    exact ⟨xL, by rw [hF b hb x0 x2 x3, cx b hb x0]⟩
  generalize hD2 : setList (D.set (1 + c) (.int .u32 r.seq)) (4 + c * 6) rc' = D2 at *
  obtain ⟨C2, hC2⟩ : ∃ C2, C2 = (C0.upd A.next (some (.cells (D.set (1 + c) (.int .u32 r.seq)) 43 (some 0)))).upd A.next (some (.cells D2 43 (some 0))) := ⟨_, rfl⟩
  rw [← hC2]
  have e0 : C2.get A.next = some (.cells D2 43 (some 0)) := by rw [hC2, get_upd_same]
  have ex : ∀ b, b ≠ A.next → C2.get b = C0.get b := fun b hne => by rw [hC2, St.get_upd, if_neg hne, St.get_upd, if_neg hne]
  have f2 := (ex (A.next + 2) (by omega)).trans c2
  have f3 := (ex (A.next + 3) (by omega)).trans c3
  have f4 := (ex B2.next (by omega)).trans c4
  have nC2 : C2.next = B2.next + 1 := by rw [hC2]; exact nC
  clear hC2
  have oF : Over A ((C2.upd (A.next + 2) (some (.cells D2 43 (some 0)))).upd (A.next + 3) (some (.cells rc' 40 (some 0)))) := by
    refine Over.upd (Over.upd ⟨by omega, fun b hb => ?_⟩ (by omega) _) (by omega) _
    rw [ex b (by omega), cx b (by omega) (by omega), o2.get b (by omega)]; exact oB.get b hb
  have gG := gF ((C2.upd (A.next + 2) (some (.cells D2 43 (some 0)))).upd (A.next + 3) (some (.cells rc' 40 (some 0)))) (fun b hb x0 x2 x3 => by rw [St.get_upd, if_neg x3, St.get_upd, if_neg x2, ex b x0]) (by simp only [nx_upd]; omega)
  have hfin := StC.set hS0 (hide_over oF L) (hv2.ge gG) hc3 r.seq (hr2.ge gG)
  rw [hDD, hD2] at hfin
  have hD2c := hfin.len.2
  have hst5 := stN (n := 22) (X := C2) (b := A.next + 2) (z := zState) (e := 43) rfl hD2l hD2c
  have hst6 := stN (n := 6) (X := C2.upd (A.next + 2) (some (.cells D2 43 (some 0)))) (b := A.next + 3) (z := zReply) (e := 40) rfl r6 rcell
  unfold zState at hst5
  unfold zReply at hst6
  have htk2 : D2.take 22 = D2 := List.take_of_length_le (by omega)
  refine aw_draw2 [⟨false, [], [0]⟩, ⟨false, [], [0, 1]⟩, ⟨true, [0], [0]⟩, ⟨true, [0, 1, 2], [1]⟩] [C2, C2.upd (A.next + 2) (some (.cells D2 43 (some 0))), (C2.upd (A.next + 2) (some (.cells D2 43 (some 0)))).upd (A.next + 3) (some (.cells rc' 40 (some 0)))] 2 (by kernel_rfl) (by kernel_rfl) rfl ?_
  simp (maxSteps := 1000000) (disch := (first | omega | (simp only [nx_alloc, nx_upd, len_cons, len_nil, List.length_set, List.length_map, List.length_append] <;> omega) | fail)) only [Nat.reduceAdd, Nat.reduceSub, Nat.reduceMul, Nat.reduceLT, Nat.reduceLeDiff, Nat.reduceEqDiff, ↓reduceIte, reduceCtorEq, Int.reduceAdd, Int.reduceSub, Int.reduceMul, Int.reduceLT, Int.reduceLE, Int.reduceEq, Int.reduceNe, Int.reduceToNat, Int.reduceNeg, go_sem, e0, f2, f3, f4, hldr, htk2, hst5, hst6, Try.results13]
  rw [hap]
  exact gc_here ⟨D2, rc', rfl, oF, hfin, hr2.ge gG⟩
end Go.Fw
