import Derived.Test.YtphfkbagjpcmpaaFwVault1
set_option linter.unusedSimpArgs false
set_option linter.unusedVariables false
namespace Go.Fw
open Go.Proofs Go.RowKit
theorem Try.enters39 : Enters Try.prog 39 := enters_of Try.func39 rfl (by kernel_rfl)
theorem Try.enters42 : Enters Try.prog 42 := enters_of Try.func42 rfl (by kernel_rfl)
theorem Try.enters41 : Enters Try.prog 41 := enters_of Try.func41 rfl (by kernel_rfl)
theorem Try.enters44 : Enters Try.prog 44 := enters_of Try.func44 rfl (by kernel_rfl)
def clipV : Value → Value
  | .slice (some ⟨b, off, _⟩) n _ => .slice (some ⟨b, off, none⟩) n n
  | .slice none n _ => .slice none n n
  | v => v
theorem clip_ok (w0 : World) (A : St) (l : List VerT) (v : Value) (h : VsV A l v) : ACalls Try.prog w0 39 #[v] A (fin (clipV v) A) := by
  refine call_E Try.enters39 Try.func39 rfl (Nat.le_of_ble_eq_true rfl) fun hw hbd => ?_
  have hlen := NV.lenU (e := 28) h.1
  have hsl : sliceU (some (.slice 28)) (tsz Try.prog) v none (some (.int .i64 l.length)) (some (.int .i64 l.length)) = some (clipV v) := by
    obtain ⟨ad, c, rfl⟩ := h.sl
    obtain ⟨ad', n', c', e, h1, h2⟩ := h.2
    cases e
    rw [sliceU_slice, Try.sz28, Option.bind_some, sliceL_eq]
    have hb : abounds l.length c none (some (.int .i64 (l.length : Int))) (some (.int .i64 (l.length : Int))) = some (0, l.length, l.length) := by
      simp [abounds, abound1, h1]
    rw [hb]
    rcases h2 with ⟨rfl, _⟩ | ⟨b, off, sp, cells, e, m, rfl, h3, _⟩
    · rfl
    · rcases h3 with rfl | rfl <;> simp [boundsL, clipV]
  have hbn : Bnd A.next (clipV v) := by
    obtain ⟨ad, c, rfl⟩ := h.sl
    obtain ⟨ad', n', c', e, h1, h2⟩ := h.2
    cases e
    rcases h2 with ⟨rfl, rfl⟩ | ⟨b, off, sp, cells, e, m, rfl, h3, h4, _⟩
    · obtain h0 : l.length = 0 := by omega
      rw [h0]; exact .slice0 _ _
    · exact .slice _ _ _ h4
  simp (maxSteps := 1000000) (disch := (first | omega | (simp only [nx_alloc, nx_upd, len_cons, len_nil, List.length_set, List.length_map, List.length_append] <;> omega) | fail)) only [Nat.reduceAdd, Nat.reduceSub, Nat.reduceMul, Nat.reduceLT, Nat.reduceLeDiff, Nat.reduceEqDiff, ↓reduceIte, reduceCtorEq, Int.reduceAdd, Int.reduceSub, Int.reduceMul, Int.reduceLT, Int.reduceLE, Int.reduceEq, Int.reduceNe, Int.reduceToNat, Int.reduceNeg, go_sem, Try.ntmps39, Try.results39, hlen, hsl]
  exact gc_fin' hw (Over.refl _) rfl hbn
abbrev VRow (A : St) (lo : Nat) (css : List (List Value)) (v : Value) : Prop := Row A 28 4 lo css.flatten css.length v
theorem VRow.vs {A : St} {lo : Nat} {css : List (List Value)} {l : List VerT} {v : Value} {L : List Nat} (h : VRow A lo css v) (ha : All2 (VerC (A.hide L)) l css) (hl : ∀ cs ∈ css, cs.length = 4) (hL : ∀ b ∈ L, b < lo) : VsV (A.hide L) l v := by
  have hlen := ha.length
  refine ⟨⟨css, ha, hl, by rw [hlen]; exact Row.viewH h hL⟩, ?_⟩
  rcases h.2 with ⟨h0, rfl⟩ | ⟨b, sp, rfl, h1, h2, h3, h4⟩
  · exact ⟨_, _, _, rfl, Nat.le_refl _, .inl ⟨rfl, rfl⟩⟩
  · exact ⟨_, _, _, rfl, Nat.le_refl _, .inr ⟨b, 0, sp, _, _, _, rfl, h1, by rw [hide_next]; exact h3, by rw [hide_get, if_neg (fun hm => by have := hL b hm; omega)]; exact h4, Nat.zero_le _⟩⟩
theorem css_cell {A : St} {l : List VerT} {css : List (List Value)} (ha : All2 (VerC A) l css) : css.flatten.all cell1 = true := by
  induction ha with
  | nil => rfl
  | cons h _ ih => rw [List.flatten_cons, List.all_append, h.cell, ih]; rfl
theorem vs_push {A : St} {lo : Nat} {css new : List (List Value)} {v x : Value} (hr : VRow A lo css v) (hlo : lo ≤ A.next) (hx : View A 4 new.flatten new.length x) (hc : new.flatten.all cell1 = true) (hl : css.length + new.length ≤ 1048576) :
    ∃ v' A2, aappend Try.prog A 35 35 v x = some (v', A2) ∧ VRow A2 lo (css ++ new) v' ∧ A.next ≤ A2.next ∧ ∀ b, b < A.next → rowB v ≠ some b → A2.get b = A.get b := by
  obtain ⟨v', A2, h1, h2, h3, h4⟩ := row_app (P := Try.prog) (sT := 35) (xT := 35) Try.el35 Try.underlying35 (by intro k; exact TypeDesc.noConfusion) Try.sz28 Try.byt28 Try.zero28 rfl hr hlo hx (by omega) (by omega) hc
  exact ⟨v', A2, h1, by rw [VRow, List.flatten_append, List.length_append]; exact h2, h3, h4⟩
theorem buildVs0 (X : St) : abuildSlice Try.prog X 35 0 #[] = some (.slice (some ⟨X.next, 0, none⟩) 0 0, X.alloc (.cells [] 28 (some 0))) := buildSlice_zero Try.el35 Try.sz28 Try.zero28 (by decide)
set_option maxHeartbeats 1000000 in
theorem clone_ok (w0 : World) (A : St) (L : List Nat) (l : List VerT) (v : Value) (h : VsV (A.hide L) l v) (hl : l.length ≤ 1000000) :
    ∃ v' A' css, ACalls Try.prog w0 42 #[v] A (fin v' A') ∧ Over A A' ∧ All2 (VerC (A.hide L)) l css ∧ (∀ cs ∈ css, cs.length = 4) ∧ VRow A' A.next css v' := by
  have hlen := NV.lenU (e := 28) (NV.ge h.1 (hide_ge A L) (fun _ _ h => h))
  obtain ⟨css, ha, hcl, hv⟩ := h.1
  have hcs := ha.length
  by_cases hnil : ∃ n c, v = .slice none n c
  · obtain ⟨n, c, rfl⟩ := hnil
    obtain ⟨ad, c', e⟩ := h.sl
    cases e
    obtain ⟨ad', n', c', e, h1, h2⟩ := h.2
    cases e
    rcases h2 with ⟨_, rfl⟩ | ⟨_, _, _, _, _, _, e, _⟩
    rotate_left
    · cases e
    have h0 : css = [] := List.eq_nil_of_length_eq_zero (by omega)
    subst h0
    refine ⟨.slice none 0 0, A, [], ?_, Over.refl _, ha, hcl, Row.nil ..⟩
    refine call_E Try.enters42 Try.func42 rfl (Nat.le_of_ble_eq_true rfl) fun hw hbd => ?_
    simp (maxSteps := 1000000) (disch := (first | omega | (simp only [nx_alloc, nx_upd, len_cons, len_nil, List.length_set, List.length_map, List.length_append] <;> omega) | fail)) only [Nat.reduceAdd, Nat.reduceSub, Nat.reduceMul, Nat.reduceLT, Nat.reduceLeDiff, Nat.reduceEqDiff, ↓reduceIte, reduceCtorEq, Int.reduceAdd, Int.reduceSub, Int.reduceMul, Int.reduceLT, Int.reduceLE, Int.reduceEq, Int.reduceNe, Int.reduceToNat, Int.reduceNeg, go_sem, Try.ntmps42, Try.results42]
    exact gc_here ⟨rfl, rfl⟩
  · obtain ⟨ad, c, rfl⟩ := h.sl
    obtain ⟨⟨b, off, sp⟩, rfl⟩ : ∃ a, ad = some a := by
      cases ad with
      | none => exact absurd ⟨_, _, rfl⟩ hnil
      | some a => exact ⟨a, rfl⟩
    have o1 : Over A (A.alloc (.cells [] 28 (some 0))) := (Over.refl A).alloc _
    have r0 : VRow (A.alloc (.cells [] 28 (some 0))) A.next [] (.slice (some ⟨A.next, 0, none⟩) 0 0) := ⟨rfl, .inr ⟨A.next, none, rfl, .inl rfl, Nat.le_refl _, by simp only [nx_alloc]; omega, get_alloc_same ..⟩⟩
    obtain ⟨v', A2, hap, r2, n2, k2⟩ := vs_push r0 (by simp only [nx_alloc]; omega) (by rw [← hcs]; exact View.ge hv (hide_out o1 L)) (css_cell ha) (by simp only [List.length_nil]; omega)
    refine ⟨v', A2, css, ?_, ⟨by simp only [nx_alloc] at n2; omega, fun c hc => by rw [k2 c (by simp only [nx_alloc]; omega) (by simp [rowB]; omega), get_alloc_old hc]⟩, ha, hcl, r2⟩
    refine call_E Try.enters42 Try.func42 rfl (Nat.le_of_ble_eq_true rfl) fun hw hbd => ?_
    simp (maxSteps := 1000000) (disch := (first | omega | (simp only [nx_alloc, nx_upd, len_cons, len_nil, List.length_set, List.length_map, List.length_append] <;> omega) | fail)) only [Nat.reduceAdd, Nat.reduceSub, Nat.reduceMul, Nat.reduceLT, Nat.reduceLeDiff, Nat.reduceEqDiff, ↓reduceIte, reduceCtorEq, Int.reduceAdd, Int.reduceSub, Int.reduceMul, Int.reduceLT, Int.reduceLE, Int.reduceEq, Int.reduceNe, Int.reduceToNat, Int.reduceNeg, go_sem, Try.ntmps42, Try.results42, buildVs0, hap]
    exact gc_here ⟨rfl, rfl⟩
theorem append_in {P : Program} {A : St} {sT xT e bs sz b off len n cap k : Nat} {z x : Value} {sp : Option Nat} {cs new : List Value} {e' : TypeId} {ux : TypeDesc} (hel : telem P sT = some e) (hx : P.underlying xT = some ux) (hux : ∀ k, ux ≠ .int k) (hsz : tsz P e = some sz) (hb : tbytes P e = some bs) (hz : tzero P e = some z) (hzc : z.cells.size = sz) (hs0 : sz ≠ 0)
    (hsrc : srcCells A sz x = some (n, new)) (hc : len + n ≤ cap) (hn : n ≠ 0) (hA : A.get b = some (.cells cs e' (some k))) (h1 : k ≤ off + len * sz) (h2 : off + len * sz + new.length ≤ cs.length) (h3 : new.all cell1 = true) :
    aappend P A sT xT (.slice (some ⟨b, off, sp⟩) len cap) x = some (.slice (some ⟨b, off, sp⟩) (len + n) cap, A.upd b (some (.cells (setList cs (off + len * sz) new) e' (some k)))) := by
  have h4 : ¬ (sz = 0 ∨ z.cells.size ≠ sz) := by omega
  unfold aappend
  cases ux with
  | int k => exact absurd rfl (hux k)
  | _ => simp only [hel, hx, hsz, hb, hz, hsrc, if_neg h4, if_pos hc, if_neg hn, hA, if_pos (And.intro h1 (And.intro h2 h3))]
theorem append_in0 {P : Program} {A : St} {sT xT e bs sz len cap : Nat} {a : Addr} {z x : Value} {new : List Value} {ux : TypeDesc} (hel : telem P sT = some e) (hx : P.underlying xT = some ux) (hux : ∀ k, ux ≠ .int k) (hsz : tsz P e = some sz) (hb : tbytes P e = some bs) (hz : tzero P e = some z) (hzc : z.cells.size = sz) (hs0 : sz ≠ 0)
    (hsrc : srcCells A sz x = some (0, new)) (hc : len ≤ cap) :
    aappend P A sT xT (.slice (some a) len cap) x = some (.slice (some a) len cap, A) := by
  have h4 : ¬ (sz = 0 ∨ z.cells.size ≠ sz) := by omega
  unfold aappend
  cases ux with
  | int k => exact absurd rfl (hux k)
  | _ => simp only [hel, hx, hsz, hb, hz, hsrc, if_neg h4, Nat.add_zero, if_pos hc, if_true]
theorem setList_mid (a m r new : List Value) (h : new.length = m.length) : setList (a ++ (m ++ r)) a.length new = a ++ (new ++ r) := setList_at0 new a m r h
theorem drop_flat_get {css : List (List Value)} {i : Nat} (h : ∀ cs ∈ css, cs.length = 4) (hi : i < css.length) : ∃ c cl, c.length = 4 ∧ cl.length = 4 ∧ css.flatten = (css.take i).flatten ++ (c ++ (css.drop (i + 1)).flatten) ∧ c ++ (css.drop (i + 1)).flatten = ((c ++ (css.drop (i + 1)).flatten).take ((css.drop (i + 1)).length * 4)) ++ cl ∧ (css.take i).flatten ++ (c ++ (css.drop (i + 1)).flatten) = (css.take i).flatten ++ (((c ++ (css.drop (i + 1)).flatten).take ((css.drop (i + 1)).length * 4)) ++ cl) := by
  have hc : css[i].length = 4 := h _ (List.getElem_mem hi)
  have hd : (css.drop (i + 1)).flatten.length = (css.drop (i + 1)).length * 4 := flat_len (fun cs hcs => h cs (List.mem_of_mem_drop hcs))
  refine ⟨css[i], (css[i] ++ (css.drop (i + 1)).flatten).drop ((css.drop (i + 1)).length * 4), hc, by rw [List.length_drop, List.length_append]; omega, ?_, (List.take_append_drop ..).symm, by rw [List.take_append_drop]⟩
  rw [← List.flatten_cons, ← List.drop_eq_getElem_cons hi, ← List.flatten_append, List.take_append_drop]
def zVer : List Value := [.int .u32 0, .slice none 0 0, .slice none 0 0, .slice none 0 0]
theorem builtin_clear {P : Program} {A : St} (t : TypeId) (x : Value) : abuiltin P A .clear [t] [x] = (aclear P A t x).map fun A' => (.tuple #[], A') := Eq.trans rfl rfl
theorem clear_one {A : St} {b off c m : Nat} {sp : Option Nat} {cs : List Value} {e' : TypeId} (hA : A.get b = some (.cells cs e' (some m))) (h1 : m ≤ off) (h2 : off + 4 ≤ cs.length) : aclear Try.prog A 35 (.slice (some ⟨b, off, sp⟩) 1 c) = some (A.upd b (some (.cells (setList cs off zVer) e' (some m)))) := by
  unfold aclear
  simp only [Try.el35, Try.zero28, hA]
  have hz : Builtin.zeroCells (Value.cells (.agg #[.int .u32 0, .slice none 0 0, .slice none 0 0, .slice none 0 0])) 1 = zVer.toArray := by kernel_rfl
  rw [if_neg (by decide), hz, if_pos ⟨h1, by simpa [zVer] using h2, rfl⟩]
set_option maxHeartbeats 2000000 in
theorem delete_ok (w0 : World) (A : St) (lo : Nat) (css : List (List Value)) (v : Value) (h : VRow A lo css v) (hcs : ∀ cs ∈ css, cs.length = 4) (hcell : css.flatten.all cell1 = true) (i : Nat) (hi : i < css.length) (hl : css.length ≤ 1000000) :
    ∃ b c v' A' zl, ACalls Try.prog w0 41 #[v, .int .i64 i, .int .i64 (i + 1)] A (fin v' A') ∧ rowB v = some b ∧ lo ≤ b ∧ b < A.next ∧ A'.next = A.next ∧ (∀ x, x ≠ b → A'.get x = A.get x) ∧ A'.get b = some (.cells ((css.eraseIdx i).flatten ++ zl) 28 (some 0)) ∧
      ∃ sp, v' = .slice (some ⟨b, 0, sp⟩) (css.length - 1) c ∧ css.length - 1 ≤ c ∧ (sp = none ∨ sp = some 4) := by
  rcases h.2 with ⟨h0, _⟩ | ⟨b, sp, rfl, hsp, hlo, hlt, hg⟩
  · omega
  obtain ⟨cc, cl, e1, e2, e3, e4, e5⟩ := drop_flat_get hcs hi
  have hdl : (css.drop (i + 1)).length = css.length - (i + 1) := List.length_drop ..
  have hdf : (css.drop (i + 1)).flatten.length = (css.drop (i + 1)).length * 4 := flat_len (fun cs hc => hcs cs (List.mem_of_mem_drop hc))
  have htf : (css.take i).flatten.length = i * 4 := by rw [flat_len (fun cs hc => hcs cs (List.mem_of_mem_take hc)), List.length_take, Nat.min_eq_left (by omega)]
  have hfl : css.flatten.length = css.length * 4 := flat_len hcs
  have her : (css.eraseIdx i).flatten = (css.take i).flatten ++ (css.drop (i + 1)).flatten := by rw [List.eraseIdx_eq_take_drop_succ, List.flatten_append]
  have herl : (css.eraseIdx i).flatten.length = (css.length - 1) * 4 := by rw [her, List.length_append, htf, hdf, hdl]; omega
  have hb2 : ∀ (lo hi : Nat), lo ≤ hi → hi ≤ css.length → abounds css.length css.length (some (.int .i64 (lo : Int))) (some (.int .i64 (hi : Int))) none = some (lo, hi, css.length) := by
    intro lo hi h1 h2; simp [abounds, abound1, h1, h2]
  have hs0 : sliceU (some (.slice 28)) (tsz Try.prog) (.slice (some ⟨b, 0, sp⟩) css.length css.length) (some (.int .i64 (i : Int))) (some (.int .i64 ((i : Int) + 1))) (some (.int .i64 (css.length : Int))) = some (.slice (some ⟨b, 0 + i * 4, none⟩) (i + 1 - i) (css.length - i)) := by
    rw [sliceU_slice, Try.sz28, Option.bind_some, sliceL_eq]
    have : abounds css.length css.length (some (.int .i64 (i : Int))) (some (.int .i64 ((i : Int) + 1))) (some (.int .i64 (css.length : Int))) = some (i, i + 1, css.length) := by
      have a1 : (0 : Int) ≤ (i : Int) + 1 := by omega
      have a2 : (i : Int) + 1 ≤ (css.length : Int) := by omega
      have a3 : ((i : Int) + 1).toNat = i + 1 := by omega
      have a4 : (i : Int) ≤ ((i + 1 : Nat) : Int) := by omega
      simp [abounds, abound1, a1, a2, a3]
    rw [this]
    rcases hsp with rfl | rfl <;> simp [boundsL]
  have hs1 : sliceU (some (.slice 28)) (tsz Try.prog) (.slice (some ⟨b, 0, sp⟩) css.length css.length) none (some (.int .i64 (i : Int))) none = some (.slice (some ⟨b, 0, sp⟩) i css.length) := by
    rw [sliceU_slice, Try.sz28, Option.bind_some, sliceL_eq]
    have : abounds css.length css.length none (some (.int .i64 (i : Int))) none = some (0, i, css.length) := by
      have : i ≤ css.length := by omega
      simp [abounds, abound1, this]
    rw [this]
    rcases hsp with rfl | rfl <;> simp [boundsL]
  have hs2 : sliceU (some (.slice 28)) (tsz Try.prog) (.slice (some ⟨b, 0, sp⟩) css.length css.length) (some (.int .i64 ((i : Int) + 1))) none none = some (.slice (some ⟨b, 0 + (i + 1) * 4, sp⟩) (css.length - (i + 1)) (css.length - (i + 1))) := by
    rw [sliceU_slice, Try.sz28, Option.bind_some, sliceL_eq]
    have : abounds css.length css.length (some (.int .i64 ((i : Int) + 1))) none none = some (i + 1, css.length, css.length) := by
      have a1 : (0 : Int) ≤ (i : Int) + 1 := by omega
      have a2 : (i : Int) + 1 ≤ (css.length : Int) := by omega
      have a3 : ((i : Int) + 1).toNat = i + 1 := by omega
      simp [abounds, abound1, a1, a2, a3]
    rw [this]
    rcases hsp with rfl | rfl <;> simp [boundsL]
  have hs3 : sliceU (some (.slice 28)) (tsz Try.prog) (.slice (some ⟨b, 0, sp⟩) (css.length - 1) css.length) (some (.int .i64 ((css.length - 1 : Nat) : Int))) (some (.int .i64 (css.length : Int))) none = some (.slice (some ⟨b, 0 + (css.length - 1) * 4, sp⟩) 1 (css.length - (css.length - 1))) := by
    rw [sliceU_slice, Try.sz28, Option.bind_some, sliceL_eq]
    have : abounds (css.length - 1) css.length (some (.int .i64 ((css.length - 1 : Nat) : Int))) (some (.int .i64 (css.length : Int))) none = some (css.length - 1, css.length, css.length) := by
      simp [abounds, abound1]
    rw [this]
    have h1 : css.length - (css.length - 1) = 1 := by omega
    rcases hsp with rfl | rfl <;> simp [boundsL, h1]
  have hsrc : srcCells A 4 (.slice (some ⟨b, 0 + (i + 1) * 4, sp⟩) (css.length - (i + 1)) (css.length - (i + 1))) = some (css.length - (i + 1), (css.drop (i + 1)).flatten) := by
    have hd : (css.flatten.drop ((i + 1) * 4)).take ((css.length - (i + 1)) * 4) = (css.drop (i + 1)).flatten := by
      rw [flat_drop _ hcs, ← hdl, ← hdf, List.take_length]
    by_cases h0 : css.length - (i + 1) = 0
    · have h1 : css.drop (i + 1) = [] := List.eq_nil_of_length_eq_zero (by omega)
      rw [h0, h1]; rfl
    · rw [srcCells_slice h0 hg (by omega), Nat.zero_add, hd]
  have hux : ∀ k, (TypeDesc.slice 28) ≠ .int k := by intro k; exact TypeDesc.noConfusion
  obtain ⟨A1, hap, n1, g1, k1⟩ : ∃ A1, aappend Try.prog A 35 35 (.slice (some ⟨b, 0, sp⟩) i css.length) (.slice (some ⟨b, 0 + (i + 1) * 4, sp⟩) (css.length - (i + 1)) (css.length - (i + 1))) = some (.slice (some ⟨b, 0, sp⟩) (css.length - 1) css.length, A1) ∧ A1.next = A.next ∧ A1.get b = some (.cells ((css.eraseIdx i).flatten ++ cl) 28 (some 0)) ∧ ∀ x, x ≠ b → A1.get x = A.get x := by
    by_cases h0 : css.length - (i + 1) = 0
    · refine ⟨A, ?_, rfl, ?_, fun _ _ => rfl⟩
      · rw [h0] at hsrc ⊢
        rw [append_in0 Try.el35 Try.underlying35 hux Try.sz28 Try.byt28 Try.zero28 rfl (by decide) hsrc (by omega), show css.length - 1 = i by omega]
      · have h1 : css.drop (i + 1) = [] := List.eq_nil_of_length_eq_zero (by omega)
        rw [h1] at her e4 e3
        rw [hg, e3, her]
        simp only [List.flatten_nil, List.append_nil, List.length_nil, Nat.zero_mul, List.take_zero, List.nil_append] at e4 ⊢
        rw [e4]
    · refine ⟨A.upd b (some (.cells (setList css.flatten (0 + i * 4) (css.drop (i + 1)).flatten) 28 (some 0))), ?_, ?_, ?_, ?_⟩
      · rw [append_in Try.el35 Try.underlying35 hux Try.sz28 Try.byt28 Try.zero28 rfl (by decide) hsrc (by omega) h0 hg (Nat.zero_le _) (by rw [hdf, hdl]; omega) (by rw [e3, List.all_append, List.all_append] at hcell; simp only [Bool.and_eq_true] at hcell; exact hcell.2.2), show i + (css.length - (i + 1)) = css.length - 1 by omega]
      · rfl
      · rw [get_upd_same, Nat.zero_add, e3, e5]
        rw [show i * 4 = (css.take i).flatten.length from htf.symm, setList_mid _ _ _ _ (by rw [List.length_take, List.length_append, hdf, e1]; omega), her, List.append_assoc]
      · intro x hx; rw [St.get_upd, if_neg hx]
  refine ⟨b, css.length, .slice (some ⟨b, 0, sp⟩) (css.length - 1) css.length, A1.upd b (some (.cells ((css.eraseIdx i).flatten ++ zVer) 28 (some 0))), zVer, ?_, rfl, hlo, hlt, n1, fun x hx => by rw [St.get_upd, if_neg hx]; exact k1 x hx, get_upd_same .., sp, rfl, by omega, hsp⟩
  have hclr : aclear Try.prog A1 35 (.slice (some ⟨b, 0 + (css.length - 1) * 4, sp⟩) 1 (css.length - (css.length - 1))) = some (A1.upd b (some (.cells ((css.eraseIdx i).flatten ++ zVer) 28 (some 0)))) := by
    rw [clear_one g1 (Nat.zero_le _) (by rw [List.length_append, herl, e2]; omega), Nat.zero_add, ← herl]
    have := setList_mid (css.eraseIdx i).flatten cl [] zVer (by rw [e2]; rfl)
    rw [List.append_nil, List.append_nil] at this
    rw [this]
  refine call_E Try.enters41 Try.func41 rfl (Nat.le_of_ble_eq_true rfl) fun hw hbd => ?_
  have hne : ¬ ((i : Int) = i + 1) := by omega
  simp (maxSteps := 1000000) (disch := (first | omega | (simp only [nx_alloc, nx_upd, len_cons, len_nil, List.length_set, List.length_map, List.length_append] <;> omega) | fail)) only [Nat.reduceAdd, Nat.reduceSub, Nat.reduceMul, Nat.reduceLT, Nat.reduceLeDiff, Nat.reduceEqDiff, ↓reduceIte, reduceCtorEq, Int.reduceAdd, Int.reduceSub, Int.reduceMul, Int.reduceLT, Int.reduceLE, Int.reduceEq, Int.reduceNe, Int.reduceToNat, Int.reduceNeg, go_sem, Try.ntmps41, Try.results41, hs0, hne]
  refine aw_draw2 [⟨false, [], [0]⟩, ⟨false, [], [0]⟩, ⟨false, [0, 1], [0]⟩, ⟨false, [], [0]⟩, ⟨false, [], [0]⟩, ⟨false, [3, 4], [0]⟩, ⟨true, [0, 1, 2, 3, 4, 5], [0]⟩, ⟨false, [0, 1, 2, 3, 4, 5, 6], [1]⟩] [A, A1] 1 (by kernel_rfl) (by kernel_rfl) rfl ?_
  simp only [Nat.zero_add] at hap hclr hs3 hs2
  have hn1 : ((css.length - 1 : Nat) : Int) = ((css.length - 1 : Nat) : Int) := rfl
  simp (maxSteps := 1000000) (disch := (first | omega | (simp only [nx_alloc, nx_upd, len_cons, len_nil, List.length_set, List.length_map, List.length_append] <;> omega) | fail)) only [Nat.reduceAdd, Nat.reduceSub, Nat.reduceMul, Nat.reduceLT, Nat.reduceLeDiff, Nat.reduceEqDiff, ↓reduceIte, reduceCtorEq, Int.reduceAdd, Int.reduceSub, Int.reduceMul, Int.reduceLT, Int.reduceLE, Int.reduceEq, Int.reduceNe, Int.reduceToNat, Int.reduceNeg, go_sem, hs1, hs2, hap, hs3, builtin_clear, hclr, Try.results41]
  exact gc_here ⟨rfl, rfl⟩
theorem seq_exists {σ : Type} (Inv : Nat → σ → Prop) (R : Nat → σ → σ → Prop) (n : Nat) (s0 : σ) (h0 : Inv 0 s0) (hs : ∀ i s, i < n → Inv i s → ∃ s', R i s s' ∧ Inv (i + 1) s') : ∃ f : Nat → σ, f 0 = s0 ∧ (∀ i, i ≤ n → Inv i (f i)) ∧ ∀ i, i < n → R i (f i) (f (i + 1)) := by
  classical
  let f : Nat → σ := fun i => Nat.rec s0 (fun i s => if h : i < n ∧ Inv i s then Classical.choose (hs i s h.1 h.2) else s) i
  have hf : ∀ i, f (i + 1) = if h : i < n ∧ Inv i (f i) then Classical.choose (hs i (f i) h.1 h.2) else f i := fun i => rfl
  have hinv : ∀ i, i ≤ n → Inv i (f i) := by
    intro i
    induction i with
    | zero => intro _; exact h0
    | succ i ih =>
      intro hi
      have h1 : i < n ∧ Inv i (f i) := ⟨by omega, ih (by omega)⟩
      rw [hf, dif_pos h1]
      exact (Classical.choose_spec (hs i (f i) h1.1 h1.2)).2
  refine ⟨f, rfl, hinv, fun i hi => ?_⟩
  have h1 : i < n ∧ Inv i (f i) := ⟨hi, hinv i (by omega)⟩
  have h2 := hf i
  rw [dif_pos h1] at h2
  rw [h2]
  exact (Classical.choose_spec (hs i (f i) h1.1 h1.2)).1
def u32E (i : Int) : List Value := [.int .u32 i]
def IdView (A : St) (l : List Int) (v : Value) : Prop := View A 1 (l.flatMap u32E) l.length v
def IdRow (A : St) (lo : Nat) (l : List Int) (v : Value) : Prop := Row A 23 1 lo (l.flatMap u32E) l.length v
theorem id_push {A : St} {lo : Nat} {l : List Int} {v : Value} (h : IdRow A lo l v) (x : Int) (hlo : lo ≤ A.next) (hl : l.length ≤ 1073741824) :
    ∃ v' A', aappend Try.prog (A.alloc (.cells [.int .u32 x] 23 (some 0))) 38 38 v (.slice (some ⟨A.next, 0, none⟩) 1 1) = some (v', A') ∧ IdRow A' lo (l ++ [x]) v' ∧ A'.next = A.next + 2 ∧ rowB v' = some (A.next + 1) ∧ ∀ b, b < A.next → rowB v ≠ some b → A'.get b = A.get b := by
  obtain ⟨v', A2, hap, hr2, hn2, hrb, hf2⟩ := row_push (A := A) (sp := none) (c := 1) (xs := [.int .u32 x]) Try.el38 Try.underlying38 (by intro k; exact TypeDesc.noConfusion) Try.sz23 Try.byt23 Try.zero23 rfl h hlo (by omega) (by omega) rfl rfl
  refine ⟨v', A2, hap, ?_, hn2, hrb, hf2⟩
  unfold IdRow
  rw [List.flatMap_append, List.length_append]; exact hr2
set_option maxHeartbeats 4000000 in
theorem ids_ok (w0 : World) (A : St) (l : List VerT) (v : Value) (h : VsV A l v) (hl : l.length ≤ 1000000) :
    ∃ v' A', ACalls Try.prog w0 44 #[v] A (fin v' A') ∧ Over A A' ∧ IdRow A' A.next (l.map (·.id)) v' := by
  obtain ⟨css, ha, hcl, hv⟩ := h.1
  have hcs := ha.length
  obtain ⟨f, f0, finv, fst⟩ := seq_exists (σ := St × Value) (fun i s => Over A s.1 ∧ IdRow s.1 A.next ((l.take i).map (·.id)) s.2)
    (fun i s s' => ∃ V cs, l[i]? = some V ∧ css[i]? = some cs ∧ aappend Try.prog (((s.1.alloc (.cells zVer 28 (some 0))).upd s.1.next (some (.cells cs 28 (some 0)))).alloc (.cells [.int .u32 V.id] 23 (some 0))) 38 38 s.2 (.slice (some ⟨s.1.next + 1, 0, none⟩) 1 1) = some (s'.2, s'.1))
    l.length (A, .slice none 0 0) ⟨Over.refl _, Row.nil ..⟩ (fun i s hi hs => by
      obtain ⟨ho, hr⟩ := hs
      obtain ⟨V, hV⟩ : ∃ V, l[i]? = some V := ⟨_, List.getElem?_eq_getElem hi⟩
      obtain ⟨cs, hc, hvc⟩ := ha.get hV
      have o2 : Over s.1 ((s.1.alloc (.cells zVer 28 (some 0))).upd s.1.next (some (.cells cs 28 (some 0)))) := ((Over.refl _).alloc _).upd (Nat.le_refl _) _
      have hn := ho.next
      obtain ⟨v', A', h1, h2, h3, h4, h5⟩ := id_push (hr.over o2) V.id (by simp only [nx_upd, nx_alloc]; omega) (by rw [List.length_map, List.length_take]; omega)
      refine ⟨(A', v'), ⟨V, cs, hV, hc, h1⟩, ⟨by show A.next ≤ A'.next; simp only [nx_upd, nx_alloc] at h3; omega, fun b hb => ?_⟩, ?_⟩
      · have hrb : rowB s.2 ≠ some b := fun e => by
          have h6 : A.next ≤ b := (Row.rb hr b e).1
          omega
        have hlt : b < s.1.next := by omega
        rw [h5 b (by simp only [nx_upd, nx_alloc]; omega) hrb, o2.get b hlt, ho.get b hb]
      · rw [List.take_add_one, hV, List.map_append]; exact h2)
  refine ⟨(f l.length).2, (f l.length).1, ?_, (finv _ (Nat.le_refl _)).1, by have := (finv _ (Nat.le_refl _)).2; rwa [List.take_length] at this⟩
  refine call_E Try.enters44 Try.func44 rfl (Nat.le_of_ble_eq_true rfl) fun hw hbd => ?_
  have hlen := NV.lenU (e := 28) h.1
  simp (maxSteps := 1000000) (disch := (first | omega | (simp only [nx_alloc, nx_upd, len_cons, len_nil, List.length_set, List.length_map, List.length_append] <;> omega) | fail)) only [Nat.reduceAdd, Nat.reduceSub, Nat.reduceMul, Nat.reduceLT, Nat.reduceLeDiff, Nat.reduceEqDiff, ↓reduceIte, reduceCtorEq, Int.reduceAdd, Int.reduceSub, Int.reduceMul, Int.reduceLT, Int.reduceLE, Int.reduceEq, Int.reduceNe, Int.reduceToNat, Int.reduceNeg, go_sem, Try.ntmps44, Try.results44, hlen]
  refine aw_loop (fun k x A' => ∃ (ρ : Nat → Value) (i : Nat), x = E 18 ρ [] ∧ k = l.length - i ∧ i ≤ l.length ∧ A' = (f i).1 ∧ ρ 2 = (f i).2 ∧ ρ 5 = v ∧ ρ 6 = .int .i64 l.length ∧ ρ 7 = .int .i64 i) l.length
    ⟨_, 0, rfl, rfl, Nat.zero_le _, by rw [f0], by rw [f0]; rfl, rfl, rfl, rfl⟩ ?_
  rintro k x A' ⟨ρ, i, rfl, hk, hi, hA, g2, g5, g6, g7⟩
  refine aw_of ?_
  by_cases hend : i = l.length
  · have e1 : ¬ ((i : Int) < l.length) := by omega
    rw [hend] at g2 hA
    simp (maxSteps := 1000000) (disch := (first | omega | (simp only [nx_alloc, nx_upd, len_cons, len_nil, List.length_set, List.length_map, List.length_append] <;> omega) | fail)) only [Nat.reduceAdd, Nat.reduceSub, Nat.reduceMul, Nat.reduceLT, Nat.reduceLeDiff, Nat.reduceEqDiff, ↓reduceIte, reduceCtorEq, Int.reduceAdd, Int.reduceSub, Int.reduceMul, Int.reduceLT, Int.reduceLE, Int.reduceEq, Int.reduceNe, Int.reduceToNat, Int.reduceNeg, go_sem, g2, g5, g6, g7, Try.results44]
    exact gc_here ⟨rfl, hA⟩
  have e1 : ((i : Int) < l.length) := by omega
  obtain ⟨V, cs, hV, hc, hap⟩ := fst i (by omega)
  have ho := (finv i hi).1
  rw [← hA] at hap ho
  have hvc : VerC A V cs := by
    obtain ⟨cs', h1, h2⟩ := ha.get hV
    rw [hc] at h1; cases h1; exact h2
  obtain ⟨b, off, q1, q2, q3, cells, e', m, q4, q5, q6⟩ := (View.over hv ho).at (P := Try.prog) (e := 28) Try.sz28 (i := i) (by omega)
  rw [flat_elem hcl hc] at q6
  have hld := ld_agg (e' := e') (m := m) q5 q6
  obtain ⟨p, q, u, rfl, w1, w2, w3⟩ := hvc
  obtain ⟨_, _, rfl⟩ := View.sl0 w1
  obtain ⟨_, _, rfl⟩ := View.sl0 w2
  obtain ⟨_, _, rfl⟩ := View.sl0 w3
  unfold zVer at hap
  simp (maxSteps := 1000000) (disch := (first | omega | (simp only [nx_alloc, nx_upd, len_cons, len_nil, List.length_set, List.length_map, List.length_append] <;> omega) | fail)) only [Nat.reduceAdd, Nat.reduceSub, Nat.reduceMul, Nat.reduceLT, Nat.reduceLeDiff, Nat.reduceEqDiff, ↓reduceIte, reduceCtorEq, Int.reduceAdd, Int.reduceSub, Int.reduceMul, Int.reduceLT, Int.reduceLE, Int.reduceEq, Int.reduceNe, Int.reduceToNat, Int.reduceNeg, go_sem, g2, g5, g6, g7, q3, q4, hld]
  rw [hap]
  simp (maxSteps := 1000000) (disch := (first | omega | (simp only [nx_alloc, nx_upd, len_cons, len_nil, List.length_set, List.length_map, List.length_append] <;> omega) | fail)) only [Nat.reduceAdd, Nat.reduceSub, Nat.reduceMul, Nat.reduceLT, Nat.reduceLeDiff, Nat.reduceEqDiff, ↓reduceIte, reduceCtorEq, Int.reduceAdd, Int.reduceSub, Int.reduceMul, Int.reduceLT, Int.reduceLE, Int.reduceEq, Int.reduceNe, Int.reduceToNat, Int.reduceNeg, go_sem, g7]
  refine ⟨k - 1, by omega, _, i + 1, rfl, by omega, by omega, rfl, ?_, ?_, ?_, ?_⟩
  · simp (maxSteps := 1000000) (disch := (first | omega | (simp only [nx_alloc, nx_upd, len_cons, len_nil, List.length_set, List.length_map, List.length_append] <;> omega) | fail)) only [Nat.reduceAdd, Nat.reduceSub, Nat.reduceMul, Nat.reduceLT, Nat.reduceLeDiff, Nat.reduceEqDiff, ↓reduceIte, reduceCtorEq, Int.reduceAdd, Int.reduceSub, Int.reduceMul, Int.reduceLT, Int.reduceLE, Int.reduceEq, Int.reduceNe, Int.reduceToNat, Int.reduceNeg, go_sem]
  · simp (maxSteps := 1000000) (disch := (first | omega | (simp only [nx_alloc, nx_upd, len_cons, len_nil, List.length_set, List.length_map, List.length_append] <;> omega) | fail)) only [Nat.reduceAdd, Nat.reduceSub, Nat.reduceMul, Nat.reduceLT, Nat.reduceLeDiff, Nat.reduceEqDiff, ↓reduceIte, reduceCtorEq, Int.reduceAdd, Int.reduceSub, Int.reduceMul, Int.reduceLT, Int.reduceLE, Int.reduceEq, Int.reduceNe, Int.reduceToNat, Int.reduceNeg, go_sem, g5]
  · simp (maxSteps := 1000000) (disch := (first | omega | (simp only [nx_alloc, nx_upd, len_cons, len_nil, List.length_set, List.length_map, List.length_append] <;> omega) | fail)) only [Nat.reduceAdd, Nat.reduceSub, Nat.reduceMul, Nat.reduceLT, Nat.reduceLeDiff, Nat.reduceEqDiff, ↓reduceIte, reduceCtorEq, Int.reduceAdd, Int.reduceSub, Int.reduceMul, Int.reduceLT, Int.reduceLE, Int.reduceEq, Int.reduceNe, Int.reduceToNat, Int.reduceNeg, go_sem, g6]
  · simp (maxSteps := 1000000) (disch := (first | omega | (simp only [nx_alloc, nx_upd, len_cons, len_nil, List.length_set, List.length_map, List.length_append] <;> omega) | fail)) only [Nat.reduceAdd, Nat.reduceSub, Nat.reduceMul, Nat.reduceLT, Nat.reduceLeDiff, Nat.reduceEqDiff, ↓reduceIte, reduceCtorEq, Int.reduceAdd, Int.reduceSub, Int.reduceMul, Int.reduceLT, Int.reduceLE, Int.reduceEq, Int.reduceNe, Int.reduceToNat, Int.reduceNeg, go_sem]
    rfl
end Go.Fw
