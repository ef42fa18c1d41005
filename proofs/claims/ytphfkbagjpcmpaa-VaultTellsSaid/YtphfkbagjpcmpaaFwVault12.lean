import Derived.Test.YtphfkbagjpcmpaaFwVault11
set_option linter.unusedSimpArgs false
set_option linter.unusedVariables false
namespace Go.Fw
open Go.Proofs Go.RowKit
theorem Try.enters32 : Enters Try.prog 32 := enters_of Try.func32 rfl (by kernel_rfl)
theorem Try.enters34 : Enters Try.prog 34 := enters_of Try.func34 rfl (by kernel_rfl)
theorem Try.enters33 : Enters Try.prog 33 := enters_of Try.func33 rfl (by kernel_rfl)
theorem Try.enters25 : Enters Try.prog 25 := enters_of Try.func25 rfl (by kernel_rfl)
set_option maxHeartbeats 2000000 in
theorem rfind_ok (w0 : World) (A : St) (l : List VerT) (v : Value) (h : VsV A l v) (hl : l.length ≤ 1048576) (id : Int) : ACalls Try.prog w0 32 #[v, .int .u32 id] A (fin (.int .i64 (placeL l id)) A) := by
  refine call_E Try.enters32 Try.func32 rfl (Nat.le_of_ble_eq_true rfl) fun hw hbd => ?_
  have hlen := NV.lenU (e := 28) h.1
  simp (maxSteps := 1000000) (disch := (first | omega | (simp only [nx_alloc, nx_upd, len_cons, len_nil, List.length_set, List.length_map, List.length_append] <;> omega) | fail)) only [Nat.reduceAdd, Nat.reduceSub, Nat.reduceMul, Nat.reduceLT, Nat.reduceLeDiff, Nat.reduceEqDiff, ↓reduceIte, reduceCtorEq, Int.reduceAdd, Int.reduceSub, Int.reduceMul, Int.reduceLT, Int.reduceLE, Int.reduceEq, Int.reduceNe, Int.reduceToNat, Int.reduceNeg, go_sem, Try.ntmps32, Try.results32]
  refine aw_loop (fun k x A' => ∃ (ρ : Nat → Value) (i : Nat), x = E 20 ρ [] ∧ A' = A ∧ k = l.length - i ∧ i ≤ l.length ∧ placeN l id i = placeL l id ∧ ρ 0 = v ∧ ρ 1 = .int .u32 id ∧ ρ 5 = .int .i64 i) l.length
    ⟨_, 0, rfl, rfl, rfl, Nat.zero_le _, rfl, rfl, rfl, rfl⟩ ?_
  rintro k x A' ⟨ρ, i, rfl, rfl, hk, hi, hp, g0, g1, g5⟩
  refine aw_of ?_
  by_cases hend : i = l.length
  · have e1 : ¬ ((i : Int) < l.length) := by omega
    have hm : placeL l id = -1 := by rw [← hp]; exact placeN_end (by omega)
    rw [hm]
    simp (maxSteps := 1000000) (disch := (first | omega | (simp only [nx_alloc, nx_upd, len_cons, len_nil, List.length_set, List.length_map, List.length_append] <;> omega) | fail)) only [Nat.reduceAdd, Nat.reduceSub, Nat.reduceMul, Nat.reduceLT, Nat.reduceLeDiff, Nat.reduceEqDiff, ↓reduceIte, reduceCtorEq, Int.reduceAdd, Int.reduceSub, Int.reduceMul, Int.reduceLT, Int.reduceLE, Int.reduceEq, Int.reduceNe, Int.reduceToNat, Int.reduceNeg, go_sem, g0, g1, g5, hlen, Try.results32]
    exact gc_fin' hw (Over.refl _) rfl (.int _ _)
  have e1 : ((i : Int) < l.length) := by omega
  obtain ⟨V, hV⟩ : ∃ V, l[i]? = some V := ⟨l[i]'(by omega), List.getElem?_eq_getElem (by omega)⟩
  obtain ⟨b, off, cs, hb1, hb2, hb3, hb4, cells, e', m, hb5, hb6, hb7⟩ := h.1.at (P := Try.prog) (e := 28) Try.sz28 hV
  obtain ⟨_, _, _, rfl, _⟩ := hb3
  have lq := ld_one hb7 0 (by decide)
  rw [Nat.add_zero] at lq
  simp only [List.getElem?_cons_zero] at lq
  have hpl := placeN_at (id := id) hV
  rw [hp] at hpl
  by_cases hid : V.id = id
  · rw [if_pos hid] at hpl
    rw [hpl]
    simp (maxSteps := 1000000) (disch := (first | omega | (simp only [nx_alloc, nx_upd, len_cons, len_nil, List.length_set, List.length_map, List.length_append] <;> omega) | fail)) only [Nat.reduceAdd, Nat.reduceSub, Nat.reduceMul, Nat.reduceLT, Nat.reduceLeDiff, Nat.reduceEqDiff, ↓reduceIte, reduceCtorEq, Int.reduceAdd, Int.reduceSub, Int.reduceMul, Int.reduceLT, Int.reduceLE, Int.reduceEq, Int.reduceNe, Int.reduceToNat, Int.reduceNeg, go_sem, g0, g1, g5, hlen, hb2, hb5, lq, hid, Try.results32]
    exact gc_fin' hw (Over.refl _) rfl (.int _ _)
  · rw [if_neg hid] at hpl
    simp (maxSteps := 1000000) (disch := (first | omega | (simp only [nx_alloc, nx_upd, len_cons, len_nil, List.length_set, List.length_map, List.length_append] <;> omega) | fail)) only [Nat.reduceAdd, Nat.reduceSub, Nat.reduceMul, Nat.reduceLT, Nat.reduceLeDiff, Nat.reduceEqDiff, ↓reduceIte, reduceCtorEq, Int.reduceAdd, Int.reduceSub, Int.reduceMul, Int.reduceLT, Int.reduceLE, Int.reduceEq, Int.reduceNe, Int.reduceToNat, Int.reduceNeg, go_sem, g0, g1, g5, hlen, hb2, hb5, lq, hid]
    refine ⟨k - 1, by omega, _, i + 1, rfl, by omega, by omega, hpl.symm, ?_, ?_, ?_⟩
    · simp (maxSteps := 1000000) (disch := (first | omega | (simp only [nx_alloc, nx_upd, len_cons, len_nil, List.length_set, List.length_map, List.length_append] <;> omega) | fail)) only [Nat.reduceAdd, Nat.reduceSub, Nat.reduceMul, Nat.reduceLT, Nat.reduceLeDiff, Nat.reduceEqDiff, ↓reduceIte, reduceCtorEq, Int.reduceAdd, Int.reduceSub, Int.reduceMul, Int.reduceLT, Int.reduceLE, Int.reduceEq, Int.reduceNe, Int.reduceToNat, Int.reduceNeg, go_sem, g0]
    · simp (maxSteps := 1000000) (disch := (first | omega | (simp only [nx_alloc, nx_upd, len_cons, len_nil, List.length_set, List.length_map, List.length_append] <;> omega) | fail)) only [Nat.reduceAdd, Nat.reduceSub, Nat.reduceMul, Nat.reduceLT, Nat.reduceLeDiff, Nat.reduceEqDiff, ↓reduceIte, reduceCtorEq, Int.reduceAdd, Int.reduceSub, Int.reduceMul, Int.reduceLT, Int.reduceLE, Int.reduceEq, Int.reduceNe, Int.reduceToNat, Int.reduceNeg, go_sem, g1]
    · simp (maxSteps := 1000000) (disch := (first | omega | (simp only [nx_alloc, nx_upd, len_cons, len_nil, List.length_set, List.length_map, List.length_append] <;> omega) | fail)) only [Nat.reduceAdd, Nat.reduceSub, Nat.reduceMul, Nat.reduceLT, Nat.reduceLeDiff, Nat.reduceEqDiff, ↓reduceIte, reduceCtorEq, Int.reduceAdd, Int.reduceSub, Int.reduceMul, Int.reduceLT, Int.reduceLE, Int.reduceEq, Int.reduceNe, Int.reduceToNat, Int.reduceNeg, go_sem]
      rfl
theorem rwrong_ok (w0 : World) (A : St) (e : Int) : ACalls Try.prog w0 33 #[.int .i64 e] A (fin (.agg (errC e).toArray) A) := by
  refine call_E Try.enters33 Try.func33 rfl (Nat.le_of_ble_eq_true rfl) fun hw hbd => ?_
  unfold errC
  simp (maxSteps := 1000000) (disch := (first | omega | (simp only [nx_alloc, nx_upd, len_cons, len_nil, List.length_set, List.length_map, List.length_append] <;> omega) | fail)) only [Nat.reduceAdd, Nat.reduceSub, Nat.reduceMul, Nat.reduceLT, Nat.reduceLeDiff, Nat.reduceEqDiff, ↓reduceIte, reduceCtorEq, Int.reduceAdd, Int.reduceSub, Int.reduceMul, Int.reduceLT, Int.reduceLE, Int.reduceEq, Int.reduceNe, Int.reduceToNat, Int.reduceNeg, go_sem, Try.ntmps33, Try.results33]
  refine gc_fin' hw (((Over.refl A).alloc _).upd (Nat.le_refl _) _) rfl ?_
  simp only [bnd_tuple, bndL_cons, bndL_nil, bnd_agg, bnd_int, bnd_slice0, and_self]
set_option maxHeartbeats 4000000 in
theorem rids_ok (w0 : World) (A : St) (l : List VerT) (v : Value) (h : NV A 4 (VerC A) l v) (hl : l.length ≤ 1000000) :
    ∃ v' A', ACalls Try.prog w0 34 #[v] A (fin v' A') ∧ Over A A' ∧ IdRow A' A.next (l.map (·.id)) v' := by
  have hNV := h
  obtain ⟨css, ha, hcl, hv⟩ := h
  have hcs := ha.length
  have hr0 : IdRow (A.alloc (.cells [] 23 (some 0))) A.next [] (.slice (some ⟨A.next, 0, none⟩) 0 0) := ⟨rfl, .inr ⟨A.next, none, rfl, .inl rfl, Nat.le_refl _, by simp only [nx_alloc]; omega, get_alloc_same ..⟩⟩
  obtain ⟨f, f0, finv, fst⟩ := seq_exists (σ := St × Value) (fun i s => Over A s.1 ∧ IdRow s.1 A.next ((l.take i).map (·.id)) s.2)
    (fun i s s' => ∃ V cs, l[i]? = some V ∧ css[i]? = some cs ∧ aappend Try.prog (s.1.alloc (.cells [.int .u32 V.id] 23 (some 0))) 38 38 s.2 (.slice (some ⟨s.1.next, 0, none⟩) 1 1) = some (s'.2, s'.1))
    l.length (A.alloc (.cells [] 23 (some 0)), .slice (some ⟨A.next, 0, none⟩) 0 0) ⟨(Over.refl _).alloc _, hr0⟩ (fun i s hi hs => by
      obtain ⟨ho, hr⟩ := hs
      obtain ⟨V, hV⟩ : ∃ V, l[i]? = some V := ⟨_, List.getElem?_eq_getElem hi⟩
      obtain ⟨cs, hc, hvc⟩ := ha.get hV
      have hn := ho.next
      obtain ⟨v', A', h1, h2, h3, h4, h5⟩ := id_push hr V.id (by omega) (by rw [List.length_map, List.length_take]; omega)
      refine ⟨(A', v'), ⟨V, cs, hV, hc, h1⟩, Row.push_over (A0 := A) (by omega) (fun b hb => (Row.rb hr b hb).1) (by omega) h5 ho (Nat.le_refl _), ?_⟩
      rw [List.take_add_one, hV, List.map_append]; exact h2)
  refine ⟨(f l.length).2, (f l.length).1, ?_, (finv _ (Nat.le_refl _)).1, by have := (finv _ (Nat.le_refl _)).2; rwa [List.take_length] at this⟩
  refine call_E Try.enters34 Try.func34 rfl (Nat.le_of_ble_eq_true rfl) fun hw hbd => ?_
  simp (maxSteps := 1000000) (disch := (first | omega | (simp only [nx_alloc, nx_upd, len_cons, len_nil, List.length_set, List.length_map, List.length_append] <;> omega) | fail)) only [Nat.reduceAdd, Nat.reduceSub, Nat.reduceMul, Nat.reduceLT, Nat.reduceLeDiff, Nat.reduceEqDiff, ↓reduceIte, reduceCtorEq, Int.reduceAdd, Int.reduceSub, Int.reduceMul, Int.reduceLT, Int.reduceLE, Int.reduceEq, Int.reduceNe, Int.reduceToNat, Int.reduceNeg, go_sem, Try.ntmps34, Try.results34]
  refine aw_loop (fun k x A' => ∃ (ρ : Nat → Value) (i : Nat), x = E 21 ρ [] ∧ k = l.length - i ∧ i ≤ l.length ∧ A' = (f i).1 ∧ ρ 0 = v ∧ ρ 3 = (f i).2 ∧ ρ 4 = .int .i64 i) l.length
    ⟨_, 0, rfl, rfl, Nat.zero_le _, by rw [f0], rfl, by rw [f0]; rfl, rfl⟩ ?_
  rintro k x A' ⟨ρ, i, rfl, hk, hi, hA, g0, g3, g4⟩
  refine aw_of ?_
  have ho := (finv i hi).1
  rw [← hA] at ho
  have hlen := NV.lenU (e := 28) (NV.ge hNV ho.ge (fun _ _ h => h.ge ho.ge))
  by_cases hend : i = l.length
  · have e1 : ¬ ((i : Int) < l.length) := by omega
    rw [hend] at g3 hA
    simp (maxSteps := 1000000) (disch := (first | omega | (simp only [nx_alloc, nx_upd, len_cons, len_nil, List.length_set, List.length_map, List.length_append] <;> omega) | fail)) only [Nat.reduceAdd, Nat.reduceSub, Nat.reduceMul, Nat.reduceLT, Nat.reduceLeDiff, Nat.reduceEqDiff, ↓reduceIte, reduceCtorEq, Int.reduceAdd, Int.reduceSub, Int.reduceMul, Int.reduceLT, Int.reduceLE, Int.reduceEq, Int.reduceNe, Int.reduceToNat, Int.reduceNeg, go_sem, g0, g3, g4, hlen, Try.results34]
    exact gc_here ⟨rfl, hA⟩
  have e1 : ((i : Int) < l.length) := by omega
  obtain ⟨V, cs, hV, hc, hap⟩ := fst i (by omega)
  rw [← hA] at hap
  have hvc : VerC A V cs := by
    obtain ⟨cs', h1, h2⟩ := ha.get hV
    rw [hc] at h1; cases h1; exact h2
  obtain ⟨b, off, q1, q2, q3, cells, e', m, q4, q5, q6⟩ := (View.over hv ho).at (P := Try.prog) (e := 28) Try.sz28 (i := i) (by omega)
  rw [flat_elem hcl hc] at q6
  obtain ⟨p, q, u, rfl, w1, w2, w3⟩ := hvc
  have lq := ld_one q6 0 (by decide)
  rw [Nat.add_zero] at lq
  simp only [List.getElem?_cons_zero] at lq
  simp (maxSteps := 1000000) (disch := (first | omega | (simp only [nx_alloc, nx_upd, len_cons, len_nil, List.length_set, List.length_map, List.length_append] <;> omega) | fail)) only [Nat.reduceAdd, Nat.reduceSub, Nat.reduceMul, Nat.reduceLT, Nat.reduceLeDiff, Nat.reduceEqDiff, ↓reduceIte, reduceCtorEq, Int.reduceAdd, Int.reduceSub, Int.reduceMul, Int.reduceLT, Int.reduceLE, Int.reduceEq, Int.reduceNe, Int.reduceToNat, Int.reduceNeg, go_sem, g0, g3, g4, hlen, q3, q4, lq]
  rw [hap]
  simp (maxSteps := 1000000) (disch := (first | omega | (simp only [nx_alloc, nx_upd, len_cons, len_nil, List.length_set, List.length_map, List.length_append] <;> omega) | fail)) only [Nat.reduceAdd, Nat.reduceSub, Nat.reduceMul, Nat.reduceLT, Nat.reduceLeDiff, Nat.reduceEqDiff, ↓reduceIte, reduceCtorEq, Int.reduceAdd, Int.reduceSub, Int.reduceMul, Int.reduceLT, Int.reduceLE, Int.reduceEq, Int.reduceNe, Int.reduceToNat, Int.reduceNeg, go_sem, g4]
  refine ⟨k - 1, by omega, _, i + 1, rfl, by omega, by omega, rfl, ?_, ?_, ?_⟩
  · simp (maxSteps := 1000000) (disch := (first | omega | (simp only [nx_alloc, nx_upd, len_cons, len_nil, List.length_set, List.length_map, List.length_append] <;> omega) | fail)) only [Nat.reduceAdd, Nat.reduceSub, Nat.reduceMul, Nat.reduceLT, Nat.reduceLeDiff, Nat.reduceEqDiff, ↓reduceIte, reduceCtorEq, Int.reduceAdd, Int.reduceSub, Int.reduceMul, Int.reduceLT, Int.reduceLE, Int.reduceEq, Int.reduceNe, Int.reduceToNat, Int.reduceNeg, go_sem, g0]
  · simp (maxSteps := 1000000) (disch := (first | omega | (simp only [nx_alloc, nx_upd, len_cons, len_nil, List.length_set, List.length_map, List.length_append] <;> omega) | fail)) only [Nat.reduceAdd, Nat.reduceSub, Nat.reduceMul, Nat.reduceLT, Nat.reduceLeDiff, Nat.reduceEqDiff, ↓reduceIte, reduceCtorEq, Int.reduceAdd, Int.reduceSub, Int.reduceMul, Int.reduceLT, Int.reduceLE, Int.reduceEq, Int.reduceNe, Int.reduceToNat, Int.reduceNeg, go_sem]
  · simp (maxSteps := 1000000) (disch := (first | omega | (simp only [nx_alloc, nx_upd, len_cons, len_nil, List.length_set, List.length_map, List.length_append] <;> omega) | fail)) only [Nat.reduceAdd, Nat.reduceSub, Nat.reduceMul, Nat.reduceLT, Nat.reduceLeDiff, Nat.reduceEqDiff, ↓reduceIte, reduceCtorEq, Int.reduceAdd, Int.reduceSub, Int.reduceMul, Int.reduceLT, Int.reduceLE, Int.reduceEq, Int.reduceNe, Int.reduceToNat, Int.reduceNeg, go_sem]
    rfl
theorem NV.suf {α : Type} {P : Program} {A : St} {sz k e : Nat} {ik : IntKind} {E : α → List Value → Prop} {l : List α} {v : Value} (h : NV A sz E l v) (hs : SlOk sz v) (hsz : tsz P e = some sz) (h0 : 0 < sz) (hk : k ≤ l.length) : ∃ v', sliceU (some (.slice e)) (tsz P) v (some (.int ik (k : Int))) none none = some v' ∧ NV A sz E (l.drop k) v' ∧ SlOk sz v' := by
  obtain ⟨css, ha, hl, hv⟩ := h
  obtain ⟨v', h1, h2, h3, _⟩ := View.suf (P := P) (e := e) (ik := ik) hv hs hsz h0 hk
  refine ⟨v', h1, ⟨css.drop k, ha.drop k, fun cs hc => hl cs (List.mem_of_mem_drop hc), ?_⟩, h3⟩
  rw [← flat_drop k hl, List.length_drop]; exact h2
theorem NV.css {A : St} {l : List VerT} {v : Value} (h : NV A 4 (VerC A) l v) : ∃ css, All2 (VerC A) l css ∧ (∀ cs ∈ css, cs.length = 4) ∧ View A 4 css.flatten css.length v ∧ css.length = l.length := by
  obtain ⟨css, ha, hl, hv⟩ := h
  exact ⟨css, ha, hl, by rw [← ha.length]; exact hv, ha.length.symm⟩
/-- A suffix of versions is versions. -/
theorem VsV.suf {P : Program} {A : St} {k e : Nat} {ik : IntKind} {l : List VerT} {v : Value} (h : VsV A l v) (hsz : tsz P e = some 4) (hk : k ≤ l.length) : ∃ v', sliceU (some (.slice e)) (tsz P) v (some (.int ik (k : Int))) none none = some v' ∧ VsV A (l.drop k) v' := by
  obtain ⟨v', h1, h2, h3⟩ := NV.suf (P := P) (e := e) (ik := ik) h.1 h.2.ok hsz (by decide) hk
  refine ⟨v', h1, h2, ?_⟩
  obtain ⟨ad, c, rfl⟩ := h.sl
  obtain ⟨ad', n', c', e0, hle, had⟩ := h.2
  cases e0
  rw [sliceU_slice, hsz, Option.bind_some, sliceL_eq] at h1
  have hb : abounds l.length c (some (.int ik (k : Int))) none none = some (k, l.length, c) := by
    have : (k : Int) ≤ l.length := by omega
    simp [abounds, abound1, this, hk]
  rw [hb] at h1
  rcases had with ⟨rfl, rfl⟩ | ⟨b, off, sp, cells, e1, m, rfl, hsp, hlt, hg, hoff⟩
  · have hk0 : k = 0 := by omega
    subst hk0
    cases h1
    exact ⟨_, _, _, rfl, by omega, .inl ⟨rfl, rfl⟩⟩
  · rcases h.1.view with ⟨cs, hv0⟩
    have hin : off + k * 4 ≤ cells.length := by
      rcases hv0.2 with ⟨h0, _⟩ | ⟨b', off', sp', c', cells', e'', m', hv', g1, g2, g3, _⟩
      · have : k = 0 := by omega
        subst this; omega
      · cases hv'
        rw [hg] at g2; cases g2
        have : k * 4 ≤ l.length * 4 := Nat.mul_le_mul_right _ hk
        omega
    rcases hsp with rfl | rfl
    · rw [boundsL_exact] at h1
      cases h1
      exact ⟨_, _, _, rfl, by omega, .inr ⟨b, off + k * 4, none, cells, e1, m, rfl, .inl rfl, hlt, hg, hin⟩⟩
    · rw [show (none : Option Value).isSome = false from rfl, show (4 : Nat) = 3 + 1 from rfl, boundsL_ownN] at h1
      cases h1
      exact ⟨_, _, _, rfl, by omega, .inr ⟨b, off + k * 4, some 4, cells, e1, m, rfl, .inr rfl, hlt, hg, hin⟩⟩
theorem placeL_ltN {l : List VerT} {id : Int} {j : Nat} (h : placeL l id = j) : j < l.length := by
  rcases placeN_cs l id l.length 0 (by omega) with ⟨h1, _⟩ | ⟨k, V, _, h2, _, h4, _⟩
  · unfold placeL at h; omega
  · unfold placeL at h
    rw [h4] at h
    have := (List.getElem?_eq_some_iff.1 h2).1
    omega
set_option maxHeartbeats 16000000 in
theorem rdo_ok (w0 : World) (A : St) (L : List Nat) (hL : ∀ b ∈ L, b < A.next) (l : List VerT) (v : Value) (tl : List Value) (o : VOp) (oc : List Value) (hv : VsV (A.hide L) l v) (ho : VOpC (A.hide L) o oc) (hl : l.length ≤ 1000) (htl : tl.length = 21) (hcl : tl.all cell1 = true) (hid : 0 ≤ o.id ∧ o.id < 4294967296) (hsm : o.v.small) :
    ACalls Try.prog w0 25 #[.agg (v :: tl).toArray, .agg oc.toArray] A (DoPost A L l o tl) := by
  have hv1 : one1 v = true := by obtain ⟨ad, c, rfl⟩ := hv.sl; rfl
  have hvc := cellOf1 hv1
  have hS22 : (v :: tl).length = 22 := by rw [List.length_cons, htl]
  have hSc : (v :: tl).all cell1 = true := by rw [List.all_cons, hvc, hcl]; rfl
  have hoc : oc.length = 6 ∧ oc.all cell1 = true := ⟨ho.len, ho.cell⟩
  obtain ⟨vs, rfl, hvs⟩ := ho
  have hvl := hvs.len
  have htk : tl.take 21 = tl := List.take_of_length_le (by omega)
  have hvtk : vs.take 4 = vs := List.take_of_length_le (by omega)
  obtain ⟨B, hB⟩ : ∃ B, B = (((A.alloc (.cells (v :: tl) 50 (some 0))).alloc (.cells (.int .i64 o.kind :: .int .u32 o.id :: vs) 30 (some 0))).alloc (.cells [.slice none 0 0, .int .u32 0, .int .u32 0, .int .u32 0, .int .i64 0, .slice none 0 0, .int .u32 0, .slice none 0 0, .slice none 0 0, .slice none 0 0, .int .i64 0, .slice none 0 0, .int .u32 0, .slice none 0 0, .slice none 0 0, .slice none 0 0, .int .i64 0, .slice none 0 0, .int .u32 0, .slice none 0 0, .slice none 0 0, .slice none 0 0] 50 (some 0))).alloc (.cells [.int .i64 0, .slice none 0 0, .int .u32 0, .slice none 0 0, .slice none 0 0, .slice none 0 0] 40 (some 0)) := ⟨_, rfl⟩
  have oB : Over A B := by rw [hB]; exact (((Over.refl A).alloc _).alloc _).alloc _ |>.alloc _
  have nB : B.next = A.next + 4 := by rw [hB]; rfl
  have b0 : B.get A.next = some (.cells (v :: tl) 50 (some 0)) := by rw [hB]; simp (disch := (first | omega | (simp only [nx_alloc, nx_upd, len_cons, len_nil, List.length_set, List.length_map, List.length_append] <;> omega) | fail)) only [St.get_upd, St.get_alloc, St.next_alloc, St.next_upd, ↓reduceIte, natF_lt, natF_gt, natF_ne, Nat.add_assoc, Nat.reduceAdd, Nat.reduceEqDiff, Nat.add_left_cancel_iff]
  have b1 : B.get (A.next + 1) = some (.cells (.int .i64 o.kind :: .int .u32 o.id :: vs) 30 (some 0)) := by rw [hB]; simp (disch := (first | omega | (simp only [nx_alloc, nx_upd, len_cons, len_nil, List.length_set, List.length_map, List.length_append] <;> omega) | fail)) only [St.get_upd, St.get_alloc, St.next_alloc, St.next_upd, ↓reduceIte, natF_lt, natF_gt, natF_ne, Nat.add_assoc, Nat.reduceAdd, Nat.reduceEqDiff, Nat.add_left_cancel_iff]
  have b2 : B.get (A.next + 2) = some (.cells [.slice none 0 0, .int .u32 0, .int .u32 0, .int .u32 0, .int .i64 0, .slice none 0 0, .int .u32 0, .slice none 0 0, .slice none 0 0, .slice none 0 0, .int .i64 0, .slice none 0 0, .int .u32 0, .slice none 0 0, .slice none 0 0, .slice none 0 0, .int .i64 0, .slice none 0 0, .int .u32 0, .slice none 0 0, .slice none 0 0, .slice none 0 0] 50 (some 0)) := by rw [hB]; simp (disch := (first | omega | (simp only [nx_alloc, nx_upd, len_cons, len_nil, List.length_set, List.length_map, List.length_append] <;> omega) | fail)) only [St.get_upd, St.get_alloc, St.next_alloc, St.next_upd, ↓reduceIte, natF_lt, natF_gt, natF_ne, Nat.add_assoc, Nat.reduceAdd, Nat.reduceEqDiff, Nat.add_left_cancel_iff]
  have b3 : B.get (A.next + 3) = some (.cells [.int .i64 0, .slice none 0 0, .int .u32 0, .slice none 0 0, .slice none 0 0, .slice none 0 0] 40 (some 0)) := by rw [hB]; simp (disch := (first | omega | (simp only [nx_alloc, nx_upd, len_cons, len_nil, List.length_set, List.length_map, List.length_append] <;> omega) | fail)) only [St.get_upd, St.get_alloc, St.next_alloc, St.next_upd, ↓reduceIte, natF_lt, natF_gt, natF_ne, Nat.add_assoc, Nat.reduceAdd, Nat.reduceEqDiff, Nat.add_left_cancel_iff]
  -- what all ways end by
  have fin1 : ∀ (X : St) (v' : Value) (rc : List Value), Over A X → VsV (X.hide ((A.next + 3) :: (A.next + 2) :: A.next :: L)) (doL l o).1 v' → RepC (X.hide ((A.next + 3) :: (A.next + 2) :: A.next :: L)) (doL l o).2 rc → A.next + 4 ≤ X.next →
      GcE A (DoPost A L l o tl) (.returned (.tuple #[.agg (v' :: tl).toArray, .agg rc.toArray])) ((X.upd (A.next + 2) (some (.cells (v' :: tl) 50 (some 0)))).upd (A.next + 3) (some (.cells rc 40 (some 0)))) := by
    intro X v' rc oX hv' hr' hnx
    have oF : Over A ((X.upd (A.next + 2) (some (.cells (v' :: tl) 50 (some 0)))).upd (A.next + 3) (some (.cells rc 40 (some 0)))) := (oX.upd (by omega) _).upd (by omega) _
    have gF : Ge (X.hide ((A.next + 3) :: (A.next + 2) :: A.next :: L)) (((X.upd (A.next + 2) (some (.cells (v' :: tl) 50 (some 0)))).upd (A.next + 3) (some (.cells rc 40 (some 0)))).hide L) := Ge.hide (Nat.le_refl _) (fun b hb hbL => by
      simp only [List.mem_cons, not_or] at hbL
      exact ⟨hbL.2.2.2, by rw [St.get_upd, if_neg hbL.1, St.get_upd, if_neg hbL.2.1]⟩)
    exact gc_here ⟨v', rc, rfl, oF, hv'.ge gF, hr'.ge gF⟩
  have gB : ∀ (X : St), Over B X → Ge (A.hide L) (X.hide ((A.next + 3) :: (A.next + 2) :: A.next :: L)) := fun X oX => Ge.hide (oB.trans oX).next (fun b hb hbL => ⟨by simp only [List.mem_cons, not_or]; exact ⟨by omega, by omega, by omega, hbL⟩, (oB.trans oX).get b hb⟩)
  have hvB := hv.ge (gB B (Over.refl _))
  have hvsB := hvs.ge (gB B (Over.refl _))
  have hvB' : VsV B l v := hvB.ge (hide_ge _ _)
  have stE : ∀ (X : St) (v' : Value), one1 v' = true → storeC X (some 22) (some (.cells [.slice none 0 0, .int .u32 0, .int .u32 0, .int .u32 0, .int .i64 0, .slice none 0 0, .int .u32 0, .slice none 0 0, .slice none 0 0, .slice none 0 0, .int .i64 0, .slice none 0 0, .int .u32 0, .slice none 0 0, .slice none 0 0, .slice none 0 0, .int .i64 0, .slice none 0 0, .int .u32 0, .slice none 0 0, .slice none 0 0, .slice none 0 0] 50 (some 0))) (A.next + 2) 0 (.agg (v' :: tl).toArray) = some (X.upd (A.next + 2) (some (.cells (v' :: tl) 50 (some 0)))) := fun X v' h => stN rfl (by rw [List.length_cons, htl]) (by rw [List.all_cons, cellOf1 h, hcl]; rfl)
  have ldE : ∀ (v' : Value), loadC (some true) (some 22) (some (.cells (v' :: tl) 50 (some 0))) 0 = some (.agg (v' :: tl).toArray) := fun v' => ldN (by rw [List.length_cons, htl])
  have stR : ∀ (X : St) (rc : List Value), rc.length = 6 → rc.all cell1 = true → storeC X (some 6) (some (.cells [.int .i64 0, .slice none 0 0, .int .u32 0, .slice none 0 0, .slice none 0 0, .slice none 0 0] 40 (some 0))) (A.next + 3) 0 (.agg rc.toArray) = some (X.upd (A.next + 3) (some (.cells rc 40 (some 0)))) := fun X rc h1 h2 => stN rfl h1 h2
  have stErr := fun (X : St) (e : Int) => stR X (errC e) rfl rfl
  unfold errC at stErr
  have ld28 := ld_agg (sz := 4) (off := 2) (e' := 30) (m := some 0) (cells := .int .i64 o.kind :: .int .u32 o.id :: vs) (cs := vs) (by simp; omega) (by rw [List.drop_succ_cons, List.drop_succ_cons, List.drop_zero, hvtk])
  have hwr := fun (X : St) (e : Int) => rwrong_ok w0 X e
  unfold errC at hwr
  refine call_E Try.enters25 Try.func25 rfl (Nat.le_of_ble_eq_true rfl) fun hw hbd => ?_
  simp (maxSteps := 1000000) (disch := (first | omega | (simp only [nx_alloc, nx_upd, len_cons, len_nil, List.length_set, List.length_map, List.length_append] <;> omega) | fail)) only [Nat.reduceAdd, Nat.reduceSub, Nat.reduceMul, Nat.reduceLT, Nat.reduceLeDiff, Nat.reduceEqDiff, ↓reduceIte, reduceCtorEq, Int.reduceAdd, Int.reduceSub, Int.reduceMul, Int.reduceLT, Int.reduceLE, Int.reduceEq, Int.reduceNe, Int.reduceToNat, Int.reduceNeg, go_sem, Try.ntmps25, Try.results25]
  rw [← hB]
  refine call1 (rfind_ok w0 B l v hvB' (by omega) o.id) ?_
  have hlen := NV.lenU (e := 28) hvB'.1
  have hst0 : ∀ (X : St) (u : Value), one1 u = true → storeC X (some 1) (some (.cells (v :: tl) 50 (some 0))) A.next 0 u = some (X.upd A.next (some (.cells (u :: tl) 50 (some 0)))) := fun X u h => by rw [storeC_val h]; rfl
  have fin2 : ∀ (X : St) (v' : Value) (rc : List Value), Over B X → VsV (X.hide ((A.next + 3) :: (A.next + 2) :: A.next :: L)) (doL l o).1 v' → RepC (X.hide ((A.next + 3) :: (A.next + 2) :: A.next :: L)) (doL l o).2 rc →
      GcE A (DoPost A L l o tl) (.returned (.tuple #[.agg (v' :: tl).toArray, .agg rc.toArray])) (((X.upd A.next (some (.cells (v' :: tl) 50 (some 0)))).upd (A.next + 2) (some (.cells (v' :: tl) 50 (some 0)))).upd (A.next + 3) (some (.cells rc 40 (some 0)))) := by
    intro X v' rc oX hv' hr'
    have gX : Ge (X.hide ((A.next + 3) :: (A.next + 2) :: A.next :: L)) ((X.upd A.next (some (.cells (v' :: tl) 50 (some 0)))).hide ((A.next + 3) :: (A.next + 2) :: A.next :: L)) := Ge.hide (Nat.le_refl _) (fun b hb hbL => ⟨hbL, by
      simp only [List.mem_cons, not_or] at hbL
      rw [St.get_upd, if_neg hbL.2.2.1]⟩)
    exact fin1 _ v' rc ((oB.trans oX).upd (Nat.le_refl _) _) (hv'.ge gX) (hr'.ge gX) (by have := oX.next; simp only [nx_upd]; omega)
  have hL2 : ∀ b ∈ (A.next + 3) :: (A.next + 2) :: A.next :: L, b < B.next := fun b hb => by
    simp only [List.mem_cons] at hb
    rcases hb with rfl | rfl | rfl | hb
    · omega
    · omega
    · omega
    · have := hL b hb; omega
  by_cases k1 : o.kind = 1
  · have hd0 : doL l o = if mayB o.v = false then (l, errR 1) else if 0 ≤ placeL l o.v.id then (l, errR 4) else if 8 ≤ l.length then (l, errR 2) else (l ++ [o.v], errR 0) := by unfold doL; rw [if_pos k1]
    simp (maxSteps := 1000000) (disch := (first | omega | (simp only [nx_alloc, nx_upd, len_cons, len_nil, List.length_set, List.length_map, List.length_append] <;> omega) | fail)) only [Nat.reduceAdd, Nat.reduceSub, Nat.reduceMul, Nat.reduceLT, Nat.reduceLeDiff, Nat.reduceEqDiff, ↓reduceIte, reduceCtorEq, Int.reduceAdd, Int.reduceSub, Int.reduceMul, Int.reduceLT, Int.reduceLE, Int.reduceEq, Int.reduceNe, Int.reduceToNat, Int.reduceNeg, go_sem, b1, k1, ld28, hvtk]
    refine call1 (rmay_ok w0 B o.v _ ((hvsB.ge (hide_ge _ _)).ver) hsm) ?_
    cases hmb : mayB o.v
    · have hd : doL l o = (l, errR 1) := by rw [hd0, if_pos hmb]
      simp (maxSteps := 1000000) (disch := (first | omega | (simp only [nx_alloc, nx_upd, len_cons, len_nil, List.length_set, List.length_map, List.length_append] <;> omega) | fail)) only [Nat.reduceAdd, Nat.reduceSub, Nat.reduceMul, Nat.reduceLT, Nat.reduceLeDiff, Nat.reduceEqDiff, ↓reduceIte, reduceCtorEq, Int.reduceAdd, Int.reduceSub, Int.reduceMul, Int.reduceLT, Int.reduceLE, Int.reduceEq, Int.reduceNe, Int.reduceToNat, Int.reduceNeg, go_sem]
      refine aw_draw2 [⟨false, [], [0]⟩, ⟨false, [], [0]⟩, ⟨true, [0, 1], [0]⟩, ⟨true, [0, 1, 2], [1]⟩] [B, B.upd (A.next + 2) (some (.cells (v :: tl) 50 (some 0))), (B.upd (A.next + 2) (some (.cells (v :: tl) 50 (some 0)))).upd (A.next + 3) (some (.cells (errC 1) 40 (some 0)))] 2 (by kernel_rfl) (by kernel_rfl) rfl ?_
      unfold errC
      simp (maxSteps := 1000000) (disch := (first | omega | (simp only [nx_alloc, nx_upd, len_cons, len_nil, List.length_set, List.length_map, List.length_append] <;> omega) | fail)) only [Nat.reduceAdd, Nat.reduceSub, Nat.reduceMul, Nat.reduceLT, Nat.reduceLeDiff, Nat.reduceEqDiff, ↓reduceIte, reduceCtorEq, Int.reduceAdd, Int.reduceSub, Int.reduceMul, Int.reduceLT, Int.reduceLE, Int.reduceEq, Int.reduceNe, Int.reduceToNat, Int.reduceNeg, go_sem, b0, b2, b3, htk, ldE, stE, hv1]
      refine ⟨_, hwr B 1, ?_⟩
      simp (maxSteps := 1000000) (disch := (first | omega | (simp only [nx_alloc, nx_upd, len_cons, len_nil, List.length_set, List.length_map, List.length_append] <;> omega) | fail)) only [Nat.reduceAdd, Nat.reduceSub, Nat.reduceMul, Nat.reduceLT, Nat.reduceLeDiff, Nat.reduceEqDiff, ↓reduceIte, reduceCtorEq, Int.reduceAdd, Int.reduceSub, Int.reduceMul, Int.reduceLT, Int.reduceLE, Int.reduceEq, Int.reduceNe, Int.reduceToNat, Int.reduceNeg, go_sem, b2, b3, htk, stE, hv1, stErr, Try.results25]
      exact fin1 B v (errC 1) oB (by rw [hd]; exact hvB) (by rw [hd]; exact errC_rep _ _) (by omega)
    rw [if_neg (by rw [hmb]; decide)] at hd0
    obtain ⟨p, q, w, rfl, hpv, hqv, hwv⟩ := hvs
    simp (maxSteps := 1000000) (disch := (first | omega | (simp only [nx_alloc, nx_upd, len_cons, len_nil, List.length_set, List.length_map, List.length_append] <;> omega) | fail)) only [Nat.reduceAdd, Nat.reduceSub, Nat.reduceMul, Nat.reduceLT, Nat.reduceLeDiff, Nat.reduceEqDiff, ↓reduceIte, reduceCtorEq, Int.reduceAdd, Int.reduceSub, Int.reduceMul, Int.reduceLT, Int.reduceLE, Int.reduceEq, Int.reduceNe, Int.reduceToNat, Int.reduceNeg, go_sem, b0, b1]
    refine call1 (rfind_ok w0 B l v hvB' (by omega) o.v.id) ?_
    by_cases hin : 0 ≤ placeL l o.v.id
    · have hin' : placeL l o.v.id ≥ 0 := hin
      have hd : doL l o = (l, errR 4) := by rw [hd0, if_pos hin]
      simp (maxSteps := 1000000) (disch := (first | omega | (simp only [nx_alloc, nx_upd, len_cons, len_nil, List.length_set, List.length_map, List.length_append] <;> omega) | fail)) only [Nat.reduceAdd, Nat.reduceSub, Nat.reduceMul, Nat.reduceLT, Nat.reduceLeDiff, Nat.reduceEqDiff, ↓reduceIte, reduceCtorEq, Int.reduceAdd, Int.reduceSub, Int.reduceMul, Int.reduceLT, Int.reduceLE, Int.reduceEq, Int.reduceNe, Int.reduceToNat, Int.reduceNeg, go_sem, hin', hin]
      refine aw_draw2 [⟨false, [], [0]⟩, ⟨false, [], [0]⟩, ⟨true, [0, 1], [0]⟩, ⟨true, [0, 1, 2], [1]⟩] [B, B.upd (A.next + 2) (some (.cells (v :: tl) 50 (some 0))), (B.upd (A.next + 2) (some (.cells (v :: tl) 50 (some 0)))).upd (A.next + 3) (some (.cells (errC 4) 40 (some 0)))] 2 (by kernel_rfl) (by kernel_rfl) rfl ?_
      unfold errC
      simp (maxSteps := 1000000) (disch := (first | omega | (simp only [nx_alloc, nx_upd, len_cons, len_nil, List.length_set, List.length_map, List.length_append] <;> omega) | fail)) only [Nat.reduceAdd, Nat.reduceSub, Nat.reduceMul, Nat.reduceLT, Nat.reduceLeDiff, Nat.reduceEqDiff, ↓reduceIte, reduceCtorEq, Int.reduceAdd, Int.reduceSub, Int.reduceMul, Int.reduceLT, Int.reduceLE, Int.reduceEq, Int.reduceNe, Int.reduceToNat, Int.reduceNeg, go_sem, b0, b2, b3, htk, ldE, stE, hv1]
      refine ⟨_, hwr B 4, ?_⟩
      simp (maxSteps := 1000000) (disch := (first | omega | (simp only [nx_alloc, nx_upd, len_cons, len_nil, List.length_set, List.length_map, List.length_append] <;> omega) | fail)) only [Nat.reduceAdd, Nat.reduceSub, Nat.reduceMul, Nat.reduceLT, Nat.reduceLeDiff, Nat.reduceEqDiff, ↓reduceIte, reduceCtorEq, Int.reduceAdd, Int.reduceSub, Int.reduceMul, Int.reduceLT, Int.reduceLE, Int.reduceEq, Int.reduceNe, Int.reduceToNat, Int.reduceNeg, go_sem, b2, b3, htk, stE, hv1, stErr, Try.results25]
      exact fin1 B v (errC 4) oB (by rw [hd]; exact hvB) (by rw [hd]; exact errC_rep _ _) (by omega)
    rw [if_neg hin] at hd0
    have hin' : ¬ placeL l o.v.id ≥ 0 := hin
    by_cases h8 : 8 ≤ l.length
    · have h8' : (l.length : Int) ≥ 8 := by omega
      have hd : doL l o = (l, errR 2) := by rw [hd0, if_pos h8]
      simp (maxSteps := 1000000) (disch := (first | omega | (simp only [nx_alloc, nx_upd, len_cons, len_nil, List.length_set, List.length_map, List.length_append] <;> omega) | fail)) only [Nat.reduceAdd, Nat.reduceSub, Nat.reduceMul, Nat.reduceLT, Nat.reduceLeDiff, Nat.reduceEqDiff, ↓reduceIte, reduceCtorEq, Int.reduceAdd, Int.reduceSub, Int.reduceMul, Int.reduceLT, Int.reduceLE, Int.reduceEq, Int.reduceNe, Int.reduceToNat, Int.reduceNeg, go_sem, hin', hin, b0, hlen, h8']
      refine aw_draw2 [⟨false, [], [0]⟩, ⟨false, [], [0]⟩, ⟨true, [0, 1], [0]⟩, ⟨true, [0, 1, 2], [1]⟩] [B, B.upd (A.next + 2) (some (.cells (v :: tl) 50 (some 0))), (B.upd (A.next + 2) (some (.cells (v :: tl) 50 (some 0)))).upd (A.next + 3) (some (.cells (errC 2) 40 (some 0)))] 2 (by kernel_rfl) (by kernel_rfl) rfl ?_
      unfold errC
      simp (maxSteps := 1000000) (disch := (first | omega | (simp only [nx_alloc, nx_upd, len_cons, len_nil, List.length_set, List.length_map, List.length_append] <;> omega) | fail)) only [Nat.reduceAdd, Nat.reduceSub, Nat.reduceMul, Nat.reduceLT, Nat.reduceLeDiff, Nat.reduceEqDiff, ↓reduceIte, reduceCtorEq, Int.reduceAdd, Int.reduceSub, Int.reduceMul, Int.reduceLT, Int.reduceLE, Int.reduceEq, Int.reduceNe, Int.reduceToNat, Int.reduceNeg, go_sem, b0, b2, b3, htk, ldE, stE, hv1]
      refine ⟨_, hwr B 2, ?_⟩
      simp (maxSteps := 1000000) (disch := (first | omega | (simp only [nx_alloc, nx_upd, len_cons, len_nil, List.length_set, List.length_map, List.length_append] <;> omega) | fail)) only [Nat.reduceAdd, Nat.reduceSub, Nat.reduceMul, Nat.reduceLT, Nat.reduceLeDiff, Nat.reduceEqDiff, ↓reduceIte, reduceCtorEq, Int.reduceAdd, Int.reduceSub, Int.reduceMul, Int.reduceLT, Int.reduceLE, Int.reduceEq, Int.reduceNe, Int.reduceToNat, Int.reduceNeg, go_sem, b2, b3, htk, stE, hv1, stErr, Try.results25]
      exact fin1 B v (errC 2) oB (by rw [hd]; exact hvB) (by rw [hd]; exact errC_rep _ _) (by omega)
    have h8' : ¬ (l.length : Int) ≥ 8 := by omega
    rw [if_neg h8] at hd0
    obtain ⟨css, ha, hcl, hview, hcln⟩ := NV.css hvB.1
    obtain ⟨A2, hA2⟩ : ∃ A2, A2 = B.alloc (.cells [] 28 (some 0)) := ⟨_, rfl⟩
    have o2 : Over B A2 := hA2 ▸ (Over.refl _).alloc _
    have n2 : A2.next = B.next + 1 := by rw [hA2, nx_alloc]
    have hr0 : VRow A2 B.next [] (.slice (some ⟨B.next, 0, none⟩) 0 0) := ⟨rfl, .inr ⟨B.next, none, rfl, .inl rfl, Nat.le_refl _, by omega, by rw [hA2]; exact get_alloc_same ..⟩⟩
    have hcell := css_cell ha
    obtain ⟨u1, A3, hp1, hr1, n3, k3⟩ := vs_push hr0 (by omega) (View.ge hview ((hide_ge B _).trans o2.ge)) hcell (by rw [hcln]; simp; omega)
    rw [List.nil_append] at hr1
    have o3 : Over B A3 := Row.push_over (A0 := B) (by omega) (fun b hb => (Row.rb hr0 b hb).1) n3 k3 o2 (Nat.le_refl _)
    obtain ⟨A4, hA4⟩ : ∃ A4, A4 = A3.alloc (.cells [.int .u32 o.v.id, p, q, w] 28 (some 0)) := ⟨_, rfl⟩
    have o4 : Over A3 A4 := hA4 ▸ (Over.refl _).alloc _
    have n4 : A4.next = A3.next + 1 := by rw [hA4, nx_alloc]
    have hvw : View A4 4 ([[.int .u32 o.v.id, p, q, w]] : List (List Value)).flatten ([[.int .u32 o.v.id, p, q, w]] : List (List Value)).length (.slice (some ⟨A3.next, 0, none⟩) 1 1) := ⟨rfl, .inr ⟨A3.next, 0, none, 1, _, _, _, rfl, by omega, by rw [hA4]; exact get_alloc_same .., Nat.le_refl _, rfl⟩⟩
    have hvcell : ([[.int .u32 o.v.id, p, q, w]] : List (List Value)).flatten.all cell1 = true := hoc.2
    obtain ⟨u2, A5, hp2, hr2, n5, k5⟩ := vs_push (Row.over hr1 o4) (by omega) hvw hvcell (by rw [hcln]; simp; omega)
    have o5 : Over B A5 := Row.push_over (A0 := B) (by omega) (fun b hb => (Row.rb (Row.over hr1 o4) b hb).1) n5 k5 (o3.trans o4) (Nat.le_refl _)
    have c0 : A5.get A.next = _ := (o5.get _ (by omega)).trans b0
    have c2 : A5.get (A.next + 2) = _ := (o5.get _ (by omega)).trans b2
    have c3 : A5.get (A.next + 3) = _ := (o5.get _ (by omega)).trans b3
    have d0 : A3.get A.next = _ := (o3.get _ (by omega)).trans b0
    have d1 : A3.get (A.next + 1) = _ := (o3.get _ (by omega)).trans b1
    have e0 : A2.get A.next = _ := (o2.get _ (by omega)).trans b0
    have hu2 : one1 u2 = true := hr2.sing
    have hsetv := set_all [.int .u32 0, .slice none 0 0, .slice none 0 0, .slice none 0 0] [.int .u32 o.v.id, p, q, w] rfl
    simp (maxSteps := 1000000) (disch := (first | omega | (simp only [nx_alloc, nx_upd, len_cons, len_nil, List.length_set, List.length_map, List.length_append] <;> omega) | fail)) only [Nat.reduceAdd, Nat.reduceSub, Nat.reduceMul, Nat.reduceLT, Nat.reduceLeDiff, Nat.reduceEqDiff, ↓reduceIte, reduceCtorEq, Int.reduceAdd, Int.reduceSub, Int.reduceMul, Int.reduceLT, Int.reduceLE, Int.reduceEq, Int.reduceNe, Int.reduceToNat, Int.reduceNeg, go_sem, hin', hin, b0, hlen, h8', buildVs0]
    rw [← hA2]
    rw [hp1]
    simp (maxSteps := 1000000) (disch := (first | omega | (simp only [nx_alloc, nx_upd, len_cons, len_nil, List.length_set, List.length_map, List.length_append] <;> omega) | fail)) only [Nat.reduceAdd, Nat.reduceSub, Nat.reduceMul, Nat.reduceLT, Nat.reduceLeDiff, Nat.reduceEqDiff, ↓reduceIte, reduceCtorEq, Int.reduceAdd, Int.reduceSub, Int.reduceMul, Int.reduceLT, Int.reduceLE, Int.reduceEq, Int.reduceNe, Int.reduceToNat, Int.reduceNeg, go_sem, d0, d1, hsetv, k1]
    rw [← hA4, hp2]
    simp (maxSteps := 1000000) (disch := (first | omega | (simp only [nx_alloc, nx_upd, len_cons, len_nil, List.length_set, List.length_map, List.length_append] <;> omega) | fail)) only [Nat.reduceAdd, Nat.reduceSub, Nat.reduceMul, Nat.reduceLT, Nat.reduceLeDiff, Nat.reduceEqDiff, ↓reduceIte, reduceCtorEq, Int.reduceAdd, Int.reduceSub, Int.reduceMul, Int.reduceLT, Int.reduceLE, Int.reduceEq, Int.reduceNe, Int.reduceToNat, Int.reduceNeg, go_sem, c0, hst0, hu2, c2, c3, ldE, stE, htk, stErr, Try.results25]
    have hlen5 : ∀ cs ∈ css ++ [[.int .u32 o.v.id, p, q, w]], cs.length = 4 := fun cs hc => by
      rcases List.mem_append.1 hc with hc | hc
      · exact hcl cs hc
      · rw [List.mem_singleton.1 hc]; rfl
    refine fin2 A5 u2 (errC 0) o5 ?_ (by rw [hd0]; exact errC_rep _ _)
    rw [hd0]
    refine VRow.vs hr2 (All2.app (ha.imp (fun _ _ h => h.ge (hide_over o5 _))) (.cons ?_ .nil)) hlen5 hL2
    exact VerC.ge hvsB (hide_over o5 _)
  have k1' : ¬ o.kind = 1 := k1
  by_cases k2 : o.kind = 2
  · have hd0 : doL l o = if placeL l o.id < 0 then (l, errR 3) else (l.eraseIdx (placeL l o.id).toNat, errR 0) := by unfold doL; rw [if_neg k1, if_pos k2]
    by_cases hin : placeL l o.id < 0
    · have hd : doL l o = (l, errR 3) := by rw [hd0, if_pos hin]
      simp (maxSteps := 1000000) (disch := (first | omega | (simp only [nx_alloc, nx_upd, len_cons, len_nil, List.length_set, List.length_map, List.length_append] <;> omega) | fail)) only [Nat.reduceAdd, Nat.reduceSub, Nat.reduceMul, Nat.reduceLT, Nat.reduceLeDiff, Nat.reduceEqDiff, ↓reduceIte, reduceCtorEq, Int.reduceAdd, Int.reduceSub, Int.reduceMul, Int.reduceLT, Int.reduceLE, Int.reduceEq, Int.reduceNe, Int.reduceToNat, Int.reduceNeg, go_sem, b1, k1, k2, hin]
      refine aw_draw2 [⟨false, [], [0]⟩, ⟨false, [], [0]⟩, ⟨true, [0, 1], [0]⟩, ⟨true, [0, 1, 2], [1]⟩] [B, B.upd (A.next + 2) (some (.cells (v :: tl) 50 (some 0))), (B.upd (A.next + 2) (some (.cells (v :: tl) 50 (some 0)))).upd (A.next + 3) (some (.cells (errC 3) 40 (some 0)))] 2 (by kernel_rfl) (by kernel_rfl) rfl ?_
      unfold errC
      simp (maxSteps := 1000000) (disch := (first | omega | (simp only [nx_alloc, nx_upd, len_cons, len_nil, List.length_set, List.length_map, List.length_append] <;> omega) | fail)) only [Nat.reduceAdd, Nat.reduceSub, Nat.reduceMul, Nat.reduceLT, Nat.reduceLeDiff, Nat.reduceEqDiff, ↓reduceIte, reduceCtorEq, Int.reduceAdd, Int.reduceSub, Int.reduceMul, Int.reduceLT, Int.reduceLE, Int.reduceEq, Int.reduceNe, Int.reduceToNat, Int.reduceNeg, go_sem, b0, b2, b3, htk, ldE, stE, hv1]
      refine ⟨_, hwr B 3, ?_⟩
      simp (maxSteps := 1000000) (disch := (first | omega | (simp only [nx_alloc, nx_upd, len_cons, len_nil, List.length_set, List.length_map, List.length_append] <;> omega) | fail)) only [Nat.reduceAdd, Nat.reduceSub, Nat.reduceMul, Nat.reduceLT, Nat.reduceLeDiff, Nat.reduceEqDiff, ↓reduceIte, reduceCtorEq, Int.reduceAdd, Int.reduceSub, Int.reduceMul, Int.reduceLT, Int.reduceLE, Int.reduceEq, Int.reduceNe, Int.reduceToNat, Int.reduceNeg, go_sem, b2, b3, htk, stE, hv1, stErr, Try.results25]
      exact fin1 B v (errC 3) oB (by rw [hd]; exact hvB) (by rw [hd]; exact errC_rep _ _) (by omega)
    rw [if_neg hin] at hd0
    obtain ⟨j, hj⟩ := Int.eq_ofNat_of_zero_le (show 0 ≤ placeL l o.id by omega)
    rw [hj, Int.toNat_natCast] at hd0
    have hjl : j < l.length := placeL_ltN hj
    obtain ⟨css, ha, hcl, hview, hcln⟩ := NV.css hvB.1
    obtain ⟨A2, hA2⟩ : ∃ A2, A2 = B.alloc (.cells [] 28 (some 0)) := ⟨_, rfl⟩
    have o2 : Over B A2 := hA2 ▸ (Over.refl _).alloc _
    have n2 : A2.next = B.next + 1 := by rw [hA2, nx_alloc]
    have hr0 : VRow A2 B.next [] (.slice (some ⟨B.next, 0, none⟩) 0 0) := ⟨rfl, .inr ⟨B.next, none, rfl, .inl rfl, Nat.le_refl _, by omega, by rw [hA2]; exact get_alloc_same ..⟩⟩
    have hcell := css_cell ha
    have hview' := View.ge hview (hide_ge B _)
    obtain ⟨s1, hs1, hvs1, _, _⟩ := View.pre (P := Try.prog) (e := 28) (ik := .i64) hview' hvB.2.ok Try.sz28 (by decide) (k := j) (by omega)
    obtain ⟨s2, hs2, hvs2, _, _⟩ := View.suf (P := Try.prog) (e := 28) (ik := .i64) hview' hvB.2.ok Try.sz28 (by decide) (k := j + 1) (by omega)
    rw [flat_take j hcl] at hvs1
    rw [flat_drop (j + 1) hcl] at hvs2
    have hj1 : ((j + 1 : Nat) : Int) = (j : Int) + 1 := by omega
    rw [hj1] at hs2
    have hle1 : (css.take j).length = j := by rw [List.length_take]; omega
    have hle2 : (css.drop (j + 1)).length = css.length - (j + 1) := List.length_drop ..
    have hc1 : (css.take j).flatten.all cell1 = true := by
      rw [← flat_take j hcl]; exact List.all_eq_true.2 (fun x hx => List.all_eq_true.1 hcell x (List.mem_of_mem_take hx))
    have hc2 : (css.drop (j + 1)).flatten.all cell1 = true := by
      rw [← flat_drop (j + 1) hcl]; exact List.all_eq_true.2 (fun x hx => List.all_eq_true.1 hcell x (List.mem_of_mem_drop hx))
    obtain ⟨u1, A3, hp1, hr1, n3, k3⟩ := vs_push hr0 (by omega) (new := css.take j) (x := s1) (by rw [hle1]; exact View.over hvs1 o2) hc1 (by rw [hle1]; simp; omega)
    rw [List.nil_append] at hr1
    have o3 : Over B A3 := Row.push_over (A0 := B) (by omega) (fun b hb => (Row.rb hr0 b hb).1) n3 k3 o2 (Nat.le_refl _)
    obtain ⟨u2, A5, hp2, hr2, n5, k5⟩ := vs_push hr1 (by omega) (new := css.drop (j + 1)) (x := s2) (by rw [hle2]; exact View.over hvs2 o3) hc2 (by rw [hle1, hle2]; omega)
    have o5 : Over B A5 := Row.push_over (A0 := B) (by omega) (fun b hb => (Row.rb hr1 b hb).1) n5 k5 o3 (Nat.le_refl _)
    have c0 : A5.get A.next = _ := (o5.get _ (by omega)).trans b0
    have c2 : A5.get (A.next + 2) = _ := (o5.get _ (by omega)).trans b2
    have c3 : A5.get (A.next + 3) = _ := (o5.get _ (by omega)).trans b3
    have d0 : A3.get A.next = _ := (o3.get _ (by omega)).trans b0
    have e0 : A2.get A.next = _ := (o2.get _ (by omega)).trans b0
    have hu2 : one1 u2 = true := hr2.sing
    have hin2 : ¬ ((j : Int) < 0) := by omega
    simp (maxSteps := 1000000) (disch := (first | omega | (simp only [nx_alloc, nx_upd, len_cons, len_nil, List.length_set, List.length_map, List.length_append] <;> omega) | fail)) only [Nat.reduceAdd, Nat.reduceSub, Nat.reduceMul, Nat.reduceLT, Nat.reduceLeDiff, Nat.reduceEqDiff, ↓reduceIte, reduceCtorEq, Int.reduceAdd, Int.reduceSub, Int.reduceMul, Int.reduceLT, Int.reduceLE, Int.reduceEq, Int.reduceNe, Int.reduceToNat, Int.reduceNeg, go_sem, b0, b1, k1, k2, hj, hin2, buildVs0, hs1]
    rw [← hA2, hp1]
    simp (maxSteps := 1000000) (disch := (first | omega | (simp only [nx_alloc, nx_upd, len_cons, len_nil, List.length_set, List.length_map, List.length_append] <;> omega) | fail)) only [Nat.reduceAdd, Nat.reduceSub, Nat.reduceMul, Nat.reduceLT, Nat.reduceLeDiff, Nat.reduceEqDiff, ↓reduceIte, reduceCtorEq, Int.reduceAdd, Int.reduceSub, Int.reduceMul, Int.reduceLT, Int.reduceLE, Int.reduceEq, Int.reduceNe, Int.reduceToNat, Int.reduceNeg, go_sem, d0, hs2]
    rw [hp2]
    simp (maxSteps := 1000000) (disch := (first | omega | (simp only [nx_alloc, nx_upd, len_cons, len_nil, List.length_set, List.length_map, List.length_append] <;> omega) | fail)) only [Nat.reduceAdd, Nat.reduceSub, Nat.reduceMul, Nat.reduceLT, Nat.reduceLeDiff, Nat.reduceEqDiff, ↓reduceIte, reduceCtorEq, Int.reduceAdd, Int.reduceSub, Int.reduceMul, Int.reduceLT, Int.reduceLE, Int.reduceEq, Int.reduceNe, Int.reduceToNat, Int.reduceNeg, go_sem, c0, hst0, hu2, c2, c3, ldE, stE, htk, stErr, Try.results25]
    refine fin2 A5 u2 (errC 0) o5 ?_ (by rw [hd0]; exact errC_rep _ _)
    rw [hd0]
    simp only
    rw [List.eraseIdx_eq_take_drop_succ]
    have ha5 := ha.imp (fun _ _ h => h.ge (hide_over o5 ((A.next + 3) :: (A.next + 2) :: A.next :: L)))
    refine VRow.vs hr2 (All2.app (ha5.take j) (ha5.drop (j + 1))) (fun cs hc => ?_) hL2
    rcases List.mem_append.1 hc with hc | hc
    · exact hcl cs (List.mem_of_mem_take hc)
    · exact hcl cs (List.mem_of_mem_drop hc)
  by_cases k3 : o.kind = 3
  · have hd0 : doL l o = (l.drop (l.length - min o.id.toNat l.length), ⟨0, (l.take (l.length - min o.id.toNat l.length)).map (·.id), verN⟩) := by unfold doL; rw [if_neg k1, if_neg k2, if_pos k3]
    obtain ⟨m, hm⟩ : ∃ m, m = min o.id.toNat l.length := ⟨_, rfl⟩
    obtain ⟨N, hN⟩ : ∃ N, N = l.length - m := ⟨_, rfl⟩
    rw [← hm, ← hN] at hd0
    have hNl : N ≤ l.length := by omega
    obtain ⟨s1, hs1, hvs1, _⟩ := NV.pre (P := Try.prog) (e := 28) (ik := .i64) hvB'.1 hvB'.2.ok Try.sz28 (by decide) hNl
    obtain ⟨s2, hs2, hvs2⟩ := VsV.suf (P := Try.prog) (e := 28) (ik := .i64) hvB Try.sz28 hNl
    obtain ⟨iv, A2, hids, o2, hidr⟩ := rids_ok w0 B (l.take N) s1 hvs1 (by rw [List.length_take]; omega)
    have c0 : A2.get A.next = _ := (o2.get _ (by omega)).trans b0
    have c2 : A2.get (A.next + 2) = _ := (o2.get _ (by omega)).trans b2
    have c3 : A2.get (A.next + 3) = _ := (o2.get _ (by omega)).trans b3
    have hu2 : one1 s2 = true := by obtain ⟨_, _, rfl⟩ := hvs2.sl; rfl
    obtain ⟨ia, ic, rfl⟩ := View.sl0 (Row.view hidr)
    have stR3 := fun (X : St) => stR X [.int .i64 0, .slice ia ((l.take N).map (·.id)).length ic, .int .u32 0, .slice none 0 0, .slice none 0 0, .slice none 0 0] rfl rfl
    simp (maxSteps := 1000000) (disch := (first | omega | (simp only [nx_alloc, nx_upd, len_cons, len_nil, List.length_set, List.length_map, List.length_append] <;> omega) | fail)) only [Nat.reduceAdd, Nat.reduceSub, Nat.reduceMul, Nat.reduceLT, Nat.reduceLeDiff, Nat.reduceEqDiff, ↓reduceIte, reduceCtorEq, Int.reduceAdd, Int.reduceSub, Int.reduceMul, Int.reduceLT, Int.reduceLE, Int.reduceEq, Int.reduceNe, Int.reduceToNat, Int.reduceNeg, go_sem, b1, k1, k2, k3]
    refine aw_loop (fun k x A' => ∃ (ρ : Nat → Value) (i : Nat), x = E 126 ρ [] ∧ k = N - i ∧ i ≤ N ∧ A' = B ∧ ρ 2 = .pointer (some ⟨A.next, 0, none⟩) ∧ ρ 3 = .pointer (some ⟨A.next + 1, 0, none⟩) ∧ ρ 4 = .pointer (some ⟨A.next + 2, 0, none⟩) ∧ ρ 5 = .pointer (some ⟨A.next + 3, 0, none⟩) ∧ ρ 9 = .int .i64 i) N
      ⟨_, 0, rfl, rfl, Nat.zero_le _, rfl, rfl, rfl, rfl, rfl, rfl⟩ ?_
    rintro k x A' ⟨ρ, i, rfl, hk, hi, hA', r2, r3, r4, r5, r9⟩
    refine aw_of ?_
    rw [hA']
    have hsub : (l.length : Int) - (i : Int) = ((l.length - i : Nat) : Int) := by omega
    by_cases hend : i = N
    · have e1 : ¬ (((l.length - i : Nat) : Int) > o.id) := by omega
      rw [hend] at r9 e1 hsub
      simp (maxSteps := 1000000) (disch := (first | omega | (simp only [nx_alloc, nx_upd, len_cons, len_nil, List.length_set, List.length_map, List.length_append] <;> omega) | fail)) only [Nat.reduceAdd, Nat.reduceSub, Nat.reduceMul, Nat.reduceLT, Nat.reduceLeDiff, Nat.reduceEqDiff, ↓reduceIte, reduceCtorEq, Int.reduceAdd, Int.reduceSub, Int.reduceMul, Int.reduceLT, Int.reduceLE, Int.reduceEq, Int.reduceNe, Int.reduceToNat, Int.reduceNeg, go_sem, r2, r3, r4, r5, r9, b0, b1, hlen, hsub, e1, hs1]
      refine call1 hids ?_
      simp (maxSteps := 1000000) (disch := (first | omega | (simp only [nx_alloc, nx_upd, len_cons, len_nil, List.length_set, List.length_map, List.length_append] <;> omega) | fail)) only [Nat.reduceAdd, Nat.reduceSub, Nat.reduceMul, Nat.reduceLT, Nat.reduceLeDiff, Nat.reduceEqDiff, ↓reduceIte, reduceCtorEq, Int.reduceAdd, Int.reduceSub, Int.reduceMul, Int.reduceLT, Int.reduceLE, Int.reduceEq, Int.reduceNe, Int.reduceToNat, Int.reduceNeg, go_sem, r2, r3, r4, r5, r9, c0, hs2, hst0, hu2]
      simp (maxSteps := 1000000) (disch := (first | omega | (simp only [nx_alloc, nx_upd, len_cons, len_nil, List.length_set, List.length_map, List.length_append] <;> omega) | fail)) only [Nat.reduceAdd, Nat.reduceSub, Nat.reduceMul, Nat.reduceLT, Nat.reduceLeDiff, Nat.reduceEqDiff, ↓reduceIte, reduceCtorEq, Int.reduceAdd, Int.reduceSub, Int.reduceMul, Int.reduceLT, Int.reduceLE, Int.reduceEq, Int.reduceNe, Int.reduceToNat, Int.reduceNeg, go_sem, r2, r3, r4, r5, r9, c2, c3, ldE, stE, htk, stR3, Try.results25]
      refine fin2 A2 s2 _ o2 ?_ ?_
      · rw [hd0]; exact hvs2.ge (hide_over o2 _)
      · rw [hd0]; exact ⟨_, _, rfl, Row.viewH hidr hL2, verN_c _⟩
    have e1 : (((l.length - i : Nat) : Int) > o.id) := by omega
    simp (maxSteps := 1000000) (disch := (first | omega | (simp only [nx_alloc, nx_upd, len_cons, len_nil, List.length_set, List.length_map, List.length_append] <;> omega) | fail)) only [Nat.reduceAdd, Nat.reduceSub, Nat.reduceMul, Nat.reduceLT, Nat.reduceLeDiff, Nat.reduceEqDiff, ↓reduceIte, reduceCtorEq, Int.reduceAdd, Int.reduceSub, Int.reduceMul, Int.reduceLT, Int.reduceLE, Int.reduceEq, Int.reduceNe, Int.reduceToNat, Int.reduceNeg, go_sem, r2, r3, r4, r5, r9, b0, b1, hlen, hsub, e1]
    refine ⟨k - 1, by omega, _, i + 1, rfl, by omega, by omega, ?_, ?_, ?_, ?_, ?_⟩
    · simp (maxSteps := 1000000) (disch := (first | omega | (simp only [nx_alloc, nx_upd, len_cons, len_nil, List.length_set, List.length_map, List.length_append] <;> omega) | fail)) only [Nat.reduceAdd, Nat.reduceSub, Nat.reduceMul, Nat.reduceLT, Nat.reduceLeDiff, Nat.reduceEqDiff, ↓reduceIte, reduceCtorEq, Int.reduceAdd, Int.reduceSub, Int.reduceMul, Int.reduceLT, Int.reduceLE, Int.reduceEq, Int.reduceNe, Int.reduceToNat, Int.reduceNeg, go_sem, r2]
    · simp (maxSteps := 1000000) (disch := (first | omega | (simp only [nx_alloc, nx_upd, len_cons, len_nil, List.length_set, List.length_map, List.length_append] <;> omega) | fail)) only [Nat.reduceAdd, Nat.reduceSub, Nat.reduceMul, Nat.reduceLT, Nat.reduceLeDiff, Nat.reduceEqDiff, ↓reduceIte, reduceCtorEq, Int.reduceAdd, Int.reduceSub, Int.reduceMul, Int.reduceLT, Int.reduceLE, Int.reduceEq, Int.reduceNe, Int.reduceToNat, Int.reduceNeg, go_sem, r3]
    · simp (maxSteps := 1000000) (disch := (first | omega | (simp only [nx_alloc, nx_upd, len_cons, len_nil, List.length_set, List.length_map, List.length_append] <;> omega) | fail)) only [Nat.reduceAdd, Nat.reduceSub, Nat.reduceMul, Nat.reduceLT, Nat.reduceLeDiff, Nat.reduceEqDiff, ↓reduceIte, reduceCtorEq, Int.reduceAdd, Int.reduceSub, Int.reduceMul, Int.reduceLT, Int.reduceLE, Int.reduceEq, Int.reduceNe, Int.reduceToNat, Int.reduceNeg, go_sem, r4]
    · simp (maxSteps := 1000000) (disch := (first | omega | (simp only [nx_alloc, nx_upd, len_cons, len_nil, List.length_set, List.length_map, List.length_append] <;> omega) | fail)) only [Nat.reduceAdd, Nat.reduceSub, Nat.reduceMul, Nat.reduceLT, Nat.reduceLeDiff, Nat.reduceEqDiff, ↓reduceIte, reduceCtorEq, Int.reduceAdd, Int.reduceSub, Int.reduceMul, Int.reduceLT, Int.reduceLE, Int.reduceEq, Int.reduceNe, Int.reduceToNat, Int.reduceNeg, go_sem, r5]
    · simp (maxSteps := 1000000) (disch := (first | omega | (simp only [nx_alloc, nx_upd, len_cons, len_nil, List.length_set, List.length_map, List.length_append] <;> omega) | fail)) only [Nat.reduceAdd, Nat.reduceSub, Nat.reduceMul, Nat.reduceLT, Nat.reduceLeDiff, Nat.reduceEqDiff, ↓reduceIte, reduceCtorEq, Int.reduceAdd, Int.reduceSub, Int.reduceMul, Int.reduceLT, Int.reduceLE, Int.reduceEq, Int.reduceNe, Int.reduceToNat, Int.reduceNeg, go_sem]
      rfl
  by_cases k4 : o.kind = 4
  · have hd0 : doL l o = (l, ⟨0, l.map (·.id), verN⟩) := by unfold doL; rw [if_neg k1, if_neg k2, if_neg k3, if_pos k4]
    obtain ⟨iv, A2, hids, o2, hidr⟩ := rids_ok w0 B l v hvB'.1 (by omega)
    have c0 : A2.get A.next = _ := (o2.get _ (by omega)).trans b0
    have c2 : A2.get (A.next + 2) = _ := (o2.get _ (by omega)).trans b2
    have c3 : A2.get (A.next + 3) = _ := (o2.get _ (by omega)).trans b3
    obtain ⟨ia, ic, rfl⟩ := View.sl0 (Row.view hidr)
    have stR3 := fun (X : St) => stR X [.int .i64 0, .slice ia (l.map (·.id)).length ic, .int .u32 0, .slice none 0 0, .slice none 0 0, .slice none 0 0] rfl rfl
    simp (maxSteps := 1000000) (disch := (first | omega | (simp only [nx_alloc, nx_upd, len_cons, len_nil, List.length_set, List.length_map, List.length_append] <;> omega) | fail)) only [Nat.reduceAdd, Nat.reduceSub, Nat.reduceMul, Nat.reduceLT, Nat.reduceLeDiff, Nat.reduceEqDiff, ↓reduceIte, reduceCtorEq, Int.reduceAdd, Int.reduceSub, Int.reduceMul, Int.reduceLT, Int.reduceLE, Int.reduceEq, Int.reduceNe, Int.reduceToNat, Int.reduceNeg, go_sem, b1, k1, k2, k3, k4]
    refine aw_draw2 [⟨false, [], [0, 1]⟩, ⟨false, [], [0]⟩, ⟨false, [1], [0]⟩, ⟨true, [1, 2], [0]⟩, ⟨false, [1, 2, 3], [1, 2]⟩, ⟨true, [0, 1, 2, 3], [1]⟩, ⟨true, [0, 1, 2, 3, 4, 5], [2]⟩] [B, A2, A2.upd (A.next + 2) (some (.cells (v :: tl) 50 (some 0))), (A2.upd (A.next + 2) (some (.cells (v :: tl) 50 (some 0)))).upd (A.next + 3) (some (.cells [.int .i64 0, .slice ia (l.map (·.id)).length ic, .int .u32 0, .slice none 0 0, .slice none 0 0, .slice none 0 0] 40 (some 0)))] 3 (by kernel_rfl) (by kernel_rfl) rfl ?_
    simp (maxSteps := 1000000) (disch := (first | omega | (simp only [nx_alloc, nx_upd, len_cons, len_nil, List.length_set, List.length_map, List.length_append] <;> omega) | fail)) only [Nat.reduceAdd, Nat.reduceSub, Nat.reduceMul, Nat.reduceLT, Nat.reduceLeDiff, Nat.reduceEqDiff, ↓reduceIte, reduceCtorEq, Int.reduceAdd, Int.reduceSub, Int.reduceMul, Int.reduceLT, Int.reduceLE, Int.reduceEq, Int.reduceNe, Int.reduceToNat, Int.reduceNeg, go_sem, b0, c0, htk, ldE]
    refine ⟨_, hids, ?_⟩
    simp (maxSteps := 1000000) (disch := (first | omega | (simp only [nx_alloc, nx_upd, len_cons, len_nil, List.length_set, List.length_map, List.length_append] <;> omega) | fail)) only [Nat.reduceAdd, Nat.reduceSub, Nat.reduceMul, Nat.reduceLT, Nat.reduceLeDiff, Nat.reduceEqDiff, ↓reduceIte, reduceCtorEq, Int.reduceAdd, Int.reduceSub, Int.reduceMul, Int.reduceLT, Int.reduceLE, Int.reduceEq, Int.reduceNe, Int.reduceToNat, Int.reduceNeg, go_sem, c0, c2, c3, ldE, stE, hv1, htk, stR3, Try.results25]
    refine fin1 A2 v _ (oB.trans o2) ?_ ?_ (by have := o2.next; omega)
    · rw [hd0]; exact hvB.ge (hide_over o2 _)
    · rw [hd0]; exact ⟨_, _, rfl, Row.viewH hidr hL2, verN_c _⟩
  by_cases k5 : o.kind = 5
  · have hd0 : doL l o = if placeL l o.id < 0 then (l, errR 3) else (l, ⟨0, [], l.getD (placeL l o.id).toNat verN⟩) := by unfold doL; rw [if_neg k1, if_neg k2, if_neg k3, if_neg k4, if_pos k5]
    by_cases hin : placeL l o.id < 0
    · have hd : doL l o = (l, errR 3) := by rw [hd0, if_pos hin]
      simp (maxSteps := 1000000) (disch := (first | omega | (simp only [nx_alloc, nx_upd, len_cons, len_nil, List.length_set, List.length_map, List.length_append] <;> omega) | fail)) only [Nat.reduceAdd, Nat.reduceSub, Nat.reduceMul, Nat.reduceLT, Nat.reduceLeDiff, Nat.reduceEqDiff, ↓reduceIte, reduceCtorEq, Int.reduceAdd, Int.reduceSub, Int.reduceMul, Int.reduceLT, Int.reduceLE, Int.reduceEq, Int.reduceNe, Int.reduceToNat, Int.reduceNeg, go_sem, b1, k1, k2, k3, k4, k5, hin]
      refine aw_draw2 [⟨false, [], [0]⟩, ⟨false, [], [0]⟩, ⟨true, [0, 1], [0]⟩, ⟨true, [0, 1, 2], [1]⟩] [B, B.upd (A.next + 2) (some (.cells (v :: tl) 50 (some 0))), (B.upd (A.next + 2) (some (.cells (v :: tl) 50 (some 0)))).upd (A.next + 3) (some (.cells (errC 3) 40 (some 0)))] 2 (by kernel_rfl) (by kernel_rfl) rfl ?_
      unfold errC
      simp (maxSteps := 1000000) (disch := (first | omega | (simp only [nx_alloc, nx_upd, len_cons, len_nil, List.length_set, List.length_map, List.length_append] <;> omega) | fail)) only [Nat.reduceAdd, Nat.reduceSub, Nat.reduceMul, Nat.reduceLT, Nat.reduceLeDiff, Nat.reduceEqDiff, ↓reduceIte, reduceCtorEq, Int.reduceAdd, Int.reduceSub, Int.reduceMul, Int.reduceLT, Int.reduceLE, Int.reduceEq, Int.reduceNe, Int.reduceToNat, Int.reduceNeg, go_sem, b0, b2, b3, htk, ldE, stE, hv1]
      refine ⟨_, hwr B 3, ?_⟩
      simp (maxSteps := 1000000) (disch := (first | omega | (simp only [nx_alloc, nx_upd, len_cons, len_nil, List.length_set, List.length_map, List.length_append] <;> omega) | fail)) only [Nat.reduceAdd, Nat.reduceSub, Nat.reduceMul, Nat.reduceLT, Nat.reduceLeDiff, Nat.reduceEqDiff, ↓reduceIte, reduceCtorEq, Int.reduceAdd, Int.reduceSub, Int.reduceMul, Int.reduceLT, Int.reduceLE, Int.reduceEq, Int.reduceNe, Int.reduceToNat, Int.reduceNeg, go_sem, b2, b3, htk, stE, hv1, stErr, Try.results25]
      exact fin1 B v (errC 3) oB (by rw [hd]; exact hvB) (by rw [hd]; exact errC_rep _ _) (by omega)
    rw [if_neg hin] at hd0
    obtain ⟨j, hj⟩ := Int.eq_ofNat_of_zero_le (show 0 ≤ placeL l o.id by omega)
    rw [hj, Int.toNat_natCast] at hd0
    have hjl : j < l.length := placeL_ltN hj
    have hin2 : ¬ ((j : Int) < 0) := by omega
    obtain ⟨V, hV⟩ : ∃ V, l[j]? = some V := ⟨l[j], List.getElem?_eq_getElem hjl⟩
    have hgd : l.getD j verN = V := by rw [List.getD_eq_getElem?_getD, hV]; rfl
    rw [hgd] at hd0
    obtain ⟨b, off, cs, q1, q2, q3, q4, cells, e', mm, q5, q6, q7⟩ := hvB.1.at (P := Try.prog) (e := 28) Try.sz28 hV
    have hqb := (hide_ge B _).get b _ q1 q5
    rw [hide_next] at q1
    have hbL : b ∉ (A.next + 3) :: (A.next + 2) :: A.next :: L := fun hm => by rw [hide_get, if_pos hm] at q5; cases q5
    have hqc : (B.upd (A.next + 2) (some (.cells (v :: tl) 50 (some 0)))).get b = some (.cells cells e' mm) := by
      simp only [List.mem_cons, not_or] at hbL
      rw [St.get_upd, if_neg hbL.2.1]; exact hqb
    have hld := ld_agg (e' := e') (m := mm) q6 q7
    have hset := set_all [.int .u32 0, .slice none 0 0, .slice none 0 0, .slice none 0 0] cs (by rw [q4]; rfl)
    have hcs4 : cs.take 4 = cs := List.take_of_length_le (by omega)
    have hset6 := setList_app cs [.int .i64 0, .slice none 0 0] [.int .u32 0, .slice none 0 0, .slice none 0 0, .slice none 0 0] 0
    rw [hset] at hset6
    have hset6' : setList [.int .i64 0, .slice none 0 0, .int .u32 0, .slice none 0 0, .slice none 0 0, .slice none 0 0] 2 cs = .int .i64 0 :: .slice none 0 0 :: cs := hset6
    have stR5 := fun (X : St) => stR X (.int .i64 0 :: .slice none 0 0 :: cs) (by simp; exact q4) (by simp only [List.all_cons, q3.cell]; rfl)
    simp (maxSteps := 1000000) (disch := (first | omega | (simp only [nx_alloc, nx_upd, len_cons, len_nil, List.length_set, List.length_map, List.length_append] <;> omega) | fail)) only [Nat.reduceAdd, Nat.reduceSub, Nat.reduceMul, Nat.reduceLT, Nat.reduceLeDiff, Nat.reduceEqDiff, ↓reduceIte, reduceCtorEq, Int.reduceAdd, Int.reduceSub, Int.reduceMul, Int.reduceLT, Int.reduceLE, Int.reduceEq, Int.reduceNe, Int.reduceToNat, Int.reduceNeg, go_sem, b1, k1, k2, k3, k4, k5, hj, hin2]
    refine aw_draw2 [⟨false, [], [0]⟩, ⟨false, [], [0, 1]⟩, ⟨false, [1], [0, 1]⟩, ⟨false, [], [0, 1]⟩, ⟨false, [1, 2, 3], [0, 1]⟩, ⟨false, [1, 2, 3, 4], [0, 1]⟩, ⟨false, [1, 2, 3, 4, 5], [0, 1]⟩, ⟨true, [0], [0]⟩, ⟨true, [0, 1, 2, 3, 4, 5, 6, 7], [1]⟩] [B, B.upd (A.next + 2) (some (.cells (v :: tl) 50 (some 0))), (B.upd (A.next + 2) (some (.cells (v :: tl) 50 (some 0)))).upd (A.next + 3) (some (.cells (.int .i64 0 :: .slice none 0 0 :: cs) 40 (some 0)))] 2 (by kernel_rfl) (by kernel_rfl) rfl ?_
    simp (maxSteps := 1000000) (disch := (first | omega | (simp only [nx_alloc, nx_upd, len_cons, len_nil, List.length_set, List.length_map, List.length_append] <;> omega) | fail)) only [Nat.reduceAdd, Nat.reduceSub, Nat.reduceMul, Nat.reduceLT, Nat.reduceLeDiff, Nat.reduceEqDiff, ↓reduceIte, reduceCtorEq, Int.reduceAdd, Int.reduceSub, Int.reduceMul, Int.reduceLT, Int.reduceLE, Int.reduceEq, Int.reduceNe, Int.reduceToNat, Int.reduceNeg, go_sem, b0, b2, b3, htk, ldE, stE, hv1, q2, hqb, hqc, hld, q4, hset6', stR5, hcs4, Try.results25]
    refine fin1 B v _ oB ?_ ?_ (by omega)
    · rw [hd0]; exact hvB
    · rw [hd0]; exact ⟨_, cs, rfl, View.nil .., q3⟩
  have hd : doL l o = (l, errR 180) := by unfold doL; rw [if_neg k1, if_neg k2, if_neg k3, if_neg k4, if_neg k5]
  simp (maxSteps := 1000000) (disch := (first | omega | (simp only [nx_alloc, nx_upd, len_cons, len_nil, List.length_set, List.length_map, List.length_append] <;> omega) | fail)) only [Nat.reduceAdd, Nat.reduceSub, Nat.reduceMul, Nat.reduceLT, Nat.reduceLeDiff, Nat.reduceEqDiff, ↓reduceIte, reduceCtorEq, Int.reduceAdd, Int.reduceSub, Int.reduceMul, Int.reduceLT, Int.reduceLE, Int.reduceEq, Int.reduceNe, Int.reduceToNat, Int.reduceNeg, go_sem, b1, k1, k2, k3, k4, k5]
  refine aw_draw2 [⟨false, [], [0]⟩, ⟨false, [], [0]⟩, ⟨true, [0, 1], [0]⟩, ⟨true, [0, 1, 2], [1]⟩] [B, B.upd (A.next + 2) (some (.cells (v :: tl) 50 (some 0))), (B.upd (A.next + 2) (some (.cells (v :: tl) 50 (some 0)))).upd (A.next + 3) (some (.cells (errC 180) 40 (some 0)))] 2 (by kernel_rfl) (by kernel_rfl) rfl ?_
  unfold errC
  simp (maxSteps := 1000000) (disch := (first | omega | (simp only [nx_alloc, nx_upd, len_cons, len_nil, List.length_set, List.length_map, List.length_append] <;> omega) | fail)) only [Nat.reduceAdd, Nat.reduceSub, Nat.reduceMul, Nat.reduceLT, Nat.reduceLeDiff, Nat.reduceEqDiff, ↓reduceIte, reduceCtorEq, Int.reduceAdd, Int.reduceSub, Int.reduceMul, Int.reduceLT, Int.reduceLE, Int.reduceEq, Int.reduceNe, Int.reduceToNat, Int.reduceNeg, go_sem, b0, b2, b3, htk, ldE, stE, hv1]
  refine ⟨_, hwr B 180, ?_⟩
  simp (maxSteps := 1000000) (disch := (first | omega | (simp only [nx_alloc, nx_upd, len_cons, len_nil, List.length_set, List.length_map, List.length_append] <;> omega) | fail)) only [Nat.reduceAdd, Nat.reduceSub, Nat.reduceMul, Nat.reduceLT, Nat.reduceLeDiff, Nat.reduceEqDiff, ↓reduceIte, reduceCtorEq, Int.reduceAdd, Int.reduceSub, Int.reduceMul, Int.reduceLT, Int.reduceLE, Int.reduceEq, Int.reduceNe, Int.reduceToNat, Int.reduceNeg, go_sem, b2, b3, htk, stE, hv1, stErr, Try.results25]
  exact fin1 B v (errC 180) oB (by rw [hd]; exact hvB) (by rw [hd]; exact errC_rep _ _) (by omega)
end Go.Fw
