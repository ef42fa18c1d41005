import Derived.Test.YtpjacnialnlilaaFwPre9
set_option linter.unusedSimpArgs false
set_option linter.unusedVariables false
set_option maxRecDepth 4000
namespace Go.Fw
open Go.Proofs Go.RowKit
/-! grown: what it answers. -/
theorem Try.enters26 : Enters Try.prog 26 := enters_of Try.func26 rfl (by kernel_rfl)
theorem leafs_mem : ∀ {f : List Int} {i : Nat} {t : HT}, t ∈ leafs f i → ∃ x j, t = .leaf x j ∧ 0 < x ∧ x ∈ f ∧ i ≤ j ∧ j < i + f.length
  | x :: f, i, t, h => by
    unfold leafs at h
    split at h
    · rename_i hx
      rcases List.mem_cons.1 h with rfl | h
      · exact ⟨x, i, rfl, hx, List.mem_cons_self .., Nat.le_refl _, by simp⟩
      · obtain ⟨y, j, rfl, h1, h2, h3, h4⟩ := leafs_mem h
        exact ⟨y, j, rfl, h1, List.mem_cons_of_mem _ h2, by omega, by rw [List.length_cons]; omega⟩
    · obtain ⟨y, j, rfl, h1, h2, h3, h4⟩ := leafs_mem h
      exact ⟨y, j, rfl, h1, List.mem_cons_of_mem _ h2, by omega, by rw [List.length_cons]; omega⟩
theorem sumG_le (g : HT → Int) (M : Int) : ∀ {l : List HT}, (∀ t ∈ l, g t ≤ M) → sumG g l ≤ M * (l.length : Nat)
  | [], _ => by rw [sumG_nil]; simp
  | t :: l, h => by
    have h1 := h t (List.mem_cons_self ..)
    have h2 := sumG_le g M fun q hq => h q (List.mem_cons_of_mem _ hq)
    rw [sumG_cons, List.length_cons, Int.natCast_add, Int.mul_add]
    omega
theorem sumG_srtK (g : HT → Int) (k : HT → Int) (l : List HT) : sumG g (srtK k l) = sumG g l := by
  have ins : ∀ (s : List HT) (x : HT), sumG g (insK k s x) = g x + sumG g s := by
    intro s
    induction s with
    | nil => intro x; rfl
    | cons y s ih =>
      intro x
      rw [insK]
      split
      · rw [sumG_cons, ih, sumG_cons]; omega
      · rfl
  have : ∀ (l s : List HT), sumG g (l.foldl (insK k) s) = sumG g l + sumG g s := by
    intro l
    induction l with
    | nil => intro s; rw [List.foldl_nil, sumG_nil]; omega
    | cons y l ih => intro s; rw [List.foldl_cons, ih, ins, sumG_cons]; omega
  have := this l []
  rw [sumG_nil] at this
  unfold srtK
  omega
/-- What is kept of the numbers. -/
structure QOk (n : Nat) (L P : List HT) : Prop where
  nn : ∀ t, t ∈ L ∨ t ∈ P → 0 ≤ t.wt ∧ ∀ s ∈ t.syms, s < n
  wt : sumG HT.wt L + sumG HT.wt P ≤ 1099511627776
  cnt : sumG HT.cnt L + sumG HT.cnt P ≤ 1000
theorem cnt_pos (t : HT) : 1 ≤ t.cnt := by have := ht_cnt t; omega
theorem len_cnt (l : List HT) : (l.length : Int) ≤ sumG HT.cnt l := by
  induction l with
  | nil => exact Int.le_refl _
  | cons t l ih => have := cnt_pos t; rw [sumG_cons, List.length_cons]; omega
theorem QOk.len {n : Nat} {L P : List HT} (h : QOk n L P) : L.length + P.length ≤ 1000 := by
  have := len_cnt L
  have := len_cnt P
  have := h.cnt
  omega
theorem QOk.pop {n : Nat} {L P L' P' : List HT} {t : HT} (h : QOk n L P) (hp : popL L P = some (t, L', P')) : QOk n L' P' ∧ 0 ≤ t.wt ∧ (∀ s ∈ t.syms, s < n) ∧ t.wt + (sumG HT.wt L' + sumG HT.wt P') ≤ 1099511627776 ∧ t.cnt + (sumG HT.cnt L' + sumG HT.cnt P') ≤ 1000 := by
  have e1 := sumG_pop HT.wt hp
  have e2 := sumG_pop HT.cnt hp
  obtain ⟨a1, a2, a3, _⟩ := popL_part hp
  have ht := h.nn t a3
  have hc := cnt_pos t
  have := h.wt
  have := h.cnt
  refine ⟨⟨fun q hq => h.nn q (hq.imp (a1 q) (a2 q)), by omega, by omega⟩, ht.1, ht.2, by omega, by omega⟩
theorem QOk.push {n : Nat} {L P : List HT} {a b : HT} (h : QOk n L P) (ha : 0 ≤ a.wt ∧ ∀ s ∈ a.syms, s < n) (hb : 0 ≤ b.wt ∧ ∀ s ∈ b.syms, s < n) (hw : a.wt + (b.wt + (sumG HT.wt L + sumG HT.wt P)) ≤ 1099511627776) (hc : a.cnt + (b.cnt + (sumG HT.cnt L + sumG HT.cnt P)) ≤ 1000) : QOk n L (P ++ [.br (a.wt + b.wt) a b]) := by
  refine ⟨fun t ht => ?_, ?_, ?_⟩
  · rcases ht with ht | ht
    · exact h.nn t (.inl ht)
    · rcases List.mem_append.1 ht with ht | ht
      · exact h.nn t (.inr ht)
      · rw [List.mem_singleton.1 ht]
        refine ⟨by show 0 ≤ a.wt + b.wt; omega, fun s hs => ?_⟩
        rcases List.mem_append.1 hs with hs | hs
        · exact ha.2 s hs
        · exact hb.2 s hs
  · rw [sumG_app, sumG_cons, sumG_nil]; show _ + (_ + (a.wt + b.wt + 0)) ≤ _; omega
  · have hcc : (HT.br (a.wt + b.wt) a b).cnt = a.cnt + b.cnt := by unfold HT.cnt; rw [HT.syms, List.length_append]; omega
    rw [sumG_app, sumG_cons, sumG_nil, hcc]; omega
theorem QOk.init {f : List Int} (hf : ∀ x ∈ f, x ≤ 1048576) (hn : f.length ≤ 1000) : QOk f.length (srtK HT.wt (leafs f 0)) [] := by
  have hl := leafs_len f 0
  have hm : ∀ t ∈ leafs f 0, t.wt ≤ 1048576 := fun t ht => by
    obtain ⟨x, j, rfl, _, h2, _⟩ := leafs_mem ht; exact hf x h2
  have hc : ∀ t ∈ leafs f 0, t.cnt ≤ 1 := fun t ht => by
    obtain ⟨x, j, rfl, _⟩ := leafs_mem ht; exact Int.le_refl _
  have h1 := sumG_le HT.wt 1048576 hm
  have h2 := sumG_le HT.cnt 1 hc
  refine ⟨fun t ht => ?_, by rw [sumG_srtK, sumG_nil]; omega, by rw [sumG_srtK, sumG_nil]; omega⟩
  rcases ht with ht | ht
  · obtain ⟨x, j, rfl, h1, _, _, h4⟩ := leafs_mem (((srtK_same (k := HT.wt) (leafs f 0)).mem t).2 ht)
    exact ⟨by show 0 ≤ x; omega, fun s hs => by rw [List.mem_singleton.1 hs]; omega⟩
  · cases ht
theorem HInv.init (f : List Int) : HInv (srtK HT.wt (leafs f 0)) [] := by
  refine ⟨srtK_srtd _, .nil, 0, 0, Int.le_refl _, Int.le_refl _, fun p hp => by (cases hp), fun q hq => ?_, fun q hq => by cases hq⟩
  obtain ⟨x, j, rfl, h1, _⟩ := leafs_mem (((srtK_same (k := HT.wt) (leafs f 0)).mem q).2 hq)
  show 0 ≤ x
  omega
theorem View.lenX {A : St} {sz e : Nat} {cs : List Value} {len : Nat} {v : Value} (h : View A sz cs len v) (X : St) : Go.Fw.lenU X (some (.slice e)) v = some (.int .i64 len, X) := by
  rcases h.2 with ⟨rfl, _, _, rfl⟩ | ⟨b, off, sp, c, cells, e, m, rfl, h1, h2, h3⟩ <;> rfl
def RowPost (A : St) (l : List Int) (e : Ending) (A' : St) : Prop := ∃ v, e = .returned v ∧ Over A A' ∧ InRow A' A.next l v
theorem deepAll_snoc (l : List HT) (t : HT) (ls : List Int) : deepAll (l ++ [t]) ls = deepL t 0 (deepAll l ls) := by unfold deepAll; rw [List.foldl_append]; rfl
set_option maxHeartbeats 8000000 in
theorem grown_ok (w0 : World) (A : St) (f : List Int) (v : Value) (hv : InView A f v) (hf : ∀ x ∈ f, 0 ≤ x ∧ x ≤ 1048576) (hn : f.length ≤ 1000) :
    ACalls Try.prog w0 26 #[v] A (RowPost A (grownP f)) := by
  refine call_E (l := [v]) Try.enters26 Try.func26 rfl (Nat.le_of_ble_eq_true rfl) fun hw hbd => ?_
  have hlen : ∀ X, lenU X (some (.slice 3)) v = some (.int .i64 f.length, X) := View.lenX hv
  have hms := makeSlice_ints (P := Try.prog) (A := A) (t := 22) (k := .i64) (k' := .i64) (n := f.length) Try.el22 Try.sz3 Try.byt3 Try.zero3 (by decide) (by omega)
  simp (maxSteps := 1000000) (disch := (first | omega | (simp only [nx_alloc, nx_upd, len_cons, len_nil, List.length_set, List.length_map, List.length_append] <;> omega) | fail)) only [go_sem, Try.ntmps26, Try.results26, hlen, hms]
  have hvx : ∀ A' : St, A.next ≤ A'.next → (∀ b, b < A.next → A'.get b = A.get b) → InView A' f v := fun A' h1 h2 => View.over hv ⟨h1, h2⟩
  have g0 : GInv A f.length (((A.alloc (.cells (List.replicate f.length (.int .i64 0)) 3 (some 0))).alloc (.cells [.slice none 0 0] 79 (some 0))).alloc (.cells [.slice none 0 0] 79 (some 0))) [] [] (.slice none 0 0) (.slice none 0 0) :=
    ⟨by simp only [nx_alloc]; omega, fun b hb => by rw [get_alloc_old (by simp only [nx_alloc]; omega), get_alloc_old (by simp only [nx_alloc]; omega), get_alloc_old hb], by rw [get_alloc_old (by simp only [nx_alloc]; omega), get_alloc_old (by simp only [nx_alloc]; omega), get_alloc_same]; unfold intB; rw [List.map_replicate], by rw [get_alloc_old (by simp only [nx_alloc]; omega)]; exact get_alloc_same .., get_alloc_same .., .nil .., .nil .., fun b hb => by cases hb⟩
  generalize ((A.alloc (.cells (List.replicate f.length (.int .i64 0)) 3 (some 0))).alloc (.cells [.slice none 0 0] 79 (some 0))).alloc (.cells [.slice none 0 0] 79 (some 0)) = A0 at g0 ⊢
  refine aw_loop (fun m x A' => ∃ (ρ : Nat → Value) (i : Nat) (lv : Value), x = E 75 ρ [] ∧ m = f.length - i ∧ i ≤ f.length ∧ GInv A f.length A' (leafs (f.take i) 0) [] lv (.slice none 0 0) ∧ offZ lv ∧ ρ 3 = .slice (some ⟨A.next, 0, none⟩) f.length f.length ∧ ρ 4 = .pointer (some ⟨A.next + 1, 0, none⟩) ∧ ρ 5 = .pointer (some ⟨A.next + 2, 0, none⟩) ∧
      ρ 16 = v ∧ ρ 17 = .int .i64 f.length ∧ ρ 18 = .int .i64 i) f.length
    ⟨_, 0, .slice none 0 0, rfl, rfl, Nat.zero_le _, by exact g0, True.intro, rfl, rfl, rfl, rfl, rfl, rfl⟩ ?_
  clear g0
  rintro m x A' ⟨ρ, i, lv, rfl, hm, hi, g, hz, r3, r4, r5, r16, r17, r18⟩
  refine aw_of ?_
  have hlf := leafs_len (f.take i) 0
  have htk : (f.take i).length ≤ i := List.length_take_le ..
  by_cases hend : i = f.length
  rotate_left
  · have e1 : (i : Int) < (f.length : Int) := by omega
    obtain ⟨n, hx⟩ : ∃ x, f[i]? = some x := ⟨_, List.getElem?_eq_getElem (by omega)⟩
    obtain ⟨pb, po, hb1, hb2, hb3, cells, e', md, hb4, hb5⟩ := View.at1 (P := Try.prog) (e := 3) (hvx A' (by have := g.nx; omega) g.ov) Try.sz3 (i64E_at _ i n hx)
    have htl : (f.take i).length = i := List.length_take_of_le hi
    have hlx : leafs (f.take (i + 1)) 0 = if 0 < n then leafs (f.take i) 0 ++ [.leaf n i] else leafs (f.take i) 0 := by
      rw [List.take_add_one, hx]; show leafs (f.take i ++ [n]) 0 = _
      rw [leafs_app, htl, Nat.zero_add]
    simp (maxSteps := 1000000) (disch := (first | omega | (simp only [nx_alloc, nx_upd, len_cons, len_nil, List.length_set, List.length_map, List.length_append] <;> omega) | fail)) only [go_sem, r16, r17, r18, hb3, hb4, hb5]
    by_cases h0 : n > 0
    · rw [if_pos h0] at hlx
      have gn := g.node (.cells [.int .i64 n, .int .i64 i, .pointer none, .pointer none] 82 (some 0))
      have ht : TrA (A'.alloc (.cells [.int .i64 n, .int .i64 i, .pointer none, .pointer none] 82 (some 0))) (.leaf n i) (.pointer (some ⟨A'.next, 0, none⟩)) := ⟨A'.next, rfl, by rw [nx_alloc]; omega, get_alloc_same ..⟩
      obtain ⟨v', A2, k1, k2, k3, k4, k5, k6⟩ := gn.leaf ht (by omega)
      rw [nx_alloc] at k1
      simp (maxSteps := 1000000) (disch := (first | omega | (simp only [nx_alloc, nx_upd, len_cons, len_nil, List.length_set, List.length_map, List.length_append] <;> omega) | fail)) only [go_sem, r4, r18, h0, g.g1, k1, k2, storeC_val (off := 0) (k := 0) (cs := [lv]) (e := 79) k3 (Nat.le_refl _) (Nat.le_refl _)]
      refine ⟨m - 1, by omega, _, i + 1, v', rfl, by omega, by omega, by rw [hlx]; exact k5, k4, ?_, ?_, ?_, ?_, ?_, ?_⟩
      · simp (maxSteps := 1000000) (disch := (first | omega | (simp only [nx_alloc, nx_upd, len_cons, len_nil, List.length_set, List.length_map, List.length_append] <;> omega) | fail)) only [go_sem, r3]
      · simp (maxSteps := 1000000) (disch := (first | omega | (simp only [nx_alloc, nx_upd, len_cons, len_nil, List.length_set, List.length_map, List.length_append] <;> omega) | fail)) only [go_sem, r4]
      · simp (maxSteps := 1000000) (disch := (first | omega | (simp only [nx_alloc, nx_upd, len_cons, len_nil, List.length_set, List.length_map, List.length_append] <;> omega) | fail)) only [go_sem, r5]
      · simp (maxSteps := 1000000) (disch := (first | omega | (simp only [nx_alloc, nx_upd, len_cons, len_nil, List.length_set, List.length_map, List.length_append] <;> omega) | fail)) only [go_sem, r16]
      · simp (maxSteps := 1000000) (disch := (first | omega | (simp only [nx_alloc, nx_upd, len_cons, len_nil, List.length_set, List.length_map, List.length_append] <;> omega) | fail)) only [go_sem, r17]
      · simp (maxSteps := 1000000) (disch := (first | omega | (simp only [nx_alloc, nx_upd, len_cons, len_nil, List.length_set, List.length_map, List.length_append] <;> omega) | fail)) only [go_sem]
        rfl
    · rw [if_neg h0] at hlx
      simp (maxSteps := 1000000) (disch := (first | omega | (simp only [nx_alloc, nx_upd, len_cons, len_nil, List.length_set, List.length_map, List.length_append] <;> omega) | fail)) only [go_sem, h0, r18]
      refine ⟨m - 1, by omega, _, i + 1, lv, rfl, by omega, by omega, by rw [hlx]; exact g, hz, ?_, ?_, ?_, ?_, ?_, ?_⟩
      · simp (maxSteps := 1000000) (disch := (first | omega | (simp only [nx_alloc, nx_upd, len_cons, len_nil, List.length_set, List.length_map, List.length_append] <;> omega) | fail)) only [go_sem, r3]
      · simp (maxSteps := 1000000) (disch := (first | omega | (simp only [nx_alloc, nx_upd, len_cons, len_nil, List.length_set, List.length_map, List.length_append] <;> omega) | fail)) only [go_sem, r4]
      · simp (maxSteps := 1000000) (disch := (first | omega | (simp only [nx_alloc, nx_upd, len_cons, len_nil, List.length_set, List.length_map, List.length_append] <;> omega) | fail)) only [go_sem, r5]
      · simp (maxSteps := 1000000) (disch := (first | omega | (simp only [nx_alloc, nx_upd, len_cons, len_nil, List.length_set, List.length_map, List.length_append] <;> omega) | fail)) only [go_sem, r16]
      · simp (maxSteps := 1000000) (disch := (first | omega | (simp only [nx_alloc, nx_upd, len_cons, len_nil, List.length_set, List.length_map, List.length_append] <;> omega) | fail)) only [go_sem, r17]
      · simp (maxSteps := 1000000) (disch := (first | omega | (simp only [nx_alloc, nx_upd, len_cons, len_nil, List.length_set, List.length_map, List.length_append] <;> omega) | fail)) only [go_sem]
        rfl
  have e1 : ¬ ((i : Int) < (f.length : Int)) := by omega
  rw [hend, List.take_length] at g
  rw [hend, List.take_length] at hlf
  obtain ⟨A1, hc1, g1⟩ := g.sort w0 hz (by omega) (fun t ht => by
    obtain ⟨x, j, rfl, h1, h2, _⟩ := leafs_mem ht
    have := hf x h2
    exact ⟨this.1, by show x ≤ _; omega⟩)
  simp (maxSteps := 1000000) (disch := (first | omega | (simp only [nx_alloc, nx_upd, len_cons, len_nil, List.length_set, List.length_map, List.length_append] <;> omega) | fail)) only [go_sem, r4, r5, r17, r18, e1, g.g1]
  refine call1 hc1 ?_
  simp (maxSteps := 1000000) (disch := (first | omega | (simp only [nx_alloc, nx_upd, len_cons, len_nil, List.length_set, List.length_map, List.length_append] <;> omega) | fail)) only [go_sem, r4, r5]
  have hq1 := QOk.init (fun x hx => (hf x hx).2) hn
  have hi1 := HInv.init f
  refine aw_loop (fun m x A' => ∃ (ρ : Nat → Value) (L P : List HT) (lv pv : Value), x = E 75 ρ [] ∧ m = L.length + P.length ∧ L.length + P.length ≤ f.length ∧ GInv A f.length A' L P lv pv ∧ HInv L P ∧ QOk f.length L P ∧ (∀ k, L.length + P.length ≤ k + 1 → huff k (mrg L P) = hufP f) ∧ ρ 3 = .slice (some ⟨A.next, 0, none⟩) f.length f.length ∧ ρ 4 = .pointer (some ⟨A.next + 1, 0, none⟩) ∧ ρ 5 = .pointer (some ⟨A.next + 2, 0, none⟩) ∧
      ρ 8 = .func (.func 41) #[] #[.pointer (some ⟨A.next + 2, 0, none⟩), .pointer (some ⟨A.next + 1, 0, none⟩)]) (srtK HT.wt (leafs f 0)).length
    ⟨_, _, [], _, _, rfl, by simp, by rw [srtK_len]; simpa using hlf, g1, hi1, hq1, fun k hk => ?_, by first | rfl | exact r3, by first | rfl | exact r4, by first | rfl | exact r5, by first | rfl | simp only [r4, r5]⟩ ?_
  · rw [mrg_nil2]
    unfold hufP
    rw [List.length_nil, Nat.add_zero] at hk
    rcases Nat.le_total k f.length with h | h
    · exact (huff_fuel k _ hk _ h).symm
    · exact huff_fuel f.length _ (by rw [srtK_len]; omega) _ h
  clear r3 r4 r5 r16 r17 r18 g1 hi1 hq1 hc1 g
  rintro m x A' ⟨ρ, L, P, lv, pv, rfl, hm, hml, g, hinv, hq, hhf, r3, r4, r5, r8⟩
  refine aw_of ?_
  have hql := hq.len
  have ll := g.ql.lenU
  have lp := g.qp.lenU
  have hcast : ((L.length : Nat) : Int) + ((P.length : Nat) : Int) = ((L.length + P.length : Nat) : Int) := by omega
  by_cases hgt : 1 < L.length + P.length
  · have hgt' : ((L.length + P.length : Nat) : Int) > 1 := by omega
    obtain ⟨a, L1, P1, p1, n1⟩ := popL_some (L := L) (P := P) (by omega)
    obtain ⟨b, L2, P2, p2, n2⟩ := popL_some (L := L1) (P := P1) (by omega)
    obtain ⟨x1, v1, u1, A1, c1, t1, g1, k1⟩ := g.light w0 p1 (by omega) (by omega)
    obtain ⟨x2, v2, u2, A2, c2, t2, g2, k2⟩ := g1.light w0 p2 (by omega) (by omega)
    have t1' := t1.kp k2
    obtain ⟨q1, w1, s1, _, _⟩ := hq.pop p1
    obtain ⟨q2, w2, s2, o2, o3⟩ := q1.pop p2
    have e1 := sumG_pop HT.wt p1
    have e2 := sumG_pop HT.cnt p1
    have e3 := sumG_pop HT.wt p2
    have e4 := sumG_pop HT.cnt p2
    have hwt := hq.wt
    have hct := hq.cnt
    have q3 := q2.push ⟨w1, s1⟩ ⟨w2, s2⟩ (by omega) (by omega)
    obtain ⟨hi3, hh3⟩ := hinv.step p1 p2
    obtain ⟨ka, sya, la, ra, rfl, hka1, hka⟩ := t1'.ptr
    obtain ⟨kb, syb, lb, rb, rfl, hkb1, hkb⟩ := t2.ptr
    have nb1 : 0 ≤ sumG HT.wt L2 := sumG_nn _ fun t ht => (q2.nn t (.inl ht)).1
    have nb2 : 0 ≤ sumG HT.wt P2 := sumG_nn _ fun t ht => (q2.nn t (.inr ht)).1
    have gn := g2.node (.cells [.int .i64 (a.wt + b.wt), .int .i64 0, .pointer (some ⟨ka, 0, none⟩), .pointer (some ⟨kb, 0, none⟩)] 82 (some 0))
    have kn := (KpN.refl A2).alloc (.cells [.int .i64 (a.wt + b.wt), .int .i64 0, .pointer (some ⟨ka, 0, none⟩), .pointer (some ⟨kb, 0, none⟩)] 82 (some 0))
    have ht : TrA (A2.alloc (.cells [.int .i64 (a.wt + b.wt), .int .i64 0, .pointer (some ⟨ka, 0, none⟩), .pointer (some ⟨kb, 0, none⟩)] 82 (some 0))) (.br (a.wt + b.wt) a b) (.pointer (some ⟨A2.next, 0, none⟩)) := ⟨A2.next, ka, kb, rfl, by rw [nx_alloc]; omega, get_alloc_same .., t1'.kp kn, t2.kp kn⟩
    obtain ⟨v', A3, y1, y2, y3, y4, y5⟩ := gn.pair ht (by omega)
    rw [nx_alloc] at y1
    unfold nodC at hka hkb
    simp (maxSteps := 1000000) (disch := (first | omega | (simp only [nx_alloc, nx_upd, len_cons, len_nil, List.length_set, List.length_map, List.length_append] <;> omega) | fail)) only [go_sem, r3, r4, r5, r8, g.g1, g.g2, ll, lp, hcast, hgt']
    refine call1 c1 ?_
    simp (maxSteps := 1000000) (disch := (first | omega | (simp only [nx_alloc, nx_upd, len_cons, len_nil, List.length_set, List.length_map, List.length_append] <;> omega) | fail)) only [go_sem, r8]
    refine call1 c2 ?_
    simp (maxSteps := 1000000) (disch := (first | omega | (simp only [nx_alloc, nx_upd, len_cons, len_nil, List.length_set, List.length_map, List.length_append] <;> omega) | fail)) only [go_sem, r5]
    have gn2 := (gn.node (.cells [.pointer (some ⟨A2.next, 0, none⟩)] 80 (some 0))).g2
    refine aw_draw2 [⟨false, [], [0, 1, 2]⟩, ⟨false, [], [0]⟩, ⟨false, [1], [0]⟩, ⟨false, [1, 2], [0]⟩, ⟨false, [1, 2, 3], [0]⟩, ⟨false, [], [0]⟩, ⟨false, [5], [0]⟩, ⟨false, [5, 6], [0]⟩, ⟨false, [5, 6, 7], [0]⟩, ⟨false, [1, 2, 3, 4, 5, 6, 7, 8], [0]⟩, ⟨false, [], [0]⟩, ⟨false, [], [0]⟩, ⟨false, [1, 2, 3, 4, 5, 6, 7, 8, 9, 10, 11], [0]⟩, ⟨true, [1, 2, 3, 4, 5, 6, 7, 8, 9, 10, 11, 12], [0]⟩, ⟨true, [1, 2, 3, 4, 5, 6, 7, 8, 9, 10, 11, 12, 13], [1]⟩, ⟨true, [0, 1, 2, 3, 4, 5, 6, 7, 8, 9, 10, 11, 12, 13, 14], [2]⟩, ⟨true, [0, 1, 2, 3, 4, 5, 6, 7, 8, 9, 10, 11, 12, 13, 14, 15], [3]⟩] [A2, A2.alloc (.cells [.int .i64 (a.wt + b.wt), .int .i64 0, .pointer (some ⟨ka, 0, none⟩), .pointer (some ⟨kb, 0, none⟩)] 82 (some 0)), (A2.alloc (.cells [.int .i64 (a.wt + b.wt), .int .i64 0, .pointer (some ⟨ka, 0, none⟩), .pointer (some ⟨kb, 0, none⟩)] 82 (some 0))).alloc (.cells [.pointer (some ⟨A2.next, 0, none⟩)] 80 (some 0)), A3, A3.upd (A.next + 2) (some (.cells [v'] 79 (some 0)))] 4 (by kernel_rfl) (by kernel_rfl) rfl ?_
    simp (maxSteps := 1000000) (disch := (first | omega | (simp only [nx_alloc, nx_upd, len_cons, len_nil, List.length_set, List.length_map, List.length_append] <;> omega) | fail)) only [go_sem, r5, g2.g2, gn.g2, gn2, hka, hkb, y1, y2, storeC_val (off := 0) (k := 0) (cs := [u2]) (e := 79) y3 (Nat.le_refl _) (Nat.le_refl _)]
    refine ⟨m - 1, by omega, _, L2, P2 ++ [.br (a.wt + b.wt) a b], v2, v', rfl, by simp; omega, by simp; omega, y4, hi3, q3, fun k hk => ?_, ?_, ?_, ?_, ?_⟩
    · rw [← hh3 k]
      exact hhf (k + 1) (by simp at hk; omega)
    · simp (maxSteps := 1000000) (disch := (first | omega | (simp only [nx_alloc, nx_upd, len_cons, len_nil, List.length_set, List.length_map, List.length_append] <;> omega) | fail)) only [go_sem, r3]
    · simp (maxSteps := 1000000) (disch := (first | omega | (simp only [nx_alloc, nx_upd, len_cons, len_nil, List.length_set, List.length_map, List.length_append] <;> omega) | fail)) only [go_sem, r4]
    · simp (maxSteps := 1000000) (disch := (first | omega | (simp only [nx_alloc, nx_upd, len_cons, len_nil, List.length_set, List.length_map, List.length_append] <;> omega) | fail)) only [go_sem, r5]
    · simp (maxSteps := 1000000) (disch := (first | omega | (simp only [nx_alloc, nx_upd, len_cons, len_nil, List.length_set, List.length_map, List.length_append] <;> omega) | fail)) only [go_sem, r8]
  have hgt' : ¬ ((L.length + P.length : Nat) : Int) > 1 := by omega
  obtain ⟨v', A2, y1, y2, y3, y4⟩ := qr_app g.ql g.qp (by omega) g.nx
  have hfin : hufP f = mrg L P := (hhf 0 (by omega)).symm
  have happ : mrg L P = L ++ P := by
    match L, P, hgt with
    | [], P, _ => rw [mrg_nil]; rfl
    | a :: L, [], _ => rw [mrg_nil2, List.append_nil]
    | a :: L, b :: P, h => simp at h; omega
  rw [happ] at hfin
  have hnn : ∀ t ∈ L ++ P, ∀ s ∈ t.syms, s < f.length := fun t ht => (hq.nn t (List.mem_append.1 ht)).2
  have hht : ∀ t ∈ L ++ P, t.ht ≤ 1000 := fun t ht => by
    have h1 := ht_cnt t
    have hs : ∀ l : List HT, t ∈ l → t.cnt ≤ sumG HT.cnt l := fun l => by
      induction l with
      | nil => intro h; cases h
      | cons q l ih =>
        intro h
        have := len_cnt l
        have := cnt_pos q
        rw [sumG_cons]
        rcases List.mem_cons.1 h with rfl | h
        · omega
        · have := ih h; omega
    have h2 := hs _ ht
    rw [sumG_app] at h2
    have := hq.cnt
    omega
  have l2 := y2.lenU
  rw [← hfin] at y2 l2 hnn hht
  have hfl : (hufP f).length ≤ 1 := by rw [hfin, List.length_append]; omega
  simp (maxSteps := 1000000) (disch := (first | omega | (simp only [nx_alloc, nx_upd, len_cons, len_nil, List.length_set, List.length_map, List.length_append] <;> omega) | fail)) only [go_sem, r3, r4, r5, r8, g.g1, g.g2, ll, lp, hcast, hgt', y1, l2]
  refine aw_loop (fun m x A' => ∃ (ρ : Nat → Value) (i : Nat), x = E 75 ρ [] ∧ m = (hufP f).length - i ∧ i ≤ (hufP f).length ∧ A2.next ≤ A'.next ∧ (∀ b, b ≠ A.next → b < A2.next → A'.get b = A2.get b) ∧ A'.get A.next = intB (deepAll ((hufP f).take i) (List.replicate f.length 0)) ∧ ρ 3 = .slice (some ⟨A.next, 0, none⟩) f.length f.length ∧ ρ 64 = v' ∧ ρ 65 = .int .i64 (hufP f).length ∧ ρ 66 = .int .i64 i) (hufP f).length
    ⟨_, 0, rfl, rfl, Nat.zero_le _, Nat.le_refl _, fun b _ _ => rfl, (y4 _ (by omega)).trans g.gl, by first | rfl | exact r3, rfl, rfl, rfl⟩ ?_
  clear r3 r4 r5 r8
  rintro m x A' ⟨ρ, i, rfl, hm, hi, n1, ov, gl, r3, r64, r65, r66⟩
  refine aw_of ?_
  have gnx := g.nx
  by_cases hend : i = (hufP f).length
  · have e1 : ¬ ((i : Int) < ((hufP f).length : Nat)) := by omega
    rw [hend, List.take_length] at gl
    simp (maxSteps := 1000000) (disch := (first | omega | (simp only [nx_alloc, nx_upd, len_cons, len_nil, List.length_set, List.length_map, List.length_append] <;> omega) | fail)) only [go_sem, r3, r64, r65, r66, e1, Try.results26]
    refine gc_here ⟨_, rfl, ⟨by omega, fun b hb => ?_⟩, ?_⟩
    · rw [ov b (by omega) (by omega), y4 b (by omega)]; exact g.ov b hb
    · have gl' : A'.get A.next = intB (grownP f) := gl
      refine ⟨by rw [flat_i64, List.length_map, Nat.mul_one], .inr ⟨A.next, none, by rw [grownP_len], .inl rfl, Nat.le_refl _, by omega, ?_⟩⟩
      rw [flat_i64]; exact gl'
  have e1 : (i : Int) < ((hufP f).length : Nat) := by omega
  obtain ⟨t, ht⟩ : ∃ t, (hufP f)[i]? = some t := ⟨_, List.getElem?_eq_getElem (by omega)⟩
  have htm := List.mem_of_getElem? ht
  have kk : KpN A2 A' := ⟨n1, fun k cs m hk hkk => ov k (fun e => by rw [e, y4 _ (by omega), g.gl] at hkk; injection hkk with e; injection e with _ e; exact absurd e (by decide)) hk⟩
  have y2' : QR A' (A.next + 3) (hufP f) v' := y2.kp kk fun b hb hlt => ov b (by have := (y2.rb b hb).1; omega) hlt
  obtain ⟨b, off, cells, x, z1, z2, z3, z4, z5, z6, z7⟩ := y2'.at ht
  have dl := deepAll_len ((hufP f).take i) (List.replicate f.length 0)
  rw [List.length_replicate] at dl
  have c := deepen_ok w0 A.next t A' x _ 0 z7 gl (fun s hs => by rw [dl]; exact hnn t htm s hs) (Int.le_refl _) (by have := hht t htm; omega) (by omega)
  rw [dl] at c
  simp (maxSteps := 1000000) (disch := (first | omega | (simp only [nx_alloc, nx_upd, len_cons, len_nil, List.length_set, List.length_map, List.length_append] <;> omega) | fail)) only [go_sem, r3, r64, r65, r66, e1, z1, z5, z6]
  refine call1 c ?_
  simp (maxSteps := 1000000) (disch := (first | omega | (simp only [nx_alloc, nx_upd, len_cons, len_nil, List.length_set, List.length_map, List.length_append] <;> omega) | fail)) only [go_sem, r66]
  refine ⟨m - 1, by omega, _, i + 1, rfl, by omega, by omega, n1, fun b h1 h2 => by rw [get_upd_old h1]; exact ov b h1 h2, ?_, ?_, ?_, ?_, ?_⟩
  · rw [List.take_add_one, ht]
    show _ = intB (deepAll (_ ++ [t]) _)
    rw [deepAll_snoc]
  · simp (maxSteps := 1000000) (disch := (first | omega | (simp only [nx_alloc, nx_upd, len_cons, len_nil, List.length_set, List.length_map, List.length_append] <;> omega) | fail)) only [go_sem, r3]
  · simp (maxSteps := 1000000) (disch := (first | omega | (simp only [nx_alloc, nx_upd, len_cons, len_nil, List.length_set, List.length_map, List.length_append] <;> omega) | fail)) only [go_sem, r64]
  · simp (maxSteps := 1000000) (disch := (first | omega | (simp only [nx_alloc, nx_upd, len_cons, len_nil, List.length_set, List.length_map, List.length_append] <;> omega) | fail)) only [go_sem, r65]
  · simp (maxSteps := 1000000) (disch := (first | omega | (simp only [nx_alloc, nx_upd, len_cons, len_nil, List.length_set, List.length_map, List.length_append] <;> omega) | fail)) only [go_sem]
    rfl
end Go.Fw
