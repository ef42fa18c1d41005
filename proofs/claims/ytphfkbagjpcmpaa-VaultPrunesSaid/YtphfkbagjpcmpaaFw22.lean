import Derived.Test.YtphfkbagjpcmpaaFw21
/-! The rule of drawn regions with told heaps is sound. -/
set_option linter.unusedSimpArgs false
set_option linter.unusedVariables false
namespace Go.Fw
open Go.RowKit

def isH (cs : List Cert) (i : Nat) : Bool := match cs[i]? with | some c => c.heavy | none => false
def ancOf (cs : List Cert) (i : Nat) : List Nat := match cs[i]? with | some c => c.anc | none => []
def hvs (cs : List Cert) : List Nat := (List.range cs.length).filter (isH cs)
def loC (cs : List Cert) (i : Nat) : Nat := (hvs cs).countP fun j => (ancOf cs i).contains j
def hiC (cs : List Cert) (i : Nat) : Nat := (hvs cs).countP fun j => j != i && !(ancOf cs j).contains i
def certOk (ops : Array Oper) (cs : List Cert) (n : Nat) : Bool :=
  cs.length == ops.size && n == (hvs cs).length && (List.range ops.size).all fun i =>
    match ops[i]?, cs[i]? with
    | some o, some c =>
      c.anc.all (fun x => hasE o x || c.anc.any fun y => match ops[y]? with | some oy => hasE oy x | none => false) &&
      (List.range (hiC cs i + 1)).all (fun k => decide (k < loC cs i) || c.lev.contains k) &&
      (!c.heavy || (o.guard.isNone && loC cs i == hiC cs i && c.lev == [loC cs i]))
    | _, _ => false

section
variable {P : Program} {w0 : World} {n0 n N : Nat} {nr : Bool} {Q : Exit → Act → St → Prop} {ops : Array Oper} {cs : List Cert} {ρ : Nat → Value} {ds : List Deferred} {H : List St}

structure CertAt (ops : Array Oper) (cs : List Cert) (i : Nat) (o : Oper) (c : Cert) : Prop where
  anc : ∀ x ∈ c.anc, hasE o x = true ∨ ∃ y ∈ c.anc, ∃ oy, ops[y]? = some oy ∧ hasE oy x = true
  lev : ∀ k, loC cs i ≤ k → k ≤ hiC cs i → k ∈ c.lev
  heavy : c.heavy = true → o.guard = none ∧ loC cs i = hiC cs i ∧ c.lev = [loC cs i]
theorem certOk_at (h : certOk ops cs N = true) : cs.length = ops.size ∧ N = (hvs cs).length ∧ ∀ i o, ops[i]? = some o → ∃ c, cs[i]? = some c ∧ CertAt ops cs i o c := by
  unfold certOk at h
  simp only [Bool.and_eq_true, beq_iff_eq] at h
  obtain ⟨⟨h1, h2⟩, h3⟩ := h
  refine ⟨h1, h2, fun i o ho => ?_⟩
  have hi : i < ops.size := (Array.getElem?_eq_some_iff.1 ho).1
  have h4 := List.all_eq_true.1 h3 i (List.mem_range.2 hi)
  rw [ho] at h4
  cases hc : cs[i]? with
  | none => rw [hc] at h4; simp at h4
  | some c =>
    rw [hc] at h4
    simp only [Bool.and_eq_true] at h4
    obtain ⟨⟨h5, h6⟩, h7⟩ := h4
    refine ⟨c, rfl, ⟨fun x hx => ?_, fun k hk1 hk2 => ?_, fun hh => ?_⟩⟩
    · have := List.all_eq_true.1 h5 x hx
      simp only [Bool.or_eq_true, List.any_eq_true] at this
      rcases this with h | ⟨y, hy, h⟩
      · exact .inl h
      · cases hoy : ops[y]? with
        | none => rw [hoy] at h; cases h
        | some oy => rw [hoy] at h; exact .inr ⟨y, hy, oy, hoy, h⟩
    · have := List.all_eq_true.1 h6 k (List.mem_range.2 (by omega))
      simp only [Bool.or_eq_true, decide_eq_true_eq] at this
      rcases this with h | h
      · omega
      · simpa using h
    · rw [hh] at h7
      simp only [Bool.not_true, Bool.false_or, Bool.and_eq_true, beq_iff_eq, Option.isNone_iff_eq_none] at h7
      exact ⟨h7.1.1, h7.1.2, h7.2⟩

def Closed (ops : Array Oper) (L : Nat → Bool) : Prop := ∀ j oj, L j = true → ops[j]? = some oj → ∀ e ∈ oj.after, Region.binds .any e = true → L e.on = true
theorem hasE_mem {o : Oper} {k : Nat} (h : hasE o k = true) : ∃ e ∈ o.after, Region.binds .any e = true ∧ e.on = k := by
  unfold hasE at h
  rw [Array.any_eq_true'] at h
  obtain ⟨e, he, hb⟩ := h
  simp only [Bool.and_eq_true, beq_iff_eq] at hb
  exact ⟨e, he, hb.1, hb.2⟩
theorem anc_in (hok : drawOk ops = true) {i : Nat} {o : Oper} {c : Cert} (ho : ops[i]? = some o) (hc : CertAt ops cs i o c) {L : Nat → Bool} (hcl : Closed ops L) (hpre : ∀ e ∈ o.after, Region.binds .any e = true → L e.on = true) :
    ∀ (m x : Nat), ops.size - x ≤ m → x ∈ c.anc → L x = true := by
  intro m
  induction m with
  | zero =>
    intro x hm hx
    rcases hc.anc x hx with h | ⟨y, hy, oy, hoy, h⟩
    · obtain ⟨e, he, hb, rfl⟩ := hasE_mem h
      exact hpre e he hb
    · obtain ⟨e, he, hb, rfl⟩ := hasE_mem h
      have := (drawOk_at hok hoy).1 e he hb
      have := (Array.getElem?_eq_some_iff.1 hoy).1
      omega
  | succ m ih =>
    intro x hm hx
    rcases hc.anc x hx with h | ⟨y, hy, oy, hoy, h⟩
    · obtain ⟨e, he, hb, rfl⟩ := hasE_mem h
      exact hpre e he hb
    · obtain ⟨e, he, hb, rfl⟩ := hasE_mem h
      have h1 := (drawOk_at hok hoy).1 e he hb
      have h2 := (Array.getElem?_eq_some_iff.1 hoy).1
      exact hcl y oy (ih y (by omega) hy) hoy e he hb
def lvl (cs : List Cert) (L : Nat → Bool) : Nat := (hvs cs).countP L
theorem lvl_between (hok : drawOk ops = true) (hk : certOk ops cs N = true) {i : Nat} {o : Oper} {c : Cert} (ho : ops[i]? = some o) (hc : cs[i]? = some c) (hca : CertAt ops cs i o c) {L : Nat → Bool} (hcl : Closed ops L) (hi : L i = false) (hpre : ∀ e ∈ o.after, Region.binds .any e = true → L e.on = true) :
    loC cs i ≤ lvl cs L ∧ lvl cs L ≤ hiC cs i := by
  constructor
  · apply List.countP_mono_left
    intro j hj h
    have h1 : ancOf cs i = c.anc := by unfold ancOf; rw [hc]
    rw [h1] at h
    exact anc_in hok ho hca hcl hpre _ j (Nat.le_refl _) (by simpa using h)
  · apply List.countP_mono_left
    intro j hj h
    have hne : j ≠ i := by rintro rfl; rw [hi] at h; cases h
    simp only [Bool.and_eq_true, bne_iff_ne, ne_eq, Bool.not_eq_true']
    refine ⟨hne, ?_⟩
    cases hx : (ancOf cs j).contains i with
    | false => rfl
    | true =>
      exfalso
      cases hoj : ops[j]? with
      | none =>
        have hjl : j < cs.length := by
          have := List.mem_filter.1 hj
          exact List.mem_range.1 this.1
        have := (certOk_at hk).1
        rw [Array.getElem?_eq_none_iff] at hoj
        omega
      | some oj =>
        obtain ⟨cj, hcj, hcaj⟩ := (certOk_at hk).2.2 j oj hoj
        have h1 : ancOf cs j = cj.anc := by unfold ancOf; rw [hcj]
        rw [h1] at hx
        have := anc_in hok hoj hcaj hcl (fun e he hb => hcl j oj h hoj e he hb) _ i (Nat.le_refl _) (by simpa using hx)
        rw [hi] at this; cases this
theorem lvl_add {i : Nat} {L : Nat → Bool} (hi : L i = false) (hlt : i < cs.length) : lvl cs (fun j => j == i || L j) = lvl cs L + if isH cs i then 1 else 0 := by
  unfold lvl hvs
  have gen : ∀ (l : List Nat), l.Nodup → (l.filter (isH cs)).countP (fun j => j == i || L j) = (l.filter (isH cs)).countP L + if i ∈ l ∧ isH cs i = true then 1 else 0 := by
    intro l
    induction l with
    | nil => intro _; simp
    | cons x l ih =>
      intro hnd
      rw [List.nodup_cons] at hnd
      have ih := ih hnd.2
      by_cases hx : isH cs x = true
      · rw [List.filter_cons_of_pos hx, List.countP_cons, List.countP_cons, ih]
        by_cases hxi : x = i
        · subst hxi
          simp [hi, hx, hnd.1]
        · have : i ∈ x :: l ↔ i ∈ l := by simp [Ne.symm hxi]
          simp only [this, beq_iff_eq, hxi, Bool.or_eq_true, false_or]
          omega
      · rw [List.filter_cons_of_neg hx, ih]
        by_cases hxi : x = i
        · subst hxi
          simp [hx]
        · have : i ∈ x :: l ↔ i ∈ l := by simp [Ne.symm hxi]
          simp only [this]
  rw [gen _ List.nodup_range]
  simp [hlt]

/-- What an operation comes to at each level that it may meet. -/
def StepY (P : Program) (w0 : World) (dst : List (Option Tmp)) (cs : List Cert) (H : List St) (i : Nat) (o : Oper) (a : Act) (v : Value) : Prop :=
  (wanted' dst o.guard a.tmps = true ∧ ∀ c, loC cs i ≤ c → c ≤ hiC cs i → ∃ v', OpT P w0 o a (hs H c) (hs H (c + if isH cs i then 1 else 0)) v' ∧ a.put o.dst v' = a.put o.dst v) ∨ (wanted' dst o.guard a.tmps = false ∧ isH cs i = false ∧ v = undef)
theorem stepX_at {i : Nat} {o : Oper} {c : Cert} {K : Act → St → Prop} {a : Act} {A : St} (hc : cs[i]? = some c) (hca : CertAt ops cs i o c) (h : stepX P w0 o c H K a A) :
    ∃ v A1, (∀ k, loC cs i ≤ k → k ≤ hiC cs i → ∃ v', OpT P w0 o a (hs H k) (hs H (k + if isH cs i then 1 else 0)) v' ∧ a.put o.dst v' = a.put o.dst v) ∧ K (a.put o.dst v) A1 := by
  have hh : isH cs i = c.heavy := by unfold isH; rw [hc]
  rw [hh]
  unfold stepX at h
  split at h
  · exact h.elim
  · rename_i l ls hl
    cases hb : c.heavy with
    | true =>
      rw [hb, if_pos rfl] at h
      obtain ⟨h1, h2⟩ := h
      obtain ⟨g1, g2, g3⟩ := hca.heavy hb
      rw [hl, List.cons.injEq] at g3
      obtain ⟨v, h3, h4⟩ := stepT_opT h2
      refine ⟨v, _, fun k hk1 hk2 => ?_, h4⟩
      have : k = l := by omega
      subst this
      exact ⟨v, h3, rfl⟩
    | false =>
      rw [hb] at h
      simp only [Bool.false_eq_true, if_false, Nat.add_zero] at h ⊢
      split at h
      · rename_i hp
        obtain ⟨v, h3, h4⟩ := stepT_opT h
        refine ⟨v, _, fun k hk1 hk2 => ⟨v, ?_, rfl⟩, h4⟩
        unfold OpT at h3 ⊢
        split at h3
        · rename_i f args ts ho
          rw [ho] at hp; cases hp
        · exact h3.elim
        · exact h3.elim
        · exact pure_any hp h3 _
      · obtain ⟨v, h3, h4, h5⟩ := stepT_opT h
        refine ⟨v, _, fun k hk1 hk2 => ?_, h5⟩
        have hm := hca.lev k hk1 hk2
        rw [hl] at hm
        rcases List.mem_cons.1 hm with rfl | hm
        · exact ⟨v, h3, rfl⟩
        · obtain ⟨v', h6, h7⟩ := stepT_opT (allC_mem h4 k hm)
          exact ⟨v', h6, h7⟩

theorem aopsX_vals (hok : drawOk ops = true) (hk : certOk ops cs N = true) : ∀ (m i : Nat), i + m = ops.size → ∀ {vals0 : Nat → Value} {A : St}, aopsX P w0 (ops.toList.map (·.dst)) Q H N (ops.toList.drop i) (cs.drop i) (E n (env ops vals0 ρ (below i)) ds) A →
    ∃ vals : Nat → Value, (∀ j, j < i → vals j = vals0 j) ∧ (∀ j o, i ≤ j → ops[j]? = some o → StepY P w0 (ops.toList.map (·.dst)) cs H j o (E n (env ops vals ρ (below j)) ds) (vals j)) ∧ Q .normal (E n (env ops vals ρ (below ops.size)) ds) (hs H N)
  | 0, i, hi, vals0, A, h => by
    rw [List.drop_of_length_le (l := ops.toList) (by simp; omega)] at h
    refine ⟨vals0, fun _ _ => rfl, fun j o hj ho => ?_, ?_⟩
    · have := (Array.getElem?_eq_some_iff.1 ho).1; omega
    · have : i = ops.size := by omega
      subst this
      rw [aopsX_nil] at h; exact h
  | m + 1, i, hi, vals0, A, h => by
    have hlt : i < ops.size := by omega
    have hoi : ops[i]? = some ops[i] := Array.getElem?_eq_getElem hlt
    obtain ⟨hlen, _, hat⟩ := certOk_at hk
    obtain ⟨c, hc, hca⟩ := hat i _ hoi
    have hlt2 : i < cs.length := by omega
    have hci : cs[i] = c := by rw [List.getElem?_eq_getElem hlt2] at hc; cases hc; rfl
    rw [List.drop_eq_getElem_cons (l := ops.toList) (by simpa using hlt), List.drop_eq_getElem_cons (l := cs) hlt2] at h
    simp only [Array.getElem_toList, hci] at h
    have henv : ∀ (vals : Nat → Value), (∀ j, j < i → vals j = vals0 j) → env ops vals ρ (below i) = env ops vals0 ρ (below i) := by
      intro vals hv
      funext t
      unfold env
      split
      · rename_i j hj
        by_cases hji : j < i
        · simp [below, hji, hv j hji]
        · simp [below, hji]
      · rfl
    have go : ∀ v A1, StepY P w0 (ops.toList.map (·.dst)) cs H i ops[i] (E n (env ops vals0 ρ (below i)) ds) v → aopsX P w0 (ops.toList.map (·.dst)) Q H N (ops.toList.drop (i + 1)) (cs.drop (i + 1)) ((E n (env ops vals0 ρ (below i)) ds).put ops[i].dst v) A1 →
        ∃ vals : Nat → Value, (∀ j, j < i → vals j = vals0 j) ∧ (∀ j o, i ≤ j → ops[j]? = some o → StepY P w0 (ops.toList.map (·.dst)) cs H j o (E n (env ops vals ρ (below j)) ds) (vals j)) ∧ Q .normal (E n (env ops vals ρ (below ops.size)) ds) (hs H N) := by
      intro v A1 hst hk2
      obtain ⟨vals1, hv1⟩ : ∃ vals1 : Nat → Value, vals1 = fun j => if j = i then v else vals0 j := ⟨_, rfl⟩
      have e1 : env ops vals1 ρ (below i) = env ops vals0 ρ (below i) := henv _ fun j hj => by rw [hv1]; exact if_neg (by omega)
      have e2 : (E n (env ops vals0 ρ (below i)) ds).put ops[i].dst v = E n (env ops vals1 ρ (below (i + 1))) ds := by
        rw [below_succ, env_add hok hoi, put_EO, e1, hv1]; simp
      rw [e2] at hk2
      obtain ⟨vals, q1, q2, q3⟩ := aopsX_vals hok hk m (i + 1) (by omega) hk2
      refine ⟨vals, fun j hj => ?_, fun j o hj ho => ?_, q3⟩
      · rw [q1 j (by omega), hv1]; exact if_neg (by omega)
      · by_cases hji : j = i
        · subst hji
          rw [hoi] at ho; cases ho
          rw [henv vals fun k hk => by rw [q1 k (by omega), hv1]; exact if_neg (by omega)]
          rw [q1 j (by omega), hv1]
          simpa using hst
        · exact q2 j o (by omega) ho
    rw [aopsX_cons] at h
    cases hw : wanted' (ops.toList.map (·.dst)) ops[i].guard (E n (env ops vals0 ρ (below i)) ds).tmps with
    | true =>
      rw [hw, ifB_true] at h
      obtain ⟨v, A1, h1, h2⟩ := stepX_at hc hca h
      exact go v A1 (.inl ⟨hw, h1⟩) h2
    | false =>
      rw [hw, ifB_false, skipC_eq] at h
      refine go undef _ (.inr ⟨hw, ?_, rfl⟩) h
      unfold isH
      rw [hc]
      cases hb : c.heavy with
      | false => exact hb
      | true =>
        have := (hca.heavy hb).1
        rw [this] at hw
        cases hw

theorem put_transfer {ρ1 ρ2 : Nat → Value} {d : Option Tmp} {v u : Value} (h : (E n ρ1 ds).put d v = (E n ρ1 ds).put d u) : (E n ρ2 ds).put d v = (E n ρ2 ds).put d u := by
  cases d with
  | none => rfl
  | some t =>
    rw [put_E, put_E] at h ⊢
    by_cases ht : t < n
    · have h1 : (tm n (upd ρ1 t v)).getD t undef = (tm n (upd ρ1 t u)).getD t undef := by
        have := congrArg Act.tmps h
        exact congrArg (·.getD t undef) this
      rw [tm_getD, tm_getD, rd, rd, if_pos ht, if_pos ht] at h1
      simp only [upd, if_true] at h1
      rw [h1]
    · refine E_eq _ fun j hj => ?_
      have hne : j ≠ t := fun e => ht (e ▸ hj)
      simp only [upd, if_neg hne]
theorem StepY.at {i : Nat} {o : Oper} {v : Value} {ρ1 ρ2 : Nat → Value} (h : StepY P w0 (ops.toList.map (·.dst)) cs H i o (E n ρ1 ds) v) (he : ∀ t ∈ o.looksAt ops, ρ1 t = ρ2 t) : StepY P w0 (ops.toList.map (·.dst)) cs H i o (E n ρ2 ds) v := by
  have hw : wanted' (ops.toList.map (·.dst)) o.guard (E n ρ1 ds).tmps = wanted' (ops.toList.map (·.dst)) o.guard (E n ρ2 ds).tmps := by
    cases hg : o.guard with
    | none => rfl
    | some x =>
      obtain ⟨j, b⟩ := x
      rw [wanted_some, wanted_some]
      congr 2
      cases hd0 : (ops.toList.map (·.dst))[j]? with
      | none => rfl
      | some o0 =>
      cases o0 with
      | none => rfl
      | some t =>
        simp only [lookT, E_tmps, tm_get?]
        rw [he t]
        have hd' : (ops[j]?).bind (·.dst) = some t := by
          rw [List.getElem?_map, Array.getElem?_toList] at hd0
          cases hj : ops[j]? with
          | none => rw [hj] at hd0; cases hd0
          | some oj => rw [hj] at hd0; simp only [Option.map_some, Option.some.injEq] at hd0; exact hd0
        unfold Oper.looksAt
        rw [hg]
        exact List.mem_append_right _ (by simp [hd'])
  unfold StepY at h ⊢
  rw [← hw]
  rcases h with ⟨h1, h2⟩ | h
  · refine .inl ⟨h1, fun c hc1 hc2 => ?_⟩
    obtain ⟨v', h3, h4⟩ := h2 c hc1 hc2
    refine ⟨v', h3.congr fun x hx => ?_, put_transfer h4⟩
    cases x with
    | tmp t =>
      rw [eval_tmp, eval_tmp, rd, rd, he t]
      unfold Oper.looksAt
      exact List.mem_append_left _ (List.mem_filterMap.2 ⟨.tmp t, by simpa using hx, rfl⟩)
    | _ => rfl
  · exact .inr h

theorem draw2_go {md : Region.Mode} {vals : Nat → Value} (hok : drawOk ops = true) (hk : certOk ops cs N = true) (hv : ∀ j o, ops[j]? = some o → StepY P w0 (ops.toList.map (·.dst)) cs H j o (E n (env ops vals ρ (below j)) ds) (vals j)) (hq : Q .normal (E n (env ops vals ρ (below ops.size)) ds) (hs H N)) :
    ∀ (fuel t : Nat) (listed : Array Bool), listed.size = ops.size → listed.toList.count false ≤ fuel → Closed ops (fun j => listed.getD j false) →
      aopsI P w0 nr ops Q (Region.linearise.go md ops fuel t listed []) (E n (env ops vals ρ (fun j => listed.getD j false)) ds) (hs H (lvl cs (fun j => listed.getD j false))) := by
  have finish : ∀ listed : Array Bool, listed.size = ops.size → (∀ j, j < ops.size → listed.getD j false = true) → Q .normal (E n (env ops vals ρ (fun j => listed.getD j false)) ds) (hs H (lvl cs (fun j => listed.getD j false))) := by
    intro listed hs1 hall
    have : env ops vals ρ (fun j => listed.getD j false) = env ops vals ρ (below ops.size) := by
      funext t
      unfold env
      cases hx : dIx ops t with
      | none => rfl
      | some j =>
        obtain ⟨o, ho, _⟩ := dIx_some hx
        have hj := (Array.getElem?_eq_some_iff.1 ho).1
        simp only [hall j hj, below, hj, decide_true]
    rw [this]
    have h2 : lvl cs (fun j => listed.getD j false) = N := by
      rw [(certOk_at hk).2.1]
      unfold lvl
      rw [List.countP_eq_length]
      intro j hj
      have h3 := List.mem_range.1 (List.mem_filter.1 hj).1
      have h4 := (certOk_at hk).1
      exact hall j (by omega)
    rw [h2]; exact hq
  intro fuel
  induction fuel with
  | zero =>
    intro t listed hs1 hc hcl
    simp only [Region.linearise.go, List.reverse_nil, aopsI]
    refine finish listed hs1 fun j hj => ?_
    have h0 : listed.toList.count false = 0 := by omega
    rw [List.count_eq_zero] at h0
    have hj' : j < listed.size := by omega
    cases hb : listed.getD j false with
    | true => rfl
    | false =>
      exfalso
      apply h0
      have : listed.getD j false = listed[j] := by simp [Array.getD, hj']
      rw [this] at hb
      rw [← hb]
      exact Array.getElem_mem_toList hj'
  | succ fuel ih =>
    intro t listed hs1 hc hcl
    simp only [Region.linearise.go]
    change aopsI P w0 nr ops Q (match (Region.ready md ops listed)[t % (Region.ready md ops listed).length]? with
      | some i => Region.linearise.go md ops fuel (t / (Region.ready md ops listed).length) (listed.setIfInBounds i true) [i]
      | none => [].reverse) _ _
    cases hi : (Region.ready md ops listed)[t % (Region.ready md ops listed).length]? with
    | none =>
      have hnil : Region.ready md ops listed = [] := by
        cases hr : Region.ready md ops listed with
        | nil => rfl
        | cons x xs =>
          rw [hr] at hi
          have hlt : t % (x :: xs).length < (x :: xs).length := Nat.mod_lt _ (by simp)
          rw [List.getElem?_eq_none_iff] at hi
          omega
      simp only [List.reverse_nil, aopsI]
      refine finish listed hs1 fun j => ?_
      induction j using Nat.strongRecOn with
      | _ j ihj =>
        intro hj
        cases hb : listed.getD j false with
        | true => rfl
        | false =>
          exfalso
          exact not_stuck hok (by omega) hj hb (fun k hk => ihj k hk (by omega)) hnil
    | some i =>
      simp only []
      rw [linearise_go_acc, List.reverse_singleton, List.singleton_append]
      have hmem := mem_ready.1 (List.mem_of_getElem? hi)
      obtain ⟨hun, o, ho, hpre⟩ := hmem
      have hilt : i < ops.size := (Array.getElem?_eq_some_iff.1 ho).1
      have hil : i < listed.size := by omega
      have hif : listed.getD i false = false := by
        have h1 : listed.getD i false = listed[i] := by simp [Array.getD, hil]
        have h2 : listed.getD i true = listed[i] := by simp [Array.getD, hil]
        rw [h1, ← h2]; exact hun
      have hset : (fun j => (listed.setIfInBounds i true).getD j false) = fun j => j == i || listed.getD j false := by
        funext j
        by_cases hji : j = i
        · subst hji; simp [Array.getD, hil]
        · rw [getD_set_ne false (Ne.symm hji)]; simp [hji]
      have hpre' : ∀ e ∈ o.after, Region.binds .any e = true → listed.getD e.on false = true := fun e he hb => hpre e he (binds_any hb)
      have hstep := (hv i o ho).at (ρ2 := env ops vals ρ (fun j => listed.getD j false)) fun u hu => env_sees hok ho hif hpre' hcl hu
      obtain ⟨hlen, _, hat⟩ := certOk_at hk
      obtain ⟨c, hcc, hca⟩ := hat i o ho
      have hbt := lvl_between hok hk ho hcc hca hcl hif hpre'
      have hla := lvl_add (cs := cs) (L := fun j => listed.getD j false) hif (by omega)
      have hnext := ih (t / (Region.ready md ops listed).length) (listed.setIfInBounds i true) (by simpa using hs1) (by
          have h1 : listed.toList.count false = (listed.toList.set i true).count false + 1 := by
            have hpos : 0 < listed.toList.count false := by
              rw [List.count_pos_iff]
              have h1 : listed.getD i false = listed[i] := by simp [Array.getD, hil]
              rw [← hif, h1]
              exact Array.getElem_mem_toList hil
            have h3 : listed[i] = false := by
              have h1 : listed.getD i false = listed[i] := by simp [Array.getD, hil]
              rw [← h1]; exact hif
            rw [List.count_set (by simpa using hil)]
            have h4 : listed.toList[i]'(by simpa using hil) = false := by rw [Array.getElem_toList]; exact h3
            rw [h4, if_pos (by decide), if_neg (by decide)]
            omega
          rw [Array.toList_setIfInBounds]
          omega) (fun j oj hj hoj e he hb => by
          by_cases hji : j = i
          · subst hji
            rw [ho] at hoj; cases hoj
            exact getD_set_true (hpre' e he hb)
          · simp only at hj ⊢
            rw [getD_set_ne false (Ne.symm hji)] at hj
            exact getD_set_true (hcl j oj hj hoj e he hb))
      rw [hset, env_add hok ho, hla] at hnext
      simp only [aopsI, ho]
      rw [wanted_eq]
      rcases hstep with ⟨h1, h2⟩ | ⟨h1, h2, h3⟩
      · rw [if_pos h1]
        obtain ⟨v', h4, h5⟩ := h2 _ hbt.1 hbt.2
        exact h4.aoper nr Q (by rw [h5, put_EO]; exact hnext)
      · rw [if_neg (by rw [h1]; decide), put_EO]
        rw [h2, if_neg (by decide), Nat.add_zero, h3] at hnext
        exact hnext

/-- **A drawn region** whose operations turn the heap from one told heap to the next. -/
theorem aw_draw2 {A : St} {id : Nat} (cs : List Cert) (H : List St) (N : Nat) (hok : drawOk ops = true) (hk : certOk ops cs N = true) (hA : hs H 0 = A) (h : aopsX P w0 (ops.toList.map (·.dst)) Q H N ops.toList cs (E n ρ ds) A) : AW P w0 n0 nr (.region id ops true) Q (E n ρ ds) A := by
  refine aw_region_draw fun t => ?_
  obtain ⟨vals, _, h2, h3⟩ := aopsX_vals (vals0 := fun _ => undef) (ρ := ρ) (n := n) (ds := ds) hok hk ops.size 0 (by omega) (by rw [env_zero, List.drop_zero, List.drop_zero]; exact h)
  have key : ∀ (md : Region.Mode) (t : Nat), aopsI P w0 nr ops Q (Region.linearise md ops t) (E n ρ ds) A := by
    intro md t
    have := draw2_go (nr := nr) (md := md) hok hk (fun j o ho => h2 j o (Nat.zero_le _) ho) h3 ops.size t (Array.replicate ops.size false) (by simp) (by simp) (fun j oj hj => by simp [Array.getElem?_replicate] at hj; split at hj <;> simp at hj)
    have he0 : (fun j => (Array.replicate ops.size false).getD j false) = fun _ => false := by
      funext j
      simp [Array.getElem?_replicate]
      split <;> rfl
    have he : env ops vals ρ (fun _ => false) = ρ := by
      funext u
      unfold env
      split <;> simp
    have hl : lvl cs (fun _ => false) = 0 := by
      unfold lvl; rw [List.countP_eq_zero]; simp
    rw [he0, he, hl, hA] at this
    exact this
  unfold Region.schedule
  split
  · exact key _ _
  · exact key _ _
end
end Go.Fw
