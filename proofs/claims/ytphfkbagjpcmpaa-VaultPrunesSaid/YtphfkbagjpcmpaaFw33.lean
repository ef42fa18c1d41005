import Derived.Test.YtphfkbagjpcmpaaFw32
/-! Drawn regions whose heavy operations have no one order: one told run for each order. -/
set_option linter.unusedSimpArgs false
set_option linter.unusedVariables false
namespace Go.Fw
open Go.RowKit
def hasX (X : List (Nat × Nat)) (i : Nat) (o : Oper) (x : Nat) : Bool := hasE o x || X.contains (i, x)
def ancGo (X : List (Nat × Nat)) (ops : Array Oper) (i : Nat) (o : Oper) : List Nat → List Nat → Bool
  | _, [] => true
  | dn, x :: r => (hasX X i o x || dn.any fun y => match ops[y]? with | some oy => hasX X y oy x | none => false) && ancGo X ops i o (x :: dn) r
def certOkX (X : List (Nat × Nat)) (ops : Array Oper) (cs : List Cert) (n : Nat) : Bool :=
  cs.length == ops.size && n == (hvs cs).length && (List.range ops.size).all fun i =>
    match ops[i]?, cs[i]? with
    | some o, some c =>
      ancGo X ops i o [] c.anc &&
      (List.range (hiC cs i + 1)).all (fun k => decide (k < loC cs i) || c.lev.contains k) &&
      (!c.heavy || (o.guard.isNone && loC cs i == hiC cs i && c.lev == [loC cs i]))
    | _, _ => false
section
variable {P : Program} {w0 : World} {n0 n N : Nat} {nr : Bool} {Q : Exit → Act → St → Prop} {ops : Array Oper} {cs : List Cert} {ρ : Nat → Value} {ds : List Deferred} {H : List St} {X : List (Nat × Nat)}
structure CertX (X : List (Nat × Nat)) (ops : Array Oper) (cs : List Cert) (i : Nat) (o : Oper) (c : Cert) : Prop where
  anc : ancGo X ops i o [] c.anc = true
  lev : ∀ k, loC cs i ≤ k → k ≤ hiC cs i → k ∈ c.lev
  heavy : c.heavy = true → o.guard = none ∧ loC cs i = hiC cs i ∧ c.lev = [loC cs i]
theorem certX_at (h : certOkX X ops cs N = true) : cs.length = ops.size ∧ N = (hvs cs).length ∧ ∀ i o, ops[i]? = some o → ∃ c, cs[i]? = some c ∧ CertX X ops cs i o c := by
  unfold certOkX at h
  simp only [Bool.and_eq_true, beq_iff_eq] at h
  obtain ⟨⟨h1, h2⟩, h3⟩ := h
  refine ⟨h1, h2, fun i o ho => ?_⟩
  have hi : i < ops.size := (Array.getElem?_eq_some_iff.1 ho).1
  have h4 := List.all_eq_true.1 h3 i (List.mem_range.2 hi)
  rw [ho] at h4
  cases hc : cs[i]? with
  | none => rw [hc] at h4; simp at h4
  | some c =>
    rw [hc] at h4
    simp only [Bool.and_eq_true] at h4
    obtain ⟨⟨h5, h6⟩, h7⟩ := h4
    refine ⟨c, rfl, ⟨h5, fun k hk1 hk2 => ?_, fun hh => ?_⟩⟩
    · have := List.all_eq_true.1 h6 k (List.mem_range.2 (by omega))
      simp only [Bool.or_eq_true, decide_eq_true_eq] at this
      rcases this with h | h
      · omega
      · simpa using h
    · rw [hh] at h7
      simp only [Bool.not_true, Bool.false_or, Bool.and_eq_true, beq_iff_eq, Option.isNone_iff_eq_none] at h7
      exact ⟨h7.1.1, h7.1.2, h7.2⟩
def ClosedX (X : List (Nat × Nat)) (L : Nat → Bool) : Prop := ∀ j x, L j = true → (j, x) ∈ X → L x = true
theorem hasX_in {i : Nat} {o : Oper} {L : Nat → Bool} {x : Nat} (h1 : ∀ e ∈ o.after, Region.binds .any e = true → L e.on = true) (h2 : ∀ x, (i, x) ∈ X → L x = true) (h : hasX X i o x = true) : L x = true := by
  unfold hasX at h
  rcases Bool.or_eq_true _ _ ▸ h with h | h
  · obtain ⟨e, he, hb, rfl⟩ := hasE_mem h
    exact h1 e he hb
  · exact h2 x (by simpa using h)
theorem ancX_in {i : Nat} {o : Oper} {L : Nat → Bool} (hcl : Closed ops L) (hx : ClosedX X L) (hpre : ∀ e ∈ o.after, Region.binds .any e = true → L e.on = true) (hpx : ∀ x, (i, x) ∈ X → L x = true) :
    ∀ (r dn : List Nat), (∀ y ∈ dn, L y = true) → ancGo X ops i o dn r = true → ∀ x ∈ r, L x = true
  | [], _, _, _, x, hx => by cases hx
  | y :: r, dn, hd, h, x, hxm => by
    rw [ancGo, Bool.and_eq_true] at h
    have hy : L y = true := by
      rcases Bool.or_eq_true _ _ ▸ h.1 with h | h
      · exact hasX_in hpre hpx h
      · obtain ⟨z, hz, h⟩ := List.any_eq_true.1 h
        cases hoz : ops[z]? with
        | none => rw [hoz] at h; cases h
        | some oz =>
          rw [hoz] at h
          exact hasX_in (hcl z oz (hd z hz) hoz) (fun x hm => hx z x (hd z hz) hm) h
    rcases List.mem_cons.1 hxm with rfl | hm
    · exact hy
    · exact ancX_in hcl hx hpre hpx r (y :: dn) (fun z hz => (List.mem_cons.1 hz).elim (fun e => e ▸ hy) (fun hz => hd z hz)) h.2 x hm
theorem lvlX_between (hk : certOkX X ops cs N = true) {i : Nat} {o : Oper} {c : Cert} (ho : ops[i]? = some o) (hc : cs[i]? = some c) (hca : CertX X ops cs i o c) {L : Nat → Bool} (hcl : Closed ops L) (hx : ClosedX X L) (hi : L i = false) (hpre : ∀ e ∈ o.after, Region.binds .any e = true → L e.on = true) (hpx : ∀ x, (i, x) ∈ X → L x = true) :
    loC cs i ≤ lvl cs L ∧ lvl cs L ≤ hiC cs i := by
  constructor
  · apply List.countP_mono_left
    intro j hj h
    have h1 : ancOf cs i = c.anc := by unfold ancOf; rw [hc]
    rw [h1] at h
    exact ancX_in hcl hx hpre hpx _ [] (fun y hy => by cases hy) hca.anc j (by simpa using h)
  · apply List.countP_mono_left
    intro j hj h
    have hne : j ≠ i := by rintro rfl; rw [hi] at h; cases h
    simp only [Bool.and_eq_true, bne_iff_ne, ne_eq, Bool.not_eq_true']
    refine ⟨hne, ?_⟩
    cases hxx : (ancOf cs j).contains i with
    | false => rfl
    | true =>
      exfalso
      cases hoj : ops[j]? with
      | none =>
        have hjl : j < cs.length := by
          have := List.mem_filter.1 hj
          exact List.mem_range.1 this.1
        have := (certX_at hk).1
        rw [Array.getElem?_eq_none_iff] at hoj
        omega
      | some oj =>
        obtain ⟨cj, hcj, hcaj⟩ := (certX_at hk).2.2 j oj hoj
        have h1 : ancOf cs j = cj.anc := by unfold ancOf; rw [hcj]
        rw [h1] at hxx
        have := ancX_in hcl hx (hcl j oj h hoj) (fun x hm => hx j x h hm) _ [] (fun y hy => by cases hy) hcaj.anc i (by simpa using hxx)
        rw [hi] at this; cases this
theorem stepX_atX {i : Nat} {o : Oper} {c : Cert} {K : Act → St → Prop} {a : Act} {A : St} (hc : cs[i]? = some c) (hca : CertX X ops cs i o c) (h : stepX P w0 o c H K a A) :
    ∃ v A1, (∀ k, loC cs i ≤ k → k ≤ hiC cs i → ∃ v', OpT P w0 o a (hs H k) (hs H (k + if isH cs i then 1 else 0)) v' ∧ a.put o.dst v' = a.put o.dst v) ∧ K (a.put o.dst v) A1 := by
  have hh : isH cs i = c.heavy := by unfold isH; rw [hc]
  rw [hh]
  unfold stepX at h
  split at h
  · exact h.elim
  · rename_i l ls hl
    cases hb : c.heavy with
    | true =>
      rw [hb, if_pos rfl] at h
      obtain ⟨h1, h2⟩ := h
      obtain ⟨g1, g2, g3⟩ := hca.heavy hb
      rw [hl, List.cons.injEq] at g3
      obtain ⟨v, h3, h4⟩ := stepT_opT h2
      refine ⟨v, _, fun k hk1 hk2 => ?_, h4⟩
      have : k = l := by omega
      subst this
      exact ⟨v, h3, rfl⟩
    | false =>
      rw [hb] at h
      simp only [Bool.false_eq_true, if_false, Nat.add_zero] at h ⊢
      split at h
      · rename_i hp
        obtain ⟨v, h3, h4⟩ := stepT_opT h
        refine ⟨v, _, fun k hk1 hk2 => ⟨v, ?_, rfl⟩, h4⟩
        unfold OpT at h3 ⊢
        split at h3
        · rename_i f args ts ho
          rw [ho] at hp; cases hp
        · exact h3.elim
        · exact h3.elim
        · exact pure_any hp h3 _
      · obtain ⟨v, h3, h4, h5⟩ := stepT_opT h
        refine ⟨v, _, fun k hk1 hk2 => ?_, h5⟩
        have hm := hca.lev k hk1 hk2
        rw [hl] at hm
        rcases List.mem_cons.1 hm with rfl | hm
        · exact ⟨v, h3, rfl⟩
        · obtain ⟨v', h6, h7⟩ := stepT_opT (allC_mem h4 k hm)
          exact ⟨v', h6, h7⟩

theorem aopsX_valsX (hok : drawOk ops = true) (hk : certOkX X ops cs N = true) : ∀ (m i : Nat), i + m = ops.size → ∀ {vals0 : Nat → Value} {A : St}, aopsX P w0 (ops.toList.map (·.dst)) Q H N (ops.toList.drop i) (cs.drop i) (E n (env ops vals0 ρ (below i)) ds) A →
    ∃ vals : Nat → Value, (∀ j, j < i → vals j = vals0 j) ∧ (∀ j o, i ≤ j → ops[j]? = some o → StepY P w0 (ops.toList.map (·.dst)) cs H j o (E n (env ops vals ρ (below j)) ds) (vals j)) ∧ Q .normal (E n (env ops vals ρ (below ops.size)) ds) (hs H N)
  | 0, i, hi, vals0, A, h => by
    rw [List.drop_of_length_le (l := ops.toList) (by simp; omega)] at h
    refine ⟨vals0, fun _ _ => rfl, fun j o hj ho => ?_, ?_⟩
    · have := (Array.getElem?_eq_some_iff.1 ho).1; omega
    · have : i = ops.size := by omega
      subst this
      rw [aopsX_nil] at h; exact h
  | m + 1, i, hi, vals0, A, h => by
    have hlt : i < ops.size := by omega
    have hoi : ops[i]? = some ops[i] := Array.getElem?_eq_getElem hlt
    obtain ⟨hlen, _, hat⟩ := certX_at hk
    obtain ⟨c, hc, hca⟩ := hat i _ hoi
    have hlt2 : i < cs.length := by omega
    have hci : cs[i] = c := by rw [List.getElem?_eq_getElem hlt2] at hc; cases hc; rfl
    rw [List.drop_eq_getElem_cons (l := ops.toList) (by simpa using hlt), List.drop_eq_getElem_cons (l := cs) hlt2] at h
    simp only [Array.getElem_toList, hci] at h
    have henv : ∀ (vals : Nat → Value), (∀ j, j < i → vals j = vals0 j) → env ops vals ρ (below i) = env ops vals0 ρ (below i) := by
      intro vals hv
      funext t
      unfold env
      split
      · rename_i j hj
        by_cases hji : j < i
        · simp [below, hji, hv j hji]
        · simp [below, hji]
      · rfl
    have go : ∀ v A1, StepY P w0 (ops.toList.map (·.dst)) cs H i ops[i] (E n (env ops vals0 ρ (below i)) ds) v → aopsX P w0 (ops.toList.map (·.dst)) Q H N (ops.toList.drop (i + 1)) (cs.drop (i + 1)) ((E n (env ops vals0 ρ (below i)) ds).put ops[i].dst v) A1 →
        ∃ vals : Nat → Value, (∀ j, j < i → vals j = vals0 j) ∧ (∀ j o, i ≤ j → ops[j]? = some o → StepY P w0 (ops.toList.map (·.dst)) cs H j o (E n (env ops vals ρ (below j)) ds) (vals j)) ∧ Q .normal (E n (env ops vals ρ (below ops.size)) ds) (hs H N) := by
      intro v A1 hst hk2
      obtain ⟨vals1, hv1⟩ : ∃ vals1 : Nat → Value, vals1 = fun j => if j = i then v else vals0 j := ⟨_, rfl⟩
      have e1 : env ops vals1 ρ (below i) = env ops vals0 ρ (below i) := henv _ fun j hj => by rw [hv1]; exact if_neg (by omega)
      have e2 : (E n (env ops vals0 ρ (below i)) ds).put ops[i].dst v = E n (env ops vals1 ρ (below (i + 1))) ds := by
        rw [below_succ, env_add hok hoi, put_EO, e1, hv1]; simp
      rw [e2] at hk2
      obtain ⟨vals, q1, q2, q3⟩ := aopsX_valsX hok hk m (i + 1) (by omega) hk2
      refine ⟨vals, fun j hj => ?_, fun j o hj ho => ?_, q3⟩
      · rw [q1 j (by omega), hv1]; exact if_neg (by omega)
      · by_cases hji : j = i
        · subst hji
          rw [hoi] at ho; cases ho
          rw [henv vals fun k hk => by rw [q1 k (by omega), hv1]; exact if_neg (by omega)]
          rw [q1 j (by omega), hv1]
          simpa using hst
        · exact q2 j o (by omega) ho
    rw [aopsX_cons] at h
    cases hw : wanted' (ops.toList.map (·.dst)) ops[i].guard (E n (env ops vals0 ρ (below i)) ds).tmps with
    | true =>
      rw [hw, ifB_true] at h
      obtain ⟨v, A1, h1, h2⟩ := stepX_atX hc hca h
      exact go v A1 (.inl ⟨hw, h1⟩) h2
    | false =>
      rw [hw, ifB_false, skipC_eq] at h
      refine go undef _ (.inr ⟨hw, ?_, rfl⟩) h
      unfold isH
      rw [hc]
      cases hb : c.heavy with
      | false => exact hb
      | true =>
        have := (hca.heavy hb).1
        rw [this] at hw
        cases hw


/-- A whole order of the operations: each behind what it hangs on. -/
def Vseq (X : List (Nat × Nat)) (ops : Array Oper) : (Nat → Bool) → List Nat → Prop
  | L, [] => ∀ j, j < ops.size → L j = true
  | L, i :: r => L i = false ∧ (∃ o, ops[i]? = some o ∧ ∀ e ∈ o.after, Region.binds .any e = true → L e.on = true) ∧ (∀ x, (i, x) ∈ X → L x = true) ∧ Vseq X ops (fun j => j == i || L j) r
theorem Vseq.more : ∀ {r : List Nat} {L : Nat → Bool} {j k : Nat}, L j = true → Vseq X ops L r → Vseq ((k, j) :: X) ops L r
  | [], L, j, k, _, h => h
  | i :: r, L, j, k, hj, ⟨h1, h2, h3, h4⟩ => ⟨h1, h2, fun x hx => by
      rcases List.mem_cons.1 hx with e | hx
      · cases e; exact hj
      · exact h3 x hx, Vseq.more (by simp [hj]) h4⟩
theorem Vseq.split : ∀ {r : List Nat} {L : Nat → Bool} {j k : Nat}, j ≠ k → j < ops.size → L j = false → L k = false → Vseq X ops L r → Vseq ((k, j) :: X) ops L r ∨ Vseq ((j, k) :: X) ops L r
  | [], L, j, k, _, hj, hf, _, h => by have := h j hj; rw [hf] at this; cases this
  | i :: r, L, j, k, hne, hj, hf, hg, ⟨h1, h2, h3, h4⟩ => by
    by_cases hij : i = j
    · subst hij
      refine .inl ⟨h1, h2, fun x hx => ?_, Vseq.more (by simp) h4⟩
      rcases List.mem_cons.1 hx with e | hx
      · cases e; exact absurd rfl hne
      · exact h3 x hx
    by_cases hik : i = k
    · subst hik
      refine .inr ⟨h1, h2, fun x hx => ?_, Vseq.more (by simp) h4⟩
      rcases List.mem_cons.1 hx with e | hx
      · cases e; exact absurd rfl hij
      · exact h3 x hx
    rcases Vseq.split hne hj (by simp [hf, Ne.symm hij]) (by simp [hg, Ne.symm hik]) h4 with h | h
    · refine .inl ⟨h1, h2, fun x hx => ?_, h⟩
      rcases List.mem_cons.1 hx with e | hx
      · cases e; exact absurd rfl hik
      · exact h3 x hx
    · refine .inr ⟨h1, h2, fun x hx => ?_, h⟩
      rcases List.mem_cons.1 hx with e | hx
      · cases e; exact absurd rfl hij
      · exact h3 x hx
/-- All orders that heed X come to Q. -/
def Ords (P : Program) (w0 : World) (nr : Bool) (ops : Array Oper) (Q : Exit → Act → St → Prop) (a : Act) (A : St) (X : List (Nat × Nat)) : Prop := ∀ l, Vseq X ops (fun _ => false) l → aopsI P w0 nr ops Q l a A
theorem Ords.split {a : Act} {A : St} (j k : Nat) (h : decide (j ≠ k) && decide (j < ops.size) = true) (h1 : Ords P w0 nr ops Q a A ((k, j) :: X)) (h2 : Ords P w0 nr ops Q a A ((j, k) :: X)) : Ords P w0 nr ops Q a A X := by
  simp only [Bool.and_eq_true, decide_eq_true_eq] at h
  intro l hl
  rcases Vseq.split h.1 h.2 rfl rfl hl with h | h
  · exact h1 l h
  · exact h2 l h
theorem drawX_go {vals : Nat → Value} (hok : drawOk ops = true) (hk : certOkX X ops cs N = true) (hv : ∀ j o, ops[j]? = some o → StepY P w0 (ops.toList.map (·.dst)) cs H j o (E n (env ops vals ρ (below j)) ds) (vals j)) (hq : Q .normal (E n (env ops vals ρ (below ops.size)) ds) (hs H N)) :
    ∀ (r : List Nat) (L : Nat → Bool), Closed ops L → ClosedX X L → Vseq X ops L r → aopsI P w0 nr ops Q r (E n (env ops vals ρ L) ds) (hs H (lvl cs L))
  | [], L, hcl, hx, hall => by
    simp only [aopsI]
    have : env ops vals ρ L = env ops vals ρ (below ops.size) := by
      funext t
      unfold env
      cases hx : dIx ops t with
      | none => rfl
      | some j =>
        obtain ⟨o, ho, _⟩ := dIx_some hx
        have hj := (Array.getElem?_eq_some_iff.1 ho).1
        simp only [hall j hj, below, hj, decide_true]
    rw [this]
    have h2 : lvl cs L = N := by
      rw [(certX_at hk).2.1]
      unfold lvl
      rw [List.countP_eq_length]
      intro j hj
      have h3 := List.mem_range.1 (List.mem_filter.1 hj).1
      have h4 := (certX_at hk).1
      exact hall j (by omega)
    rw [h2]; exact hq
  | i :: r, L, hcl, hx, ⟨hif, ⟨o, ho, hpre'⟩, hpx, h4⟩ => by
    have hilt : i < ops.size := (Array.getElem?_eq_some_iff.1 ho).1
    have hstep := (hv i o ho).at (ρ2 := env ops vals ρ L) fun u hu => env_sees hok ho hif hpre' hcl hu
    obtain ⟨hlen, _, hat⟩ := certX_at hk
    obtain ⟨c, hcc, hca⟩ := hat i o ho
    have hbt := lvlX_between hk ho hcc hca hcl hx hif hpre' hpx
    have hla := lvl_add (cs := cs) (L := L) hif (by omega)
    have hnext := drawX_go hok hk hv hq r (fun j => j == i || L j) (fun j oj hj hoj e he hb => by
        simp only [Bool.or_eq_true, beq_iff_eq] at hj ⊢
        by_cases hji : j = i
        · subst hji
          rw [ho] at hoj; cases hoj
          exact .inr (hpre' e he hb)
        · exact .inr (hcl j oj (by simpa [hji] using hj) hoj e he hb)) (fun j x hj hm => by
        simp only [Bool.or_eq_true, beq_iff_eq] at hj ⊢
        by_cases hji : j = i
        · subst hji
          exact .inr (hpx x hm)
        · exact .inr (hx j x (by simpa [hji] using hj) hm)) h4
    rw [env_add hok ho, hla] at hnext
    simp only [aopsI, ho]
    rw [wanted_eq]
    rcases hstep with ⟨h1, h2⟩ | ⟨h1, h2, h3⟩
    · rw [if_pos h1]
      obtain ⟨v', h4, h5⟩ := h2 _ hbt.1 hbt.2
      exact h4.aoper nr Q (by rw [h5, put_EO]; exact hnext)
    · rw [if_neg (by rw [h1]; decide), put_EO]
      rw [h2, if_neg (by decide), Nat.add_zero, h3] at hnext
      exact hnext
theorem lin_vseq {md : Region.Mode} (hok : drawOk ops = true) : ∀ (fuel t : Nat) (listed : Array Bool), listed.size = ops.size → listed.toList.count false ≤ fuel → Vseq [] ops (fun j => listed.getD j false) (Region.linearise.go md ops fuel t listed []) := by
  intro fuel
  induction fuel with
  | zero =>
    intro t listed hs1 hc
    simp only [Region.linearise.go, List.reverse_nil, Vseq]
    intro j hj
    have h0 : listed.toList.count false = 0 := by omega
    rw [List.count_eq_zero] at h0
    have hj' : j < listed.size := by omega
    cases hb : listed.getD j false with
    | true => rfl
    | false =>
      exfalso
      apply h0
      have : listed.getD j false = listed[j] := by simp [Array.getD, hj']
      rw [this] at hb
      rw [← hb]
      exact Array.getElem_mem_toList hj'
  | succ fuel ih =>
    intro t listed hs1 hc
    simp only [Region.linearise.go]
    change Vseq [] ops _ (match (Region.ready md ops listed)[t % (Region.ready md ops listed).length]? with
      | some i => Region.linearise.go md ops fuel (t / (Region.ready md ops listed).length) (listed.setIfInBounds i true) [i]
      | none => [].reverse)
    cases hi : (Region.ready md ops listed)[t % (Region.ready md ops listed).length]? with
    | none =>
      have hnil : Region.ready md ops listed = [] := by
        cases hr : Region.ready md ops listed with
        | nil => rfl
        | cons x xs =>
          rw [hr] at hi
          have hlt : t % (x :: xs).length < (x :: xs).length := Nat.mod_lt _ (by simp)
          rw [List.getElem?_eq_none_iff] at hi
          omega
      simp only [List.reverse_nil, Vseq]
      intro j
      induction j using Nat.strongRecOn with
      | _ j ihj =>
        intro hj
        cases hb : listed.getD j false with
        | true => rfl
        | false =>
          exfalso
          exact not_stuck hok (by omega) hj hb (fun k hk => ihj k hk (by omega)) hnil
    | some i =>
      simp only []
      rw [linearise_go_acc, List.reverse_singleton, List.singleton_append]
      have hmem := mem_ready.1 (List.mem_of_getElem? hi)
      obtain ⟨hun, o, ho, hpre⟩ := hmem
      have hilt : i < ops.size := (Array.getElem?_eq_some_iff.1 ho).1
      have hil : i < listed.size := by omega
      have hif : listed.getD i false = false := by
        have h1 : listed.getD i false = listed[i] := by simp [Array.getD, hil]
        have h2 : listed.getD i true = listed[i] := by simp [Array.getD, hil]
        rw [h1, ← h2]; exact hun
      have hset : (fun j => (listed.setIfInBounds i true).getD j false) = fun j => j == i || listed.getD j false := by
        funext j
        by_cases hji : j = i
        · subst hji; simp [Array.getD, hil]
        · rw [getD_set_ne false (Ne.symm hji)]; simp [hji]
      have hpre' : ∀ e ∈ o.after, Region.binds .any e = true → listed.getD e.on false = true := fun e he hb => hpre e he (binds_any hb)
      have hnext := ih (t / (Region.ready md ops listed).length) (listed.setIfInBounds i true) (by simpa using hs1) (by
          have h1 : listed.toList.count false = (listed.toList.set i true).count false + 1 := by
            have hpos : 0 < listed.toList.count false := by
              rw [List.count_pos_iff]
              have h1 : listed.getD i false = listed[i] := by simp [Array.getD, hil]
              rw [← hif, h1]
              exact Array.getElem_mem_toList hil
            have h3 : listed[i] = false := by
              have h1 : listed.getD i false = listed[i] := by simp [Array.getD, hil]
              rw [← h1]; exact hif
            rw [List.count_set (by simpa using hil)]
            have h4 : listed.toList[i]'(by simpa using hil) = false := by rw [Array.getElem_toList]; exact h3
            rw [h4, if_pos (by decide), if_neg (by decide)]
            omega
          rw [Array.toList_setIfInBounds]
          omega)
      rw [hset] at hnext
      exact ⟨hif, ⟨o, ho, hpre'⟩, fun x hx => (by cases hx), hnext⟩
/-- **A drawn region**, by cases of its orders. -/
theorem aw_drawS {id : Nat} {a : Act} {A : St} (hok : drawOk ops = true) (h : Ords P w0 nr ops Q a A []) : AW P w0 n0 nr (.region id ops true) Q a A := by
  refine aw_region_draw fun t => ?_
  have key : ∀ (md : Region.Mode) (t : Nat), aopsI P w0 nr ops Q (Region.linearise md ops t) a A := by
    intro md t
    refine h _ ?_
    have := lin_vseq (md := md) hok ops.size t (Array.replicate ops.size false) (by simp) (by simp)
    have he0 : (fun j => (Array.replicate ops.size false).getD j false) = fun _ => false := by
      funext j
      simp [Array.getElem?_replicate]
      split <;> rfl
    rw [he0] at this
    exact this
  unfold Region.schedule
  split
  · exact key _ _
  · exact key _ _
/-- One order of the heavy operations. -/
theorem Ords.run {A : St} (cs : List Cert) (H : List St) (N : Nat) (hok : drawOk ops = true) (hk : certOkX X ops cs N = true) (hA : hs H 0 = A) (h : aopsX P w0 (ops.toList.map (·.dst)) Q H N ops.toList cs (E n ρ ds) A) : Ords P w0 nr ops Q (E n ρ ds) A X := by
  intro l hl
  obtain ⟨vals, _, h2, h3⟩ := aopsX_valsX (vals0 := fun _ => undef) (ρ := ρ) (n := n) (ds := ds) hok hk ops.size 0 (by omega) (by rw [env_zero, List.drop_zero, List.drop_zero]; exact h)
  have := drawX_go (nr := nr) hok hk (fun j o ho => h2 j o (Nat.zero_le _) ho) h3 l (fun _ => false) (fun j oj hj => by cases hj) (fun j x hj => by cases hj) hl
  have he : env ops vals ρ (fun _ => false) = ρ := by
    funext u
    unfold env
    split <;> simp
  have hl : lvl cs (fun _ => false) = 0 := by
    unfold lvl; rw [List.countP_eq_zero]; simp
  rw [he, hl, hA] at this
  exact this
end
end Go.Fw
