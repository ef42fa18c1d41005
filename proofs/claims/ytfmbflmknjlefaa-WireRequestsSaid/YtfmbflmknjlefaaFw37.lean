import Derived.Test.YtfmbflmknjlefaaFw36
/-! Drawn regions whose heavy operations have guards: these must hold. -/
set_option linter.unusedSimpArgs false
set_option linter.unusedVariables false
namespace Go.Fw
open Go.RowKit
def certOkG (X : List (Nat × Nat)) (ops : Array Oper) (cs : List Cert) (n : Nat) : Bool :=
  cs.length == ops.size && n == (hvs cs).length && (List.range ops.size).all fun i =>
    match ops[i]?, cs[i]? with
    | some o, some c =>
      ancGo X ops i o [] c.anc &&
      (List.range (hiC cs i + 1)).all (fun k => decide (k < loC cs i) || c.lev.contains k) &&
      (!c.heavy || (loC cs i == hiC cs i && c.lev == [loC cs i]))
    | _, _ => false
def skipG (c : Cert) (o : Oper) (K : Act → St → Prop) (a : Act) (A : St) : Prop := if c.heavy = true then False else skipC o K a A
theorem skipG_light (anc : List Nat) (lv : List Nat) (o : Oper) (K : Act → St → Prop) (a : Act) (A : St) : skipG ⟨false, anc, lv⟩ o K a A = skipC o K a A := by simp [skipG]
def aopsG (P : Program) (w0 : World) (ds : List (Option Tmp)) (Q : Exit → Act → St → Prop) (H : List St) (n : Nat) : List Oper → List Cert → Act → St → Prop
  | [], _, a, _ => Q .normal a (hs H n)
  | _ :: _, [], _, _ => False
  | o :: rest, c :: cs, a, A => ifB (wanted' ds o.guard a.tmps) (stepX P w0 o c H (aopsG P w0 ds Q H n rest cs)) (skipG c o (aopsG P w0 ds Q H n rest cs)) a A
theorem aopsG_nil (P : Program) (w0 : World) (ds : List (Option Tmp)) (Q : Exit → Act → St → Prop) (H : List St) (n : Nat) (cs : List Cert) (a : Act) (A : St) : aopsG P w0 ds Q H n [] cs a A = Q .normal a (hs H n) := Eq.trans rfl rfl
theorem aopsG_cons (P : Program) (w0 : World) (ds : List (Option Tmp)) (Q : Exit → Act → St → Prop) (H : List St) (n : Nat) (o : Oper) (rest : List Oper) (c : Cert) (cs : List Cert) (a : Act) (A : St) : aopsG P w0 ds Q H n (o :: rest) (c :: cs) a A = ifB (wanted' ds o.guard a.tmps) (stepX P w0 o c H (aopsG P w0 ds Q H n rest cs)) (skipG c o (aopsG P w0 ds Q H n rest cs)) a A := Eq.trans rfl rfl
section
variable {P : Program} {w0 : World} {n0 n N : Nat} {nr : Bool} {Q : Exit → Act → St → Prop} {ops : Array Oper} {cs : List Cert} {ρ : Nat → Value} {ds : List Deferred} {H : List St} {X : List (Nat × Nat)}
structure CertG (X : List (Nat × Nat)) (ops : Array Oper) (cs : List Cert) (i : Nat) (o : Oper) (c : Cert) : Prop where
  anc : ancGo X ops i o [] c.anc = true
  lev : ∀ k, loC cs i ≤ k → k ≤ hiC cs i → k ∈ c.lev
  heavy : c.heavy = true → loC cs i = hiC cs i ∧ c.lev = [loC cs i]
theorem certG_at (h : certOkG X ops cs N = true) : cs.length = ops.size ∧ N = (hvs cs).length ∧ ∀ i o, ops[i]? = some o → ∃ c, cs[i]? = some c ∧ CertG X ops cs i o c := by
  unfold certOkG at h
  simp only [Bool.and_eq_true, beq_iff_eq] at h
  obtain ⟨⟨h1, h2⟩, h3⟩ := h
  refine ⟨h1, h2, fun i o ho => ?_⟩
  have hi : i < ops.size := (Array.getElem?_eq_some_iff.1 ho).1
  have h4 := List.all_eq_true.1 h3 i (List.mem_range.2 hi)
  rw [ho] at h4
  cases hc : cs[i]? with
  | none => rw [hc] at h4; simp at h4
  | some c =>
    rw [hc] at h4
    simp only [Bool.and_eq_true] at h4
    obtain ⟨⟨h5, h6⟩, h7⟩ := h4
    refine ⟨c, rfl, ⟨h5, fun k hk1 hk2 => ?_, fun hh => ?_⟩⟩
    · have := List.all_eq_true.1 h6 k (List.mem_range.2 (by omega))
      simp only [Bool.or_eq_true, decide_eq_true_eq] at this
      rcases this with h | h
      · omega
      · simpa using h
    · rw [hh] at h7
      simp only [Bool.not_true, Bool.false_or, Bool.and_eq_true, beq_iff_eq, ] at h7
      exact h7
theorem lvlG_between (hk : certOkG X ops cs N = true) {i : Nat} {o : Oper} {c : Cert} (ho : ops[i]? = some o) (hc : cs[i]? = some c) (hca : CertG X ops cs i o c) {L : Nat → Bool} (hcl : Closed ops L) (hx : ClosedX X L) (hi : L i = false) (hpre : ∀ e ∈ o.after, Region.binds .any e = true → L e.on = true) (hpx : ∀ x, (i, x) ∈ X → L x = true) :
    loC cs i ≤ lvl cs L ∧ lvl cs L ≤ hiC cs i := by
  constructor
  · apply List.countP_mono_left
    intro j hj h
    have h1 : ancOf cs i = c.anc := by unfold ancOf; rw [hc]
    rw [h1] at h
    exact ancX_in hcl hx hpre hpx _ [] (fun y hy => by cases hy) hca.anc j (by simpa using h)
  · apply List.countP_mono_left
    intro j hj h
    have hne : j ≠ i := by rintro rfl; rw [hi] at h; cases h
    simp only [Bool.and_eq_true, bne_iff_ne, ne_eq, Bool.not_eq_true']
    refine ⟨hne, ?_⟩
    cases hxx : (ancOf cs j).contains i with
    | false => rfl
    | true =>
      exfalso
      cases hoj : ops[j]? with
      | none =>
        have hjl : j < cs.length := by
          have := List.mem_filter.1 hj
          exact List.mem_range.1 this.1
        have := (certG_at hk).1
        rw [Array.getElem?_eq_none_iff] at hoj
        omega
      | some oj =>
        obtain ⟨cj, hcj, hcaj⟩ := (certG_at hk).2.2 j oj hoj
        have h1 : ancOf cs j = cj.anc := by unfold ancOf; rw [hcj]
        rw [h1] at hxx
        have := ancX_in hcl hx (hcl j oj h hoj) (fun x hm => hx j x h hm) _ [] (fun y hy => by cases hy) hcaj.anc i (by simpa using hxx)
        rw [hi] at this; cases this
theorem stepG_atX {i : Nat} {o : Oper} {c : Cert} {K : Act → St → Prop} {a : Act} {A : St} (hc : cs[i]? = some c) (hca : CertG X ops cs i o c) (h : stepX P w0 o c H K a A) :
    ∃ v A1, (∀ k, loC cs i ≤ k → k ≤ hiC cs i → ∃ v', OpT P w0 o a (hs H k) (hs H (k + if isH cs i then 1 else 0)) v' ∧ a.put o.dst v' = a.put o.dst v) ∧ K (a.put o.dst v) A1 := by
  have hh : isH cs i = c.heavy := by unfold isH; rw [hc]
  rw [hh]
  unfold stepX at h
  split at h
  · exact h.elim
  · rename_i l ls hl
    cases hb : c.heavy with
    | true =>
      rw [hb, if_pos rfl] at h
      obtain ⟨h1, h2⟩ := h
      obtain ⟨g2, g3⟩ := hca.heavy hb
      rw [hl, List.cons.injEq] at g3
      obtain ⟨v, h3, h4⟩ := stepT_opT h2
      refine ⟨v, _, fun k hk1 hk2 => ?_, h4⟩
      have : k = l := by omega
      subst this
      exact ⟨v, h3, rfl⟩
    | false =>
      rw [hb] at h
      simp only [Bool.false_eq_true, if_false, Nat.add_zero] at h ⊢
      split at h
      · rename_i hp
        obtain ⟨v, h3, h4⟩ := stepT_opT h
        refine ⟨v, _, fun k hk1 hk2 => ⟨v, ?_, rfl⟩, h4⟩
        unfold OpT at h3 ⊢
        split at h3
        · rename_i f args ts ho
          rw [ho] at hp; cases hp
        · exact h3.elim
        · exact h3.elim
        · exact pure_any hp h3 _
      · obtain ⟨v, h3, h4, h5⟩ := stepT_opT h
        refine ⟨v, _, fun k hk1 hk2 => ?_, h5⟩
        have hm := hca.lev k hk1 hk2
        rw [hl] at hm
        rcases List.mem_cons.1 hm with rfl | hm
        · exact ⟨v, h3, rfl⟩
        · obtain ⟨v', h6, h7⟩ := stepT_opT (allC_mem h4 k hm)
          exact ⟨v', h6, h7⟩

theorem aopsG_valsG (hok : drawOk ops = true) (hk : certOkG X ops cs N = true) : ∀ (m i : Nat), i + m = ops.size → ∀ {vals0 : Nat → Value} {A : St}, aopsG P w0 (ops.toList.map (·.dst)) Q H N (ops.toList.drop i) (cs.drop i) (E n (env ops vals0 ρ (below i)) ds) A →
    ∃ vals : Nat → Value, (∀ j, j < i → vals j = vals0 j) ∧ (∀ j o, i ≤ j → ops[j]? = some o → StepY P w0 (ops.toList.map (·.dst)) cs H j o (E n (env ops vals ρ (below j)) ds) (vals j)) ∧ Q .normal (E n (env ops vals ρ (below ops.size)) ds) (hs H N)
  | 0, i, hi, vals0, A, h => by
    rw [List.drop_of_length_le (l := ops.toList) (by simp; omega)] at h
    refine ⟨vals0, fun _ _ => rfl, fun j o hj ho => ?_, ?_⟩
    · have := (Array.getElem?_eq_some_iff.1 ho).1; omega
    · have : i = ops.size := by omega
      subst this
      rw [aopsG_nil] at h; exact h
  | m + 1, i, hi, vals0, A, h => by
    have hlt : i < ops.size := by omega
    have hoi : ops[i]? = some ops[i] := Array.getElem?_eq_getElem hlt
    obtain ⟨hlen, _, hat⟩ := certG_at hk
    obtain ⟨c, hc, hca⟩ := hat i _ hoi
    have hlt2 : i < cs.length := by omega
    have hci : cs[i] = c := by rw [List.getElem?_eq_getElem hlt2] at hc; cases hc; rfl
    rw [List.drop_eq_getElem_cons (l := ops.toList) (by simpa using hlt), List.drop_eq_getElem_cons (l := cs) hlt2] at h
    simp only [Array.getElem_toList, hci] at h
    have henv : ∀ (vals : Nat → Value), (∀ j, j < i → vals j = vals0 j) → env ops vals ρ (below i) = env ops vals0 ρ (below i) := by
      intro vals hv
      funext t
      unfold env
      split
      · rename_i j hj
        by_cases hji : j < i
        · simp [below, hji, hv j hji]
        · simp [below, hji]
      · rfl
    have go : ∀ v A1, StepY P w0 (ops.toList.map (·.dst)) cs H i ops[i] (E n (env ops vals0 ρ (below i)) ds) v → aopsG P w0 (ops.toList.map (·.dst)) Q H N (ops.toList.drop (i + 1)) (cs.drop (i + 1)) ((E n (env ops vals0 ρ (below i)) ds).put ops[i].dst v) A1 →
        ∃ vals : Nat → Value, (∀ j, j < i → vals j = vals0 j) ∧ (∀ j o, i ≤ j → ops[j]? = some o → StepY P w0 (ops.toList.map (·.dst)) cs H j o (E n (env ops vals ρ (below j)) ds) (vals j)) ∧ Q .normal (E n (env ops vals ρ (below ops.size)) ds) (hs H N) := by
      intro v A1 hst hk2
      obtain ⟨vals1, hv1⟩ : ∃ vals1 : Nat → Value, vals1 = fun j => if j = i then v else vals0 j := ⟨_, rfl⟩
      have e1 : env ops vals1 ρ (below i) = env ops vals0 ρ (below i) := henv _ fun j hj => by rw [hv1]; exact if_neg (by omega)
      have e2 : (E n (env ops vals0 ρ (below i)) ds).put ops[i].dst v = E n (env ops vals1 ρ (below (i + 1))) ds := by
        rw [below_succ, env_add hok hoi, put_EO, e1, hv1]; simp
      rw [e2] at hk2
      obtain ⟨vals, q1, q2, q3⟩ := aopsG_valsG hok hk m (i + 1) (by omega) hk2
      refine ⟨vals, fun j hj => ?_, fun j o hj ho => ?_, q3⟩
      · rw [q1 j (by omega), hv1]; exact if_neg (by omega)
      · by_cases hji : j = i
        · subst hji
          rw [hoi] at ho; cases ho
          rw [henv vals fun k hk => by rw [q1 k (by omega), hv1]; exact if_neg (by omega)]
          rw [q1 j (by omega), hv1]
          simpa using hst
        · exact q2 j o (by omega) ho
    rw [aopsG_cons] at h
    cases hw : wanted' (ops.toList.map (·.dst)) ops[i].guard (E n (env ops vals0 ρ (below i)) ds).tmps with
    | true =>
      rw [hw, ifB_true] at h
      obtain ⟨v, A1, h1, h2⟩ := stepG_atX hc hca h
      exact go v A1 (.inl ⟨hw, h1⟩) h2
    | false =>
      rw [hw, ifB_false] at h
      unfold skipG at h
      cases hb : c.heavy with
      | true => rw [hb, if_pos rfl] at h; exact h.elim
      | false =>
        rw [hb, if_neg (by decide), skipC_eq] at h
        refine go undef _ (.inr ⟨hw, ?_, rfl⟩) h
        unfold isH
        rw [hc]
        exact hb
theorem drawG_go {vals : Nat → Value} (hok : drawOk ops = true) (hk : certOkG X ops cs N = true) (hv : ∀ j o, ops[j]? = some o → StepY P w0 (ops.toList.map (·.dst)) cs H j o (E n (env ops vals ρ (below j)) ds) (vals j)) (hq : Q .normal (E n (env ops vals ρ (below ops.size)) ds) (hs H N)) :
    ∀ (r : List Nat) (L : Nat → Bool), Closed ops L → ClosedX X L → Vseq X ops L r → aopsI P w0 nr ops Q r (E n (env ops vals ρ L) ds) (hs H (lvl cs L))
  | [], L, hcl, hx, hall => by
    simp only [aopsI]
    have : env ops vals ρ L = env ops vals ρ (below ops.size) := by
      funext t
      unfold env
      cases hx : dIx ops t with
      | none => rfl
      | some j =>
        obtain ⟨o, ho, _⟩ := dIx_some hx
        have hj := (Array.getElem?_eq_some_iff.1 ho).1
        simp only [hall j hj, below, hj, decide_true]
    rw [this]
    have h2 : lvl cs L = N := by
      rw [(certG_at hk).2.1]
      unfold lvl
      rw [List.countP_eq_length]
      intro j hj
      have h3 := List.mem_range.1 (List.mem_filter.1 hj).1
      have h4 := (certG_at hk).1
      exact hall j (by omega)
    rw [h2]; exact hq
  | i :: r, L, hcl, hx, ⟨hif, ⟨o, ho, hpre'⟩, hpx, h4⟩ => by
    have hilt : i < ops.size := (Array.getElem?_eq_some_iff.1 ho).1
    have hstep := (hv i o ho).at (ρ2 := env ops vals ρ L) fun u hu => env_sees hok ho hif hpre' hcl hu
    obtain ⟨hlen, _, hat⟩ := certG_at hk
    obtain ⟨c, hcc, hca⟩ := hat i o ho
    have hbt := lvlG_between hk ho hcc hca hcl hx hif hpre' hpx
    have hla := lvl_add (cs := cs) (L := L) hif (by omega)
    have hnext := drawG_go hok hk hv hq r (fun j => j == i || L j) (fun j oj hj hoj e he hb => by
        simp only [Bool.or_eq_true, beq_iff_eq] at hj ⊢
        by_cases hji : j = i
        · subst hji
          rw [ho] at hoj; cases hoj
          exact .inr (hpre' e he hb)
        · exact .inr (hcl j oj (by simpa [hji] using hj) hoj e he hb)) (fun j x hj hm => by
        simp only [Bool.or_eq_true, beq_iff_eq] at hj ⊢
        by_cases hji : j = i
        · subst hji
          exact .inr (hpx x hm)
        · exact .inr (hx j x (by simpa [hji] using hj) hm)) h4
    rw [env_add hok ho, hla] at hnext
    simp only [aopsI, ho]
    rw [wanted_eq]
    rcases hstep with ⟨h1, h2⟩ | ⟨h1, h2, h3⟩
    · rw [if_pos h1]
      obtain ⟨v', h4, h5⟩ := h2 _ hbt.1 hbt.2
      exact h4.aoper nr Q (by rw [h5, put_EO]; exact hnext)
    · rw [if_neg (by rw [h1]; decide), put_EO]
      rw [h2, if_neg (by decide), Nat.add_zero, h3] at hnext
      exact hnext
/-- One order of the heavy operations. -/
theorem Ords.runG {A : St} (cs : List Cert) (H : List St) (N : Nat) (hok : drawOk ops = true) (hk : certOkG X ops cs N = true) (hA : hs H 0 = A) (h : aopsG P w0 (ops.toList.map (·.dst)) Q H N ops.toList cs (E n ρ ds) A) : Ords P w0 nr ops Q (E n ρ ds) A X := by
  intro l hl
  obtain ⟨vals, _, h2, h3⟩ := aopsG_valsG (vals0 := fun _ => undef) (ρ := ρ) (n := n) (ds := ds) hok hk ops.size 0 (by omega) (by rw [env_zero, List.drop_zero, List.drop_zero]; exact h)
  have := drawG_go (nr := nr) hok hk (fun j o ho => h2 j o (Nat.zero_le _) ho) h3 l (fun _ => false) (fun j oj hj => by cases hj) (fun j x hj => by cases hj) hl
  have he : env ops vals ρ (fun _ => false) = ρ := by
    funext u
    unfold env
    split <;> simp
  have hl : lvl cs (fun _ => false) = 0 := by
    unfold lvl; rw [List.countP_eq_zero]; simp
  rw [he, hl, hA] at this
  exact this
end
end Go.Fw
