import Derived.Test.YtpjacnialnlilaaFwPre20
set_option linter.unusedSimpArgs false
set_option linter.unusedVariables false
set_option maxRecDepth 4000
namespace Go.Fw
open Go.Proofs Go.RowKit
/-! Light weights: no word is too long. -/
def phi : Nat → Nat
  | 0 => 1
  | 1 => 2
  | n + 2 => phi (n + 1) + phi n
theorem phi_succ : ∀ n, phi n ≤ phi (n + 1)
  | 0 => by decide
  | 1 => by decide
  | n + 2 => by
    have := phi_succ n
    have e : phi (n + 2 + 1) = phi (n + 2) + phi (n + 1) := rfl
    omega
theorem phi_mono {a b : Nat} (h : a ≤ b) : phi a ≤ phi b := by
  induction h with
  | refl => exact Nat.le_refl _
  | step h ih => exact Nat.le_trans ih (phi_succ _)
def FT : HT → Prop
  | .leaf w _ => 1 ≤ w
  | .br w a b => FT a ∧ FT b ∧ (phi (max a.ht b.ht + 1) : Int) ≤ w
theorem FT.le : ∀ {t : HT}, FT t → (phi t.ht : Int) ≤ t.wt
  | .leaf w s, h => h
  | .br w a b, h => h.2.2
def kidsLe (y : Int) : HT → Prop
  | .leaf _ _ => True
  | .br _ a b => a.wt ≤ y ∧ b.wt ≤ y
structure FQ (Q : List HT) : Prop where
  ft : ∀ t ∈ Q, FT t
  top : ∃ y : Int, (∀ t ∈ Q, y ≤ t.wt) ∧ ∀ t ∈ Q, kidsLe y t
theorem ft_pair {y : Int} {c s : HT} (hc : FT c) (hs : FT s) (hk : kidsLe y c) (hy : y ≤ s.wt) : (phi (c.ht + 1) : Int) ≤ c.wt + s.wt := by
  have h1 := hc.le
  have h2 := hs.le
  have h0 : 1 ≤ phi s.ht := phi_mono (a := 0) (Nat.zero_le _)
  match c, hc, hk, h1 with
  | .leaf w j, hc, _, h1 =>
    have e : phi ((HT.leaf w j).ht + 1) = 2 := rfl
    have : (1 : Int) ≤ w := hc
    rw [e]
    show (2 : Int) ≤ w + s.wt
    omega
  | .br w a b, hc, hk, h1 =>
    have e : (HT.br w a b).ht = max a.ht b.ht + 1 := rfl
    rw [e] at h1 ⊢
    have e2 : phi (max a.ht b.ht + 1 + 1) = phi (max a.ht b.ht + 1) + phi (max a.ht b.ht) := rfl
    have ha := hc.1.le
    have hb := hc.2.1.le
    have hk1 : a.wt ≤ y := hk.1
    have hk2 : b.wt ≤ y := hk.2
    rw [e2]
    rcases Nat.le_total a.ht b.ht with h | h
    · rw [Nat.max_eq_right h] at *; omega
    · rw [Nat.max_eq_left h] at *; omega
theorem FQ.step {a b : HT} {Q : List HT} (h : FQ (a :: b :: Q)) (hs : Srtd HT.wt (a :: b :: Q)) : FQ (insK HT.wt Q (.br (a.wt + b.wt) a b)) := by
  obtain ⟨y, h1, h2⟩ := h.top
  unfold Srtd at hs
  rw [List.pairwise_cons, List.pairwise_cons] at hs
  have hab : a.wt ≤ b.wt := hs.1 b (by simp)
  have fa := h.ft a (by simp)
  have fb := h.ft b (by simp)
  have ya := h1 a (by simp)
  have yb := h1 b (by simp)
  have pa : 1 ≤ phi a.ht := phi_mono (a := 0) (Nat.zero_le _)
  have la := fa.le
  refine ⟨fun t ht => ?_, b.wt, fun t ht => ?_, fun t ht => ?_⟩
  · rcases insK_memH.1 ht with rfl | ht
    · refine ⟨fa, fb, ?_⟩
      rcases Nat.le_total a.ht b.ht with h | h
      · rw [Nat.max_eq_right h]
        have := ft_pair fb fa (h2 b (by simp)) ya
        omega
      · rw [Nat.max_eq_left h]
        exact ft_pair fa fb (h2 a (by simp)) yb
    · exact h.ft t (by simp [ht])
  · rcases insK_memH.1 ht with rfl | ht
    · show b.wt ≤ a.wt + b.wt; omega
    · exact hs.2.1 t ht
  · rcases insK_memH.1 ht with rfl | ht
    · exact ⟨hab, Int.le_refl _⟩
    · have := h2 t (by simp [ht])
      cases t with
      | leaf w s => trivial
      | br w c d => exact ⟨Int.le_trans this.1 yb, Int.le_trans this.2 yb⟩
theorem FQ.huff : ∀ (n : Nat) (Q : List HT), Srtd HT.wt Q → FQ Q → FQ (huff n Q)
  | 0, Q, _, h => h
  | n + 1, [], _, h => h
  | n + 1, [a], _, h => h
  | n + 1, a :: b :: Q, hs, h => FQ.huff n _ (insH_srtd hs.tail2 _) (h.step hs)
theorem FQ.init (f : List Int) : FQ (srtK HT.wt (leafs f 0)) := by
  have hm : ∀ t ∈ srtK HT.wt (leafs f 0), ∃ x j, t = .leaf x j ∧ 0 < x := fun t ht => by
    obtain ⟨x, j, e, h, _⟩ := leafs_mem (((srtK_same (k := HT.wt) (leafs f 0)).mem t).2 ht)
    exact ⟨x, j, e, h⟩
  refine ⟨fun t ht => ?_, 0, fun t ht => ?_, fun t ht => ?_⟩
  · obtain ⟨x, j, rfl, h⟩ := hm t ht
    show 1 ≤ x; omega
  · obtain ⟨x, j, rfl, h⟩ := hm t ht
    show 0 ≤ x; omega
  · obtain ⟨x, j, rfl, h⟩ := hm t ht
    trivial
/-- Few and light: never halved. -/
theorem light_ok {f : List Int} (hf : ∀ x ∈ f, 0 ≤ x ∧ x ≤ 8) (hn : f.length ≤ 100) : okL (grownP f) 15 = true := by
  refine grownP_le (lim := 15) (by decide) fun t ht => ?_
  have e2 : huff f.length (srtK HT.wt (leafs f 0)) = [t] := ht
  have hq := FQ.huff f.length _ (srtK_srtd _) (FQ.init f)
  rw [e2] at hq
  have h1 := (hq.ft t (by simp)).le
  have e := sumG_huff HT.wt (fun _ _ => rfl) f.length (srtK HT.wt (leafs f 0))
  rw [e2, sumG_cons, sumG_nil, sumG_srtK] at e
  have hs := sumG_le HT.wt 8 (l := leafs f 0) fun t ht => by
    obtain ⟨x, j, rfl, _, h, _⟩ := leafs_mem ht
    exact (hf x h).2
  have hl := leafs_len f 0
  rcases Nat.lt_or_ge 15 t.ht with h | h
  · have h2 := phi_mono (show 14 ≤ t.ht by omega)
    have h3 : phi 14 = 987 := rfl
    omega
  · exact h
theorem lenF_first {f : List Int} {lim : Int} (h : okL (grownP f) lim = true) (j : Nat) : lenF j f lim = grownP f := by
  cases j with
  | zero => rfl
  | succ j => rw [lenF, if_pos h]
theorem lenF_order {f : List Int} (hf : ∀ x ∈ f, 0 ≤ x ∧ x ≤ 8) (hn : f.length ≤ 100) {i k : Nat} {x y p q : Int} (hi : f[i]? = some x) (hk : f[k]? = some y) (hxy : y < x) (hy : 0 < y) (hp : (lenF 20 f 15)[i]? = some p) (hq : (lenF 20 f 15)[k]? = some q) : p ≤ q := by
  rw [lenF_first (light_ok hf hn)] at hp hq
  have h0 : leafs f 0 ≠ [] := fun h => by
    have := hufP_used (f := f) (s := k) ⟨y, hk, hy⟩
    rw [hufP_none h, sumG_nil] at this
    omega
  obtain ⟨t, ht⟩ := hufP_some h0
  have il := (List.getElem?_eq_some_iff.1 hi).1
  have kl := (List.getElem?_eq_some_iff.1 hk).1
  rw [grownP_at ht il, if_pos ((hufP_cnt1 ht i).2.2 ⟨x, hi, by omega⟩)] at hp
  rw [grownP_at ht kl, if_pos ((hufP_cnt1 ht k).2.2 ⟨y, hk, hy⟩)] at hq
  have := order_dpt ht hi hk hxy hy
  injection hp with hp
  injection hq with hq
  unfold mx1 at hp hq
  split at hp <;> split at hq <;> omega
end Go.Fw
