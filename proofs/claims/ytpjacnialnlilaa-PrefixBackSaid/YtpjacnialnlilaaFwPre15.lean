import Derived.Test.YtpjacnialnlilaaFwPre14
set_option linter.unusedSimpArgs false
set_option linter.unusedVariables false
set_option maxRecDepth 4000
namespace Go.Fw
open Go.Proofs Go.RowKit
/-! Weights are halved till no word is too long: it comes to an end. -/
/-- What holds of all trees while all leaves weigh one. -/
structure Lv (k : Nat) (Q : List HT) : Prop where
  all : ∀ t ∈ Q, (2 : Int) ^ k ≤ t.wt ∧ t.wt ≤ 2 ^ (k + 1) ∧ t.ht ≤ k + 1 ∧ (t.wt = 2 ^ k → t.ht ≤ k)
  one : sumG (fun t => if (2 : Int) ^ k < t.wt ∧ t.wt < 2 ^ (k + 1) then 1 else 0) Q ≤ 1
theorem sumG_mem {g : HT → Int} (hg : ∀ t, 0 ≤ g t) : ∀ {Q : List HT} {t : HT}, t ∈ Q → g t ≤ sumG g Q
  | q :: Q, t, h => by
    have := sumG_nn g (l := Q) fun t _ => hg t
    have := hg q
    rw [sumG_cons]
    rcases List.mem_cons.1 h with rfl | h
    · omega
    · have := sumG_mem hg h; omega
theorem insK_memH {t x : HT} {Q : List HT} : t ∈ insK HT.wt Q x ↔ t = x ∨ t ∈ Q := insK_mem Q x t
theorem pow_dbl (k : Nat) : (2 : Int) ^ (k + 1) = 2 * 2 ^ k := by rw [Int.pow_succ]; omega
theorem pow_pos' (k : Nat) : (0 : Int) < 2 ^ k := by
  induction k with
  | zero => decide
  | succ k ih => rw [pow_dbl]; omega
theorem Lv.step {k : Nat} {a b : HT} {Q : List HT} (h : Lv k (a :: b :: Q)) (hs : Srtd HT.wt (a :: b :: Q)) : ∃ k', Lv k' (insK HT.wt Q (.br (a.wt + b.wt) a b)) := by
  have hp := pow_dbl k
  have hp2 := pow_dbl (k + 1)
  have h0 := pow_pos' k
  obtain ⟨a1, a2, a3, a4⟩ := h.all a (by simp)
  obtain ⟨b1, b2, b3, b4⟩ := h.all b (by simp)
  unfold Srtd at hs
  rw [List.pairwise_cons, List.pairwise_cons] at hs
  have hab : a.wt ≤ b.wt := hs.1 b (by simp)
  have hone := h.one
  have g0 : ∀ t : HT, (0 : Int) ≤ (if (2 : Int) ^ k < t.wt ∧ t.wt < 2 ^ (k + 1) then 1 else 0) := fun t => by split <;> omega
  rw [sumG_cons, sumG_cons] at hone
  have ga := g0 a
  have gb := g0 b
  have hht : (HT.br (a.wt + b.wt) a b).ht = max a.ht b.ht + 1 := rfl
  have hwt : (HT.br (a.wt + b.wt) a b).wt = a.wt + b.wt := rfl
  by_cases hb : b.wt = 2 ^ k
  · have ha : a.wt = 2 ^ k := by omega
    have := a4 ha
    have := b4 hb
    refine ⟨k, fun t ht => ?_, ?_⟩
    · rcases insK_memH.1 ht with rfl | ht
      · rw [hht, hwt]
        exact ⟨by omega, by omega, by omega, fun e => by omega⟩
      · exact h.all t (by simp [ht])
    · rw [sumG_insK, if_neg (by rw [hwt]; omega)]
      omega
  · -- all that is left is twice as heavy
    have hQ : ∀ t ∈ Q, t.wt = 2 ^ (k + 1) := fun t ht => by
      have h1 := h.all t (by simp [ht])
      have h2 := hs.2.1 t ht
      by_cases hm : t.wt < 2 ^ (k + 1)
      · exfalso
        have e1 : (if (2 : Int) ^ k < t.wt ∧ t.wt < 2 ^ (k + 1) then (1 : Int) else 0) = 1 := if_pos ⟨by omega, hm⟩
        have e2 : (if (2 : Int) ^ k < b.wt ∧ b.wt < 2 ^ (k + 1) then (1 : Int) else 0) = 1 := if_pos ⟨by omega, by omega⟩
        have e3 := sumG_mem g0 ht
        rw [e1] at e3
        rw [e2] at hone
        omega
      · omega
    have hsum : a.wt + b.wt > 2 ^ (k + 1) := by
      by_cases hm : b.wt = 2 ^ (k + 1)
      · omega
      · by_cases ha : a.wt = 2 ^ k
        · omega
        · exfalso
          have e1 : (if (2 : Int) ^ k < a.wt ∧ a.wt < 2 ^ (k + 1) then (1 : Int) else 0) = 1 := if_pos ⟨by omega, by omega⟩
          have e2 : (if (2 : Int) ^ k < b.wt ∧ b.wt < 2 ^ (k + 1) then (1 : Int) else 0) = 1 := if_pos ⟨by omega, by omega⟩
          have e3 := sumG_nn (fun t : HT => if (2 : Int) ^ k < t.wt ∧ t.wt < 2 ^ (k + 1) then (1 : Int) else 0) (l := Q) fun t _ => g0 t
          rw [e1, e2] at hone
          omega
    refine ⟨k + 1, fun t ht => ?_, ?_⟩
    · rcases insK_memH.1 ht with rfl | ht
      · rw [hht, hwt]
        exact ⟨by omega, by omega, by omega, fun e => by omega⟩
      · have h1 := h.all t (by simp [ht])
        have h2 := hQ t ht
        exact ⟨by omega, by omega, by omega, fun _ => h1.2.2.1⟩
    · rw [sumG_insK]
      have hz : sumG (fun t : HT => if (2 : Int) ^ (k + 1) < t.wt ∧ t.wt < 2 ^ (k + 1 + 1) then (1 : Int) else 0) Q ≤ 0 := by
        have := sumG_le (fun t : HT => if (2 : Int) ^ (k + 1) < t.wt ∧ t.wt < 2 ^ (k + 1 + 1) then (1 : Int) else 0) 0 (l := Q) (fun t ht => by rw [if_neg (by have := hQ t ht; omega)]; exact Int.le_refl _)
        omega
      have : (if (2 : Int) ^ (k + 1) < (HT.br (a.wt + b.wt) a b).wt ∧ (HT.br (a.wt + b.wt) a b).wt < 2 ^ (k + 1 + 1) then (1 : Int) else 0) ≤ 1 := by split <;> omega
      omega
theorem insH_srtd {Q : List HT} (h : Srtd HT.wt Q) (x : HT) : Srtd HT.wt (insK HT.wt Q x) := by
  have e : Q = srtK HT.wt Q := srtK_of h (SameF.refl HT.wt Q)
  rw [e, ← srtK_app]; exact srtK_srtd _
theorem Srtd.tail2 {a b : HT} {Q : List HT} (h : Srtd HT.wt (a :: b :: Q)) : Srtd HT.wt Q := by
  unfold Srtd at *
  rw [List.pairwise_cons, List.pairwise_cons] at h
  exact h.2.2
theorem Lv.huff : ∀ (n k : Nat) (Q : List HT), Srtd HT.wt Q → Lv k Q → ∃ k', Lv k' (huff n Q)
  | 0, k, Q, _, h => ⟨k, h⟩
  | n + 1, k, [], _, h => ⟨k, h⟩
  | n + 1, k, [a], _, h => ⟨k, h⟩
  | n + 1, k, a :: b :: Q, hs, h => by
    obtain ⟨k', h'⟩ := h.step hs
    exact Lv.huff n k' _ (insH_srtd hs.tail2 _) h'
def usedN (f : List Int) : Nat := (leafs f 0).length
/-- Of weights that are all one, no word is too long. -/
theorem ht_ones {f : List Int} {lim : Nat} (hf : ∀ x ∈ f, x ≤ 1) (hu : usedN f ≤ 2 ^ lim) {t : HT} (ht : hufP f = [t]) : t.ht ≤ lim := by
  have hl : ∀ t ∈ leafs f 0, t.wt = 1 ∧ t.ht = 0 := fun t ht => by
    obtain ⟨x, j, rfl, h1, h2, _⟩ := leafs_mem ht
    have := hf x h2
    exact ⟨by show x = 1; omega, rfl⟩
  have hz : ∀ Q : List HT, (∀ t ∈ Q, t.wt = 1) → sumG (fun t : HT => if (2 : Int) ^ 0 < t.wt ∧ t.wt < 2 ^ (0 + 1) then (1 : Int) else 0) Q ≤ 0 := fun Q hQ => by
    have := sumG_le (fun t : HT => if (2 : Int) ^ 0 < t.wt ∧ t.wt < 2 ^ (0 + 1) then (1 : Int) else 0) 0 (l := Q) (fun t ht => by rw [if_neg (by rw [hQ t ht]; decide)]; exact Int.le_refl _)
    omega
  have hm : ∀ t ∈ srtK HT.wt (leafs f 0), t.wt = 1 ∧ t.ht = 0 := fun t ht => hl t (((srtK_same (k := HT.wt) (leafs f 0)).mem t).2 ht)
  have h0 : Lv 0 (srtK HT.wt (leafs f 0)) := ⟨fun t ht => by
    obtain ⟨h1, h2⟩ := hm t ht
    rw [h1, h2]
    exact ⟨by decide, by decide, by omega, fun _ => Nat.le_refl _⟩, Int.le_trans (hz _ fun t ht => (hm t ht).1) (by decide)⟩
  obtain ⟨k, hk⟩ := Lv.huff f.length 0 _ (srtK_srtd _) h0
  have hwt : t.wt = (usedN f : Int) := by
    have e := sumG_huff HT.wt (fun _ _ => rfl) f.length (srtK HT.wt (leafs f 0))
    have e2 : huff f.length (srtK HT.wt (leafs f 0)) = [t] := ht
    rw [e2, sumG_cons, sumG_nil, sumG_srtK] at e
    have : ∀ Q : List HT, (∀ t ∈ Q, t.wt = 1) → sumG HT.wt Q = (Q.length : Nat) := fun Q => by
      induction Q with
      | nil => intro _; rfl
      | cons q Q ih =>
        intro h
        rw [sumG_cons, h q (List.mem_cons_self ..), ih fun t ht => h t (List.mem_cons_of_mem _ ht), List.length_cons]; omega
    rw [this _ fun t ht => (hl t ht).1] at e
    unfold usedN
    omega
  obtain ⟨k1, k2, k3, k4⟩ := hk.all t (by have e2 : huff f.length (srtK HT.wt (leafs f 0)) = [t] := ht; rw [e2]; exact List.mem_singleton.2 rfl)
  have hcast : ((2 ^ lim : Nat) : Int) = (2 : Int) ^ lim := by simp
  have hle : (2 : Int) ^ k ≤ 2 ^ lim := by rw [← hcast]; omega
  have hkl : k ≤ lim := by
    have : (2 : Nat) ^ k ≤ 2 ^ lim := by
      have e : ((2 ^ k : Nat) : Int) = (2 : Int) ^ k := by simp
      have : ((2 ^ k : Nat) : Int) ≤ ((2 ^ lim : Nat) : Int) := by rw [e, hcast]; exact hle
      omega
    exact (Nat.pow_le_pow_iff_right (by decide)).1 this
  rcases Nat.lt_or_ge k lim with h | h
  · omega
  · have hk' : k = lim := by omega
    have h3 : (usedN f : Int) ≤ (2 : Int) ^ lim := by rw [← hcast]; omega
    rw [← hk'] at h3
    have := k4 (by omega)
    omega
def half (x : Int) : Int := (x + 1) / 2
def halfL (f : List Int) : List Int := f.map half
theorem half_pos {x : Int} (h : 0 ≤ x) : 0 ≤ half x ∧ (0 < half x ↔ 0 < x) ∧ half x ≤ x := by unfold half; omega
theorem half_le {x : Int} {j : Nat} (h : x ≤ 2 ^ (j + 1)) : half x ≤ 2 ^ j := by have := pow_dbl j; unfold half; omega
theorem leafs_half : ∀ (f : List Int) (i : Nat), (∀ x ∈ f, 0 ≤ x) → (leafs (halfL f) i).length = (leafs f i).length
  | [], _, _ => rfl
  | x :: f, i, h => by
    have h1 := half_pos (h x (List.mem_cons_self ..))
    have ih := leafs_half f (i + 1) fun y hy => h y (List.mem_cons_of_mem _ hy)
    unfold halfL at *
    rw [List.map_cons, leafs, leafs]
    by_cases hx : 0 < x
    · rw [if_pos (h1.2.1.2 hx), if_pos hx]; simp [ih]
    · rw [if_neg (fun h => hx (h1.2.1.1 h)), if_neg hx]; exact ih
def okL (l : List Int) (lim : Int) : Bool := l.all fun x => decide (x ≤ lim)
/-- The lengths. -/
def lenF : Nat → List Int → Int → List Int
  | 0, f, _ => grownP f
  | j + 1, f, lim => if okL (grownP f) lim then grownP f else lenF j (halfL f) lim
theorem grownP_at {f : List Int} {t : HT} (ht : hufP f = [t]) {s : Nat} (hs : s < f.length) : (grownP f)[s]? = some (if cntS s t = 1 then mx1 (dpt s t) else 0) := by
  rw [grownP_tree ht, deepL_at _ _ _ _ (hufP_cnt1 ht s).1 (by rw [List.length_replicate]; exact hs), List.getElem?_replicate, if_pos hs, Int.zero_add]
  split <;> rfl
theorem grownP_le {f : List Int} {lim : Nat} (h1 : 1 ≤ lim) (h : ∀ t, hufP f = [t] → t.ht ≤ lim) : okL (grownP f) lim = true := by
  unfold okL
  rw [List.all_eq_true]
  intro x hx
  obtain ⟨s, hs⟩ := List.mem_iff_getElem?.1 hx
  have hsl : s < f.length := by rw [← grownP_len f]; exact (List.getElem?_eq_some_iff.1 hs).1
  simp only [decide_eq_true_eq]
  by_cases h0 : leafs f 0 = []
  · rw [grownP_none (hufP_none h0), List.getElem?_replicate, if_pos hsl] at hs
    cases hs
    omega
  · obtain ⟨t, ht⟩ := hufP_some h0
    rw [grownP_at ht hsl] at hs
    injection hs with hs
    have := h t ht
    have hd := dpt_ht s t (hufP_cnt1 ht s).1
    split at hs
    · unfold mx1 at hs; split at hs <;> omega
    · omega
/-- At ones it ends. -/
theorem ones_ok {f : List Int} {lim : Nat} (h1 : 1 ≤ lim) (hf : ∀ x ∈ f, x ≤ 1) (hu : usedN f ≤ 2 ^ lim) : okL (grownP f) lim = true := grownP_le h1 fun t ht => ht_ones hf hu ht
/-- What the halving keeps. -/
structure HOk (j : Nat) (f : List Int) (lim : Nat) : Prop where
  nn : ∀ x ∈ f, 0 ≤ x
  le : ∀ x ∈ f, x ≤ 2 ^ j
  us : usedN f ≤ 2 ^ lim
theorem HOk.half {j : Nat} {f : List Int} {lim : Nat} (h : HOk (j + 1) f lim) : HOk j (halfL f) lim := by
  refine ⟨fun x hx => ?_, fun x hx => ?_, ?_⟩
  · obtain ⟨y, hy, rfl⟩ := List.mem_map.1 hx; exact (half_pos (h.nn y hy)).1
  · obtain ⟨y, hy, rfl⟩ := List.mem_map.1 hx; exact half_le (h.le y hy)
  · unfold usedN; rw [leafs_half f 0 h.nn]; exact h.us
theorem HOk.fin {f : List Int} {lim : Nat} (h : HOk 0 f lim) (h1 : 1 ≤ lim) : okL (grownP f) lim = true := ones_ok h1 (fun x hx => h.le x hx) h.us
theorem lenF_ok : ∀ (j : Nat) (f : List Int) (lim : Nat), 1 ≤ lim → HOk j f lim → okL (lenF j f lim) lim = true
  | 0, f, lim, h1, h => h.fin h1
  | j + 1, f, lim, h1, h => by
    rw [lenF]
    split
    · rename_i h2; exact h2
    · exact lenF_ok j _ lim h1 h.half
theorem lenF_len : ∀ (j : Nat) (f : List Int) (lim : Int), (lenF j f lim).length = f.length
  | 0, f, lim => grownP_len f
  | j + 1, f, lim => by
    rw [lenF]
    split
    · exact grownP_len f
    · rw [lenF_len j]; exact List.length_map _
end Go.Fw
