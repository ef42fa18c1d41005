import Derived.Test.YtpjacnialnlilaaFwPre34
import Derived.Test.YtpjacnialnlilaaFwPre22
set_option linter.unusedSimpArgs false
set_option linter.unusedVariables false
set_option maxRecDepth 4000
namespace Go.Fw
open Go.Proofs Go.RowKit
/-! Lengths that are given make a code: plain. -/
theorem lng_same : ∀ {g l : List Int}, g.length = l.length → (∀ (s : Nat) (x y : Int), g[s]? = some x → l[s]? = some y → (0 < x ↔ 0 < y)) → lng g 0 = lng l 0
  | [], [], _, _ => rfl
  | [], y :: l, h, _ => by simp at h
  | x :: g, [], h, _ => by simp at h
  | x :: g, y :: l, h, hp => by
    have ih := lng_same (g := g) (l := l) (by simpa using h) (fun s a b ha hb => hp (s + 1) a b (by simpa using ha) (by simpa using hb))
    have h0 := hp 0 x y rfl rfl
    unfold lng at *
    rw [List.countP_cons, List.countP_cons, ih]
    congr 1
    by_cases h1 : 0 < x
    · rw [if_pos (by simpa using h1), if_pos (by simpa using h0.1 h1)]
    · rw [if_neg (by simpa using h1), if_neg (by simpa using fun h => h1 (h0.2 h))]
theorem usedN_lng (l : List Int) : usedN l = lng l 0 := by
  have : ∀ n, usedN (l.take n) = lng (l.take n) 0 := by
    intro n
    induction n with
    | zero => rfl
    | succ n ih =>
      by_cases h : n < l.length
      · rw [List.take_add_one, List.getElem?_eq_getElem h]
        show usedN (l.take n ++ [l[n]]) = lng (l.take n ++ [l[n]]) 0
        rw [usedN_snoc, lng_snoc, ih]; rfl
      · rw [List.take_of_length_le (by omega)]
        rw [List.take_of_length_le (by omega)] at ih
        exact ih
  have h := this l.length
  rwa [List.take_length] at h
theorem lenF_code {f : List Int} {lim : Nat} (h1 : 1 ≤ lim) (h15 : lim ≤ 15) (h : HOk 20 f lim) (hn : f.length ≤ 300) (hu : usedN f ≠ 0) : isCode (lenF 20 f lim) = true := by
  obtain ⟨ho, hkr, hp⟩ := lenF_like h1 h15 h
  have hlen := lenF_len 20 f ((lim : Nat) : Int)
  have hall : ∀ x ∈ lenF 20 f lim, 0 ≤ x ∧ x ≤ 15 := fun x hx => by
    obtain ⟨s, hs⟩ := List.mem_iff_getElem?.1 hx
    have hsl := (List.getElem?_eq_some_iff.1 hs).1
    have h2 := hp s x _ hs (List.getElem?_eq_getElem (by omega))
    unfold okL at ho
    rw [List.all_eq_true] at ho
    have h3 := ho x hx
    simp only [decide_eq_true_eq] at h3
    omega
  have hlng : lng (lenF 20 f lim) 0 = usedN f := by
    rw [usedN_lng]
    refine lng_same hlen fun s x y hx hy => ?_
    have h2 := hp s x y hx hy
    have h3 := h.nn y (List.mem_of_getElem? hy)
    omega
  rw [code_eq2 hall, hlen, hkr, hlng, decide_eq_true hn, Bool.true_and]
  by_cases h2 : usedN f = 1
  · rw [if_neg hu, if_pos h2, decide_eq_true h2]; rfl
  · rw [if_neg hu, if_neg h2]; rfl
theorem lenF_none {f : List Int} {lim : Nat} (h1 : 1 ≤ lim) (h15 : lim ≤ 15) (h : HOk 20 f lim) (hu : usedN f = 0) : isCode (lenF 20 f lim) = false := by
  obtain ⟨ho, hkr, hp⟩ := lenF_like h1 h15 h
  rw [if_pos hu] at hkr
  unfold isCode
  rw [hkr]
  simp
end Go.Fw
