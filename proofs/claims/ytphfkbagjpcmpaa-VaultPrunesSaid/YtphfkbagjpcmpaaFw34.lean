import Derived.Test.YtphfkbagjpcmpaaFw33
/-! What is there stays there, whatever happens to blocks that are hidden. -/
set_option linter.unusedSimpArgs false
set_option linter.unusedVariables false
namespace Go.Fw
open Go.RowKit
structure Ge (A A' : St) : Prop where
  next : A.next ≤ A'.next
  get : ∀ b B, b < A.next → A.get b = some B → A'.get b = some B
theorem Ge.refl (A : St) : Ge A A := ⟨Nat.le_refl _, fun _ _ _ h => h⟩
theorem Ge.trans {A B C : St} (h : Ge A B) (k : Ge B C) : Ge A C := ⟨Nat.le_trans h.next k.next, fun b X hb hx => k.get b X (Nat.lt_of_lt_of_le hb h.next) (h.get b X hb hx)⟩
theorem Over.ge {A A' : St} (h : Over A A') : Ge A A' := ⟨h.next, fun b B hb hx => (h.get b hb).trans hx⟩
def St.hide (A : St) : List Nat → St
  | [] => A
  | b :: L => St.hide (A.upd b none) L
theorem hide_next (A : St) (L : List Nat) : (A.hide L).next = A.next := by
  induction L generalizing A with
  | nil => rfl
  | cons b L ih => rw [St.hide, ih]; rfl
theorem hide_get (A : St) (L : List Nat) (b : Nat) : (A.hide L).get b = if b ∈ L then none else A.get b := by
  induction L generalizing A with
  | nil => simp [St.hide]
  | cons c L ih =>
    rw [St.hide, ih, St.get_upd]
    by_cases h1 : b ∈ L
    · simp [h1]
    · by_cases h2 : b = c
      · simp [h1, h2]
      · simp [h1, h2]
theorem Ge.hide {A A' : St} {L L' : List Nat} (hn : A.next ≤ A'.next) (hg : ∀ b, b < A.next → b ∉ L → b ∉ L' ∧ A'.get b = A.get b) : Ge (A.hide L) (A'.hide L') := by
  refine ⟨by rw [hide_next, hide_next]; exact hn, fun b B hb hx => ?_⟩
  rw [hide_next] at hb
  rw [hide_get] at hx ⊢
  by_cases h : b ∈ L
  · rw [if_pos h] at hx; cases hx
  · rw [if_neg h] at hx
    obtain ⟨h1, h2⟩ := hg b hb h
    rw [if_neg h1, h2]; exact hx
theorem hide_ge (A : St) (L : List Nat) : Ge (A.hide L) A := by
  have := Ge.hide (A := A) (A' := A) (L := L) (L' := []) (Nat.le_refl _) (fun b _ _ => ⟨by simp, rfl⟩)
  exact this
theorem hide_over {A A' : St} (h : Over A A') (L : List Nat) : Ge (A.hide L) (A'.hide L) := Ge.hide h.next (fun b hb hL => ⟨hL, h.get b hb⟩)
theorem hide_out {A A' : St} (h : Over A A') (L : List Nat) : Ge (A.hide L) A' := (hide_ge A L).trans h.ge
section
variable {A A' : St}
theorem View.ge {sz : Nat} {cs : List Value} {len : Nat} {v : Value} (h : View A sz cs len v) (g : Ge A A') : View A' sz cs len v := by
  refine ⟨h.1, ?_⟩
  rcases h.2 with h | ⟨b, off, sp, c, cells, e, m, rfl, h1, h2, h3⟩
  · exact .inl h
  · exact .inr ⟨b, off, sp, c, cells, e, m, rfl, Nat.lt_of_lt_of_le h1 g.next, g.get b _ h1 h2, h3⟩
/-- A view in a heap where all old blocks that may turn are hidden. -/
theorem Row.viewH {e sz lo : Nat} {cs : List Value} {len : Nat} {v : Value} (h : Row A e sz lo cs len v) {L : List Nat} (hL : ∀ b ∈ L, b < lo) : View (A.hide L) sz cs len v := by
  have hv := Row.view h
  refine ⟨hv.1, ?_⟩
  rcases h.2 with ⟨h', rfl⟩ | ⟨b, sp, rfl, h1, h2, h3, h4⟩
  · exact .inl ⟨h', _, _, rfl⟩
  · refine .inr ⟨b, 0, sp, len, cs, e, some 0, rfl, by rw [hide_next]; exact h3, ?_, by rw [h.1]; omega, by rw [List.drop_zero]; exact List.take_of_length_le (by rw [h.1]; omega)⟩
    rw [hide_get, if_neg (fun hm => by have := hL b hm; omega)]; exact h4
end
/-- Two lists, one by one. -/
inductive All2 {α β : Type} (R : α → β → Prop) : List α → List β → Prop
  | nil : All2 R [] []
  | cons {a : α} {b : β} {l : List α} {m : List β} : R a b → All2 R l m → All2 R (a :: l) (b :: m)
section
variable {α β : Type} {R R' : α → β → Prop} {l l' : List α} {m m' : List β}
theorem All2.length (h : All2 R l m) : l.length = m.length := by
  induction h with
  | nil => rfl
  | cons _ _ ih => simp [ih]
theorem All2.imp (h : All2 R l m) (hr : ∀ a b, R a b → R' a b) : All2 R' l m := by
  induction h with
  | nil => exact .nil
  | cons h1 _ ih => exact .cons (hr _ _ h1) ih
theorem All2.app (h : All2 R l m) (h' : All2 R l' m') : All2 R (l ++ l') (m ++ m') := by
  induction h with
  | nil => exact h'
  | cons h1 _ ih => exact .cons h1 ih
theorem All2.get (h : All2 R l m) : ∀ {i : Nat} {a : α}, l[i]? = some a → ∃ b, m[i]? = some b ∧ R a b := by
  induction h with
  | nil => intro i a h; simp at h
  | cons h1 _ ih =>
    intro i a h
    cases i with
    | zero => simp at h; subst h; exact ⟨_, rfl, h1⟩
    | succ i => simpa using ih (by simpa using h)
theorem All2.take (h : All2 R l m) : ∀ n, All2 R (l.take n) (m.take n) := by
  induction h with
  | nil => intro n; simp; exact .nil
  | cons h1 _ ih => intro n; cases n with
    | zero => exact .nil
    | succ n => exact .cons h1 (ih n)
theorem All2.drop (h : All2 R l m) : ∀ n, All2 R (l.drop n) (m.drop n) := by
  induction h with
  | nil => intro n; simp; exact .nil
  | cons h1 h2 ih => intro n; cases n with
    | zero => exact .cons h1 h2
    | succ n => exact ih n
end
/-- Elements of sz cells, one behind the other. -/
theorem flat_len {sz : Nat} : ∀ {m : List (List Value)}, (∀ cs ∈ m, cs.length = sz) → m.flatten.length = m.length * sz
  | [], _ => by simp
  | c :: m, h => by
    rw [List.flatten_cons, List.length_append, h c (List.mem_cons_self ..), flat_len (fun cs hc => h cs (List.mem_cons_of_mem _ hc)), List.length_cons, Nat.add_mul]; omega
theorem flat_take {sz : Nat} : ∀ {m : List (List Value)} (n : Nat), (∀ cs ∈ m, cs.length = sz) → m.flatten.take (n * sz) = (m.take n).flatten
  | [], n, _ => by simp
  | c :: m, 0, _ => by simp
  | c :: m, n + 1, h => by
    have hc := h c (List.mem_cons_self ..)
    rw [List.flatten_cons, List.take_succ_cons, List.flatten_cons, Nat.add_mul, Nat.one_mul, Nat.add_comm, ← hc, List.take_length_add_append, hc, flat_take n (fun cs hc => h cs (List.mem_cons_of_mem _ hc))]
theorem flat_drop {sz : Nat} : ∀ {m : List (List Value)} (n : Nat), (∀ cs ∈ m, cs.length = sz) → m.flatten.drop (n * sz) = (m.drop n).flatten
  | [], n, _ => by simp
  | c :: m, 0, _ => by simp
  | c :: m, n + 1, h => by
    have hc := h c (List.mem_cons_self ..)
    rw [List.flatten_cons, List.drop_succ_cons, Nat.add_mul, Nat.one_mul, Nat.add_comm, ← hc, List.drop_length_add_append, hc, flat_drop n (fun cs hc => h cs (List.mem_cons_of_mem _ hc))]
theorem flat_elem {sz : Nat} {m : List (List Value)} {i : Nat} {cs : List Value} (h : ∀ cs ∈ m, cs.length = sz) (hi : m[i]? = some cs) : (m.flatten.drop (i * sz)).take sz = cs := by
  have hlt : i < m.length := (List.getElem?_eq_some_iff.1 hi).1
  have hcs := h cs (List.mem_of_getElem? hi)
  rw [flat_drop i h, List.drop_eq_getElem_cons hlt, List.flatten_cons]
  have : m[i] = cs := by rw [List.getElem?_eq_getElem hlt] at hi; exact Option.some.inj hi
  rw [this, ← hcs, List.take_left]
end Go.Fw
