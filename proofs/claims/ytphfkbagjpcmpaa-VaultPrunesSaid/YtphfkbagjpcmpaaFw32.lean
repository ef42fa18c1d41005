import Derived.Test.YtphfkbagjpcmpaaFw31
/-! Slices from a place on; elements of rows turned. -/
set_option linter.unusedSimpArgs false
set_option linter.unusedVariables false
namespace Go.Fw
open Go.RowKit
section
variable {A : St}
/-- The elements from k on. -/
theorem View.suf {P : Program} {sz len k e : Nat} {ik : IntKind} {cs : List Value} {v : Value} (h : View A sz cs len v) (hs : SlOk sz v) (hsz : tsz P e = some sz) (h0 : 0 < sz) (hk : k ≤ len) : ∃ v', sliceU (some (.slice e)) (tsz P) v (some (.int ik (k : Int))) none none = some v' ∧ View A sz (cs.drop (k * sz)) (len - k) v' ∧ SlOk sz v' ∧ (rowB v' = none ∨ rowB v' = rowB v) := by
  obtain ⟨ad, n, c, rfl, hnc, had⟩ := hs
  have hn : n = len := by
    rcases h.2 with ⟨rfl, _, _, hv⟩ | ⟨b, off, sp, c', cells, e', m, hv, _⟩
    · cases hv; rfl
    · cases hv; rfl
  subst hn
  have hb : abounds n c (some (.int ik (k : Int))) none none = some (k, n, c) := by
    have : (k : Int) ≤ n := by omega
    simp [abounds, abound1, this, hk]
  have hle : k * sz ≤ n * sz := Nat.mul_le_mul_right _ hk
  have hmul : (n - k) * sz = n * sz - k * sz := Nat.sub_mul ..
  have hcl : (cs.drop (k * sz)).length = (n - k) * sz := by rw [List.length_drop, h.1, hmul]
  rcases had with rfl | ⟨b, off, sp, rfl, hsp⟩
  · refine ⟨.slice none (n - k) (c - k), ?_, ⟨hcl, ?_⟩, ⟨_, _, _, rfl, by omega, .inl rfl⟩, .inl rfl⟩
    · rw [sliceU_slice, hsz]
      rw [Option.bind_some, sliceL_eq, hb]; rfl
    · rcases h.2 with ⟨hl, _⟩ | ⟨_, _, _, _, _, _, _, hv, _⟩
      · exact .inl ⟨by omega, _, _, by rw [show n - k = 0 by omega]⟩
      · cases hv
  · refine ⟨.slice (some ⟨b, off + k * sz, sp⟩) (n - k) (c - k), ?_, ⟨hcl, ?_⟩, ⟨_, _, _, rfl, by omega, .inr ⟨_, _, _, rfl, hsp⟩⟩, .inr rfl⟩
    · rw [sliceU_slice, hsz]
      rw [Option.bind_some, sliceL_eq, hb]
      rcases hsp with rfl | rfl | rfl
      · rw [boundsL_exact]
      · rw [show (none : Option Value).isSome = false from rfl, boundsL_least]
      · obtain ⟨j, rfl⟩ : ∃ j, sz = j + 1 := ⟨sz - 1, by omega⟩
        rw [show (none : Option Value).isSome = false from rfl, boundsL_ownN]
    · rcases h.2 with ⟨hl, _⟩ | ⟨b', off', sp', c', cells, e', m, hv, h1, h2, h3, h4⟩
      · exact .inl ⟨by omega, _, _, by rw [show n - k = 0 by omega]⟩
      · cases hv
        refine .inr ⟨b, off + k * sz, sp, c - k, cells, e', m, rfl, h1, h2, by rw [hmul]; omega, ?_⟩
        rw [← h4, List.drop_take, List.drop_drop, hmul]
theorem setList_app : ∀ (vs a r : List Value) (off : Nat), setList (a ++ r) (a.length + off) vs = a ++ setList r off vs
  | [], a, r, off => rfl
  | v :: vs, a, r, off => by
    rw [setList, setList, List.set_append_right _ _ (by omega), show a.length + off - a.length = off by omega]
    exact setList_app vs a (r.set off v) (off + 1)
theorem setList_at0 : ∀ (vs p a r : List Value), vs.length = a.length → setList (p ++ (a ++ r)) p.length vs = p ++ (vs ++ r)
  | [], p, a, r, h => by
    have : a = [] := List.eq_nil_of_length_eq_zero (by rw [← h]; rfl)
    subst this; rfl
  | v :: vs, p, a, r, h => by
    match a, h with
    | x :: a, h =>
      rw [setList, List.set_append_right _ _ (Nat.le_refl _), Nat.sub_self]
      have := setList_at0 vs (p ++ [v]) a r (by simpa using h)
      simpa using this
theorem flat_set {α : Type} {encE : α → List Value} {sz : Nat} (hlen : ∀ y, (encE y).length = sz) (x : α) : ∀ (l : List α) (i : Nat), i < l.length → setList (l.flatMap encE) (i * sz) (encE x) = (l.set i x).flatMap encE
  | [], i, h => by simp at h
  | y :: l, 0, h => by
    rw [List.flatMap_cons, List.set_cons_zero, List.flatMap_cons, Nat.zero_mul]
    exact setList_at0 (encE x) [] (encE y) _ (by rw [hlen, hlen])
  | y :: l, i + 1, h => by
    rw [List.flatMap_cons, List.set_cons_succ, List.flatMap_cons, Nat.succ_mul, Nat.add_comm (i * sz), ← hlen y, setList_app, hlen y, flat_set hlen x l i (by simpa using h)]
/-- A row that has elements: its block, where each lies, what is read and what is written. -/
theorem Row.own {P : Program} {α : Type} {encE : α → List Value} {e sz lo : Nat} {l : List α} {v : Value} (h : Row A e sz lo (l.flatMap encE) l.length v) (hlen : ∀ y, (encE y).length = sz) (hsz : tsz P e = some sz) (hl : l.length ≠ 0) :
    ∃ b, rowB v = some b ∧ lo ≤ b ∧ b < A.next ∧ A.get b = some (.cells (l.flatMap encE) e (some 0)) ∧ (∀ (k : IntKind) (i : Nat), i < l.length → indexAddrU P (some (.slice e)) v (.int k i) = some (.pointer (some ⟨b, i * sz, none⟩))) ∧
      (∀ (i : Nat) (x : α), l[i]? = some x → loadC (some true) (some sz) (some (.cells (l.flatMap encE) e (some 0))) (i * sz) = some (.agg (encE x).toArray)) ∧
      (∀ (i : Nat) (x : α), i < l.length → (encE x).all cell1 = true → storeC A (some sz) (some (.cells (l.flatMap encE) e (some 0))) b (i * sz) (.agg (encE x).toArray) = some (A.upd b (some (.cells ((l.set i x).flatMap encE) e (some 0))))) ∧
      ∀ (A' : St) (m : List α), m.length = l.length → A'.get b = some (.cells (m.flatMap encE) e (some 0)) → A.next ≤ A'.next → Row A' e sz lo (m.flatMap encE) m.length v := by
  rcases h with ⟨hcl, ⟨h0, _⟩ | ⟨b, sp, rfl, hsp, hb0, hb1, hbg⟩⟩
  · exact absurd h0 hl
  have hfl : ∀ m : List α, (m.flatMap encE).length = m.length * sz := fun m => flatMap_len m hlen
  refine ⟨b, rfl, hb0, hb1, hbg, fun k i hi => ?_, fun i x hx => ?_, fun i x hi hc => ?_, fun A' m hm hg hn => ?_⟩
  · refine (indexAddr_slice P k e b 0 sp l.length l.length (i : Int) (by omega) (by omega)).trans ?_
    rw [hsz]; simp
  · have hi : i < l.length := (List.getElem?_eq_some_iff.1 hx).1
    have hle : (i + 1) * sz ≤ l.length * sz := Nat.mul_le_mul_right _ hi
    rw [Nat.succ_mul] at hle
    rw [loadC_agg _ _ _ _ _ (by rw [hfl]; exact hle)]
    congr 3
    apply List.ext_getElem?
    intro j
    rw [List.getElem?_take]
    by_cases hj : j < sz
    · rw [if_pos hj, List.getElem?_drop, flatMap_at l (fun y _ => hlen y) i j hj, hx]; rfl
    · rw [if_neg hj, List.getElem?_eq_none (by rw [hlen]; omega)]
  · have hle : (i + 1) * sz ≤ l.length * sz := Nat.mul_le_mul_right _ hi
    rw [Nat.succ_mul] at hle
    rw [storeC_cells]
    · congr 4
      exact flat_set hlen x l i hi
    · exact ⟨by simp [Value.cells, hlen], Nat.zero_le _, by simp [Value.cells, hlen, hfl]; exact hle, by simpa [Value.cells] using hc⟩
  · refine ⟨hfl m, .inr ⟨b, sp, by rw [hm], hsp, hb0, Nat.lt_of_lt_of_le hb1 hn, hg⟩⟩
end
end Go.Fw
