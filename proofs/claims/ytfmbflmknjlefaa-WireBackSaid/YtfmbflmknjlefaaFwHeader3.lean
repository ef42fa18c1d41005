import Derived.Test.YtfmbflmknjlefaaFwHeader2
set_option linter.unusedSimpArgs false
set_option linter.unusedVariables false
set_option maxRecDepth 4000
namespace Go.Fw
open Go.Proofs Go.RowKit
theorem chk_iff (l : List FileT) : chkE l = 0 ↔ l.length ≤ 12 ∧ l.any longB = false ∧ upL l = true := by
  unfold chkE
  constructor
  · intro h
    split at h
    · cases h
    · rename_i h1
      split at h
      · rename_i h2
        refine ⟨by omega, ?_, h2⟩
        cases hb : l.any longB with
        | false => rfl
        | true => exact absurd (.inr hb) h1
      · cases h
  · rintro ⟨h1, h2, h3⟩
    rw [if_neg (by rw [h2]; simp; omega), if_pos h3]
def nmN (l : List ByteArray) (j : Nat) : ByteArray := l.getD j ByteArray.empty
def szN (l : List Int) (j : Nat) : Int := l.getD j 0
theorem nmN_at {l : List ByteArray} {i : Nat} {f : ByteArray} (h : l[i]? = some f) : nmN l i = f := by unfold nmN; rw [List.getD_eq_getElem?_getD, h]; rfl
theorem szN_at {l : List Int} {i : Nat} {f : Int} (h : l[i]? = some f) : szN l i = f := by unfold szN; rw [List.getD_eq_getElem?_getD, h]; rfl
theorem nmA_files (l : List ByteArray) (j : Nat) : nmA (filesOf l) j = nmN l j := by
  unfold nmA filesOf nmN
  rw [List.getD_eq_getElem?_getD, List.getD_eq_getElem?_getD, List.getElem?_map]
  cases l[j]? <;> rfl
/-- What is right at a name's place. -/
def okAt (N : List ByteArray) (S : List Int) (j : Nat) : Prop := (nmN N j).size ≠ 0 ∧ (nmN N j).size ≤ 20 ∧ 0 ≤ szN S j ∧ szN S j ≤ 300 ∧ (0 < j → lessS (nmN N (j - 1)) (nmN N j) = true)
theorem any_longB (l : List ByteArray) : (filesOf l).any longB = false ↔ ∀ j, j < l.length → (nmN l j).size ≠ 0 ∧ (nmN l j).size ≤ 20 := by
  rw [List.any_eq_false]
  constructor
  · intro h j hj
    have hm : (l[j], ByteArray.empty) ∈ filesOf l := List.mem_map.2 ⟨_, List.getElem_mem hj, rfl⟩
    have := h _ hm
    rw [nmN_at (List.getElem?_eq_getElem hj)]
    simp only [longB, Bool.or_eq_true, decide_eq_true_eq, not_or] at this
    omega
  · intro h f hf
    obtain ⟨n, hn, rfl⟩ := List.mem_map.1 hf
    obtain ⟨j, hj, rfl⟩ := List.getElem_of_mem hn
    have := h j hj
    rw [nmN_at (List.getElem?_eq_getElem hj)] at this
    simp only [longB, Bool.or_eq_true, decide_eq_true_eq, not_or]
    exact ⟨⟨this.1, by omega⟩, by decide⟩
theorem any_wrongB (l : List Int) : l.any wrongB = false ↔ ∀ j, j < l.length → 0 ≤ szN l j ∧ szN l j ≤ 300 := by
  rw [List.any_eq_false]
  constructor
  · intro h j hj
    have := h _ (List.getElem_mem hj)
    rw [szN_at (List.getElem?_eq_getElem hj)]
    simp [wrongB] at this
    omega
  · intro h f hf
    obtain ⟨j, hj, rfl⟩ := List.getElem_of_mem hf
    have := h j hj
    rw [szN_at (List.getElem?_eq_getElem hj)] at this
    simp [wrongB]
    omega
theorem may_iff (V : VerT) : mayB V = true ↔ V.names.length ≤ 12 ∧ V.names.length = V.sizes.length ∧ V.blocks.length = blocksN V.sizes ∧ ∀ j, j < V.names.length → okAt V.names V.sizes j := by
  obtain ⟨id, B, N, S⟩ := V
  unfold mayB
  simp only [Bool.and_eq_true, decide_eq_true_eq, Bool.not_eq_true', chk_iff, any_longB, any_wrongB, upL_iff, filesOf_len, nmA_files]
  constructor
  · rintro ⟨⟨⟨h1, h2⟩, h3, h4, h5⟩, h6⟩
    exact ⟨h3, h1, h2, fun j hj => ⟨(h4 j hj).1, (h4 j hj).2, (h6 j (by omega)).1, (h6 j (by omega)).2, fun h0 => h5 j h0 hj⟩⟩
  · rintro ⟨h1, h2, h3, h4⟩
    exact ⟨⟨⟨h2, h3⟩, h1, fun j hj => ⟨(h4 j hj).1, (h4 j hj).2.1⟩, fun j h0 hj => (h4 j hj).2.2.2.2 h0⟩, fun j hj => ⟨(h4 j (by omega)).2.2.1, (h4 j (by omega)).2.2.2.1⟩⟩
end Go.Fw
