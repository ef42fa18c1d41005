import Derived.Test.YtbiebjcnkjbakaaFw27
/-! More of rows and views. -/
set_option linter.unusedSimpArgs false
set_option linter.unusedVariables false
namespace Go.Fw
open Go.RowKit
section
variable {A : St}
theorem View.src {sz len : Nat} {cs : List Value} {v : Value} (h : View A sz cs len v) : srcCells A sz v = some (len, cs) := by
  rcases h with ⟨hl, ⟨rfl, ad, c, rfl⟩ | ⟨b, off, sp, c, cells, e, m, rfl, h1, h2, h3, h4⟩⟩
  · obtain rfl : cs = [] := List.eq_nil_of_length_eq_zero (by rw [hl]; simp)
    cases ad <;> rfl
  · by_cases h0 : len = 0
    · subst h0
      obtain rfl : cs = [] := List.eq_nil_of_length_eq_zero (by rw [hl]; simp)
      rfl
    · rw [srcCells_slice h0 h2 h3, h4]
/-- What is appended is a slice that is read. -/
theorem row_app {P : Program} {sT xT e bs : Nat} {z x : Value} {m sz lo len : Nat} {cs new : List Value} {ux : TypeDesc} {v : Value} (hel : telem P sT = some e) (hx : P.underlying xT = some ux) (hux : ∀ k, ux ≠ .int k) (hsz : tsz P e = some (sz + 1)) (hb : tbytes P e = some bs) (hz : tzero P e = some z) (hzc : z.cells.size = sz + 1)
    (hr : Row A e (sz + 1) lo cs len v) (hlo : lo ≤ A.next) (hv : View A (sz + 1) new m x) (hlen : (len + m) * bs ≤ 140737488355328) (hcap : len + m ≤ 9223372036854775807) (hnew : new.all cell1 = true) :
    ∃ v' A', aappend P A sT xT v x = some (v', A') ∧ Row A' e (sz + 1) lo (cs ++ new) (len + m) v' ∧ A.next ≤ A'.next ∧ ∀ b, b < A.next → rowB v ≠ some b → A'.get b = A.get b := by
  by_cases hm : m = 0
  · subst hm
    obtain rfl : new = [] := List.eq_nil_of_length_eq_zero (by rw [hv.1]; simp)
    refine ⟨v, A, ?_, by rw [List.append_nil]; exact hr, Nat.le_refl _, fun b _ _ => rfl⟩
    have h2 : ¬ (sz + 1 = 0 ∨ z.cells.size ≠ sz + 1) := by omega
    have hs := hv.src
    rcases hr.2 with ⟨rfl, rfl⟩ | ⟨b, sp, rfl, _⟩
    · unfold aappend
      cases ux with
      | int k => exact absurd rfl (hux k)
      | _ => simp only [hel, hx, hsz, hb, hz, hs, if_neg h2, Nat.add_zero, Nat.le_refl, if_true]
    · unfold aappend
      cases ux with
      | int k => exact absurd rfl (hux k)
      | _ => simp only [hel, hx, hsz, hb, hz, hs, if_neg h2, Nat.add_zero, Nat.le_refl, if_true]
  · obtain ⟨v', A', h1, h2, h3, h4, h5⟩ := row_append hel hx hux hsz hb hz hzc hr hlo hv.src (by omega) hlen hcap hnew hv.1
    exact ⟨v', A', h1, h2, by omega, h5⟩
end
end Go.Fw
