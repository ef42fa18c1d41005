import Derived.Test.YtpjacnialnlilaaFwPre11
import Derived.Test.YtpjacnialnlilaaFw36
set_option linter.unusedSimpArgs false
set_option linter.unusedVariables false
set_option maxRecDepth 4000
namespace Go.Fw
open Go.Proofs Go.RowKit
theorem Row.ge {A A' : St} {e sz lo : Nat} {cs : List Value} {len : Nat} {v : Value} (h : Row A e sz lo cs len v) (g : Ge A A') : Row A' e sz lo cs len v := by
  refine ⟨h.1, ?_⟩
  rcases h.2 with h | ⟨b, sp, rfl, h1, h2, h3, h4⟩
  · exact .inl h
  · exact .inr ⟨b, sp, rfl, h1, h2, Nat.lt_of_lt_of_le h3 g.next, g.get b _ h3 h4⟩
def W2 (cs : List Value) : Prop := ∃ (w : Int) (sv : Value), cs = [.int .i64 w, sv] ∧ cell1 sv = true
theorem W2.len {cs : List Value} (h : W2 cs) : cs.length = 2 := by obtain ⟨w, sv, rfl, _⟩ := h; rfl
theorem W2.cell {cs : List Value} (h : W2 cs) : cs.all cell1 = true := by obtain ⟨w, sv, rfl, h⟩ := h; rw [List.all_cons, List.all_cons, h]; rfl
def WtC (t : HT) (cs : List Value) : Prop := ∃ sv, cs = [.int .i64 t.wt, sv] ∧ cell1 sv = true
theorem WtC.w2 {t : HT} {cs : List Value} (h : WtC t cs) : W2 cs := by obtain ⟨sv, e, h⟩ := h; exact ⟨_, sv, e, h⟩
theorem tr_push {A : St} {lo : Nat} {css : List (List Value)} {cs : List Value} {v : Value} (h : Row A 89 2 lo css.flatten css.length v) (hx : W2 cs) (hlo : lo ≤ A.next) (hl : css.length ≤ 1000000) :
    ∃ v' A', aappend Try.prog (A.alloc (.cells cs 89 (some 0))) 87 87 v (.slice (some ⟨A.next, 0, none⟩) 1 1) = some (v', A') ∧ Row A' 89 2 lo (css ++ [cs]).flatten (css ++ [cs]).length v' ∧ A'.next = A.next + 2 ∧ rowB v' = some (A.next + 1) ∧ ∀ b, b < A.next → rowB v ≠ some b → A'.get b = A.get b := by
  obtain ⟨v', A2, hap, hr2, hn2, hrb, hf2⟩ := row_push (A := A) (sp := none) (c := 1) (xs := cs) Try.el87 Try.underlying87 (by intro k; exact TypeDesc.noConfusion) Try.sz89 Try.byt89 Try.zero89 rfl h hlo (by omega) (by omega) hx.cell hx.len
  refine ⟨v', A2, hap, ?_, hn2, hrb, hf2⟩
  rw [List.flatten_append, List.length_append]
  simpa using hr2
end Go.Fw
