import Derived.Test.YtphfkbagjpcmpaaFw27
/-! More of rows and views. -/
set_option linter.unusedSimpArgs false
set_option linter.unusedVariables false
namespace Go.Fw
open Go.RowKit
section
variable {A : St}
theorem View.src {sz len : Nat} {cs : List Value} {v : Value} (h : View A sz cs len v) : srcCells A sz v = some (len, cs) := by
  rcases h with ⟨hl, ⟨rfl, ad, c, rfl⟩ | ⟨b, off, sp, c, cells, e, m, rfl, h1, h2, h3, h4⟩⟩
  · obtain rfl : cs = [] := List.eq_nil_of_length_eq_zero (by rw [hl]; simp)
    cases ad <;> rfl
  · by_cases h0 : len = 0
    · subst h0
      obtain rfl : cs = [] := List.eq_nil_of_length_eq_zero (by rw [hl]; simp)
      rfl
    · rw [srcCells_slice h0 h2 h3, h4]
/-- What is appended is a slice that is read. -/
theorem row_app {P : Program} {sT xT e bs : Nat} {z x : Value} {m sz lo len : Nat} {cs new : List Value} {ux : TypeDesc} {v : Value} (hel : telem P sT = some e) (hx : P.underlying xT = some ux) (hux : ∀ k, ux ≠ .int k) (hsz : tsz P e = some (sz + 1)) (hb : tbytes P e = some bs) (hz : tzero P e = some z) (hzc : z.cells.size = sz + 1)
    (hr : Row A e (sz + 1) lo cs len v) (hlo : lo ≤ A.next) (hv : View A (sz + 1) new m x) (hlen : (len + m) * bs ≤ 140737488355328) (hcap : len + m ≤ 9223372036854775807) (hnew : new.all cell1 = true) :
    ∃ v' A', aappend P A sT xT v x = some (v', A') ∧ Row A' e (sz + 1) lo (cs ++ new) (len + m) v' ∧ A.next ≤ A'.next ∧ ∀ b, b < A.next → rowB v ≠ some b → A'.get b = A.get b := by
  by_cases hm : m = 0
  · subst hm
    obtain rfl : new = [] := List.eq_nil_of_length_eq_zero (by rw [hv.1]; simp)
    refine ⟨v, A, ?_, by rw [List.append_nil]; exact hr, Nat.le_refl _, fun b _ _ => rfl⟩
    have h2 : ¬ (sz + 1 = 0 ∨ z.cells.size ≠ sz + 1) := by omega
    have hs := hv.src
    rcases hr.2 with ⟨rfl, rfl⟩ | ⟨b, sp, rfl, _⟩
    · unfold aappend
      cases ux with
      | int k => exact absurd rfl (hux k)
      | _ => simp only [hel, hx, hsz, hb, hz, hs, if_neg h2, Nat.add_zero, Nat.le_refl, if_true]
    · unfold aappend
      cases ux with
      | int k => exact absurd rfl (hux k)
      | _ => simp only [hel, hx, hsz, hb, hz, hs, if_neg h2, Nat.add_zero, Nat.le_refl, if_true]
  · obtain ⟨v', A', h1, h2, h3, h4, h5⟩ := row_append hel hx hux hsz hb hz hzc hr hlo hv.src (by omega) hlen hcap hnew hv.1
    exact ⟨v', A', h1, h2, by omega, h5⟩
theorem isBu_t : (isB (some undef) == some true) = false := Eq.trans rfl rfl
theorem isBu_f : (isB (some undef) == some false) = false := Eq.trans rfl rfl
/-- Ints as an argument's elements. -/
def i64E (i : Int) : List Value := [.int .i64 i]
theorem i64E_len (i : Int) : (i64E i).length = 1 := rfl
theorem i64E_pl (i : Int) : (i64E i).all plainV = true := rfl
def i64Ok (i : Int) : Prop := -9223372036854775808 ≤ i ∧ i ≤ 9223372036854775807
theorem i64_dec {H : Type} {enc : TypeId × Value → H} {P : Program} {w : World} {held : Bool} {e : TypeId} (hu : P.underlying e = some (.int .i64)) (n : Nat) (cs : List Value) (y : DataW H × List MemPlace) (h : DataW.trod enc P w 0 (fun _ => true) held n e cs = some y) : ∃ a, cs = i64E a ∧ i64Ok a := by
  obtain ⟨a, e0, _, w0⟩ := DataW.trod_int hu h
  refine ⟨a, e0, ?_⟩
  have := w0
  simp [Lit.wf, IntKind.min, IntKind.max, IntKind.bits, IntKind.signed] at this
  unfold i64Ok
  omega
theorem i64E_at (l : List Int) (i : Nat) (x : Int) (h : l[i]? = some x) : (l.flatMap i64E)[i]? = some (.int .i64 x) := by
  have := flatMap_at (encE := i64E) (sz := 1) l (fun y _ => rfl) i 0 (by decide)
  rw [Nat.mul_one, Nat.add_zero, h] at this
  exact this
/-- One old block turned, all else old as it was. -/
theorem wf_upd (hw : WF A) {r : Nat} {cs : List Value} {e : TypeId} {m : Option Nat} (hr : r < A.next) (hcs : ∀ v ∈ cs, Bnd A.next v) : WF (A.upd r (some (.cells cs e m))) := by
  intro b B hB
  rw [St.get_upd] at hB
  by_cases hb : b = r
  · rw [if_pos hb] at hB; cases hB
    exact ⟨by rw [hb]; exact hr, hcs⟩
  · rw [if_neg hb] at hB
    exact hw b B hB
theorem gc_upd {A' : St} {r : Nat} {cs : List Value} {e : TypeId} {m : Option Nat} {v v' : Value} (hw : WF A) (hr : r < A.next) (hcs : ∀ v ∈ cs, Bnd A.next v) (h : Over (A.upd r (some (.cells cs e m))) A') (hv : v' = v) (hb : Bnd A.next v) :
    GcE A (fin v (A.upd r (some (.cells cs e m)))) (.returned v') A' := by
  subst hv
  have hw' := wf_upd hw hr hcs (e := e) (m := m)
  exact .inr ⟨_, h.sub hw', Nat.le_refl _, hw', .returned hb, fin_self _⟩
theorem over_upd {A' : St} {r : Nat} {B : Option Blk} (hn : A.next ≤ A'.next) (hr : A'.get r = B) (hg : ∀ b, b < A.next → b ≠ r → A'.get b = A.get b) : Over (A.upd r B) A' :=
  ⟨hn, fun b hb => by
    rw [St.get_upd]
    by_cases h : b = r
    · rw [if_pos h, h]; exact hr
    · rw [if_neg h]; exact hg b hb h⟩
end
end Go.Fw
