import Derived.Test.YtpjacnialnlilaaFwPre13
set_option linter.unusedSimpArgs false
set_option linter.unusedVariables false
set_option maxRecDepth 4000
namespace Go.Fw
open Go.Proofs Go.RowKit
theorem DI.block {A A' : St} {o : List Int} {ov : Value} {l : List HT} {v : Value} (h : DI A A' o ov l v) (hn : 0 < o.length) : ∃ ob sp, ov = .slice (some ⟨ob, 0, sp⟩) o.length o.length ∧ A.next ≤ ob ∧ ob < A'.next ∧ A'.get ob = intB o ∧ (∀ i : Nat, i < o.length → indexAddrU Try.prog (some (.slice 3)) ov (.int .i64 i) = some (.pointer (some ⟨ob, i, none⟩))) ∧
    ∀ o', o'.length = o.length → DI A (A'.upd ob (intB o')) o' ov l v := by
  have hout := h.out
  rcases hout.2 with ⟨h0, _⟩ | ⟨ob, sp, rfl, h1, h2, h3, h4⟩
  · omega
  · refine ⟨ob, sp, rfl, h2, h3, h4, fun i hi => ?_, fun o' ho' => ⟨h.nx, fun b hb => (get_upd_old (by omega)).trans (h.get b hb), ?_, ?_⟩⟩
    · refine (indexAddr_slice Try.prog .i64 3 ob 0 sp o.length o.length i (by omega) (by omega)).trans ?_
      rw [Try.sz3]; simp
    · exact ⟨by rw [List.length_map, Nat.mul_one], .inr ⟨ob, sp, by rw [ho'], h1, h2, h3, get_upd_same ..⟩⟩
    · obtain ⟨css, ha, hr⟩ := h.row
      refine ⟨css, ha.imp fun t cs ht => ht.kp (KpI.hide (Nat.le_refl _) fun b cs hb hL _ => ⟨hL, get_upd_old fun e => hL (by rw [e]; exact mem_rbL.2 rfl)⟩), hr.keepT (Nat.le_refl _) (fun b cs _ hb hx => get_upd_old fun e => ?_) (Nat.le_refl _)⟩
      rw [e, h4] at hx
      injection hx with hx
      injection hx with _ hx
      exact absurd hx (by decide)
theorem All2.split {α β : Type} {R : α → β → Prop} : ∀ {l1 : List α} {x : α} {l2 : List α} {m : List β}, All2 R (l1 ++ x :: l2) m → ∃ m1 y m2, m = m1 ++ y :: m2 ∧ All2 R l1 m1 ∧ R x y ∧ All2 R l2 m2
  | [], x, l2, _, .cons h t => ⟨[], _, _, rfl, .nil, h, t⟩
  | a :: l1, x, l2, _, .cons h t => by
    obtain ⟨m1, y, m2, rfl, h1, h2, h3⟩ := All2.split (l1 := l1) t
    exact ⟨_ :: m1, y, m2, rfl, .cons h h1, h2, h3⟩
end Go.Fw
