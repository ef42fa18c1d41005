import Derived.Test.YtpjacnialnlilaaFwPre12
set_option linter.unusedSimpArgs false
set_option linter.unusedVariables false
set_option maxRecDepth 4000
namespace Go.Fw
open Go.Proofs Go.RowKit
/-! The document's list of trees, and its row of depths: the heap. -/
theorem Row.keepT {A A' : St} {e sz lo lo' : Nat} {cs : List Value} {len : Nat} {v : Value} (h : Row A e sz lo cs len v) (hn : A.next ≤ A'.next) (hg : ∀ b cs, lo ≤ b → b < A.next → A.get b = some (.cells cs e (some 0)) → A'.get b = A.get b) (hl : lo' ≤ lo) : Row A' e sz lo' cs len v := by
  refine ⟨h.1, ?_⟩
  rcases h.2 with h | ⟨b, sp, rfl, h1, h2, h3, h4⟩
  · exact .inl h
  · exact .inr ⟨b, sp, rfl, h1, by omega, by omega, by rw [hg b cs h2 h3 h4]; exact h4⟩
theorem Row.tag {A : St} {e e' sz lo b : Nat} {cs cs' : List Value} {len : Nat} {v : Value} (h : Row A e sz lo cs len v) (he : e ≠ e') (hb : A.get b = some (.cells cs' e' (some 0))) : rowB v ≠ some b := by
  rcases h.2 with ⟨_, rfl⟩ | ⟨b', sp, rfl, h1, h2, h3, h4⟩
  · exact fun h => by cases h
  · intro h
    injection h with h
    subst h
    rw [hb] at h4
    injection h4 with h4
    injection h4 with _ h4 _
    exact he h4.symm
def rbL (v : Value) : List Nat := (rowB v).toList
theorem mem_rbL {v : Value} {b : Nat} : b ∈ rbL v ↔ rowB v = some b := by
  unfold rbL; cases rowB v <;> simp [eq_comm]
/-- Blocks of numbers stay. -/
def KpI (B B' : St) : Prop := B.next ≤ B'.next ∧ ∀ b cs, b < B.next → B.get b = some (.cells cs 3 (some 0)) → B'.get b = B.get b
theorem KpI.ge {B B' : St} (h : Ge B B') : KpI B B' := ⟨h.next, fun b cs hb hx => (h.get b _ hb hx).trans hx.symm⟩
theorem KpI.hide {A A' : St} {L L' : List Nat} (hn : A.next ≤ A'.next) (hg : ∀ b cs, b < A.next → b ∉ L → A.get b = some (.cells cs 3 (some 0)) → b ∉ L' ∧ A'.get b = A.get b) : KpI (A.hide L) (A'.hide L') := by
  refine ⟨by rw [hide_next, hide_next]; exact hn, fun b cs hb hx => ?_⟩
  rw [hide_next] at hb
  rw [hide_get] at hx ⊢
  by_cases h : b ∈ L
  · rw [if_pos h] at hx; cases hx
  · rw [if_neg h] at hx
    obtain ⟨h1, h2⟩ := hg b cs hb h hx
    rw [if_neg h1, h2, hide_get, if_neg h]
def symC (t : HT) : List Value := t.syms.map fun s : Nat => Value.int .i64 (s : Int)
/-- A tree's cells. -/
def TrR (A : St) (lo : Nat) (t : HT) (cs : List Value) : Prop := ∃ sv, cs = [.int .i64 t.wt, sv] ∧ Row A 3 1 lo (symC t) t.syms.length sv
theorem TrR.wt {A : St} {lo : Nat} {t : HT} {cs : List Value} (h : TrR A lo t cs) : WtC t cs := by
  obtain ⟨sv, rfl, h⟩ := h
  refine ⟨sv, rfl, ?_⟩
  rcases h.2 with ⟨_, rfl⟩ | ⟨_, _, rfl, _⟩ <;> rfl
theorem TrR.kp {B B' : St} {lo : Nat} {t : HT} {cs : List Value} (h : TrR B lo t cs) (k : KpI B B') : TrR B' lo t cs := by
  obtain ⟨sv, rfl, h⟩ := h
  exact ⟨sv, rfl, h.keepT k.1 (fun b cs _ hb hx => k.2 b cs hb hx) (Nat.le_refl _)⟩
structure DI (A A' : St) (o : List Int) (ov : Value) (l : List HT) (v : Value) : Prop where
  nx : A.next ≤ A'.next
  get : ∀ b, b < A.next → A'.get b = A.get b
  out : Row A' 3 1 A.next (o.map (Value.int .i64 ·)) o.length ov
  row : ∃ css, All2 (TrR (A'.hide (rbL ov)) A.next) l css ∧ Row A' 89 2 A.next css.flatten css.length v
theorem DI.zero {A A' : St} {o : List Int} {ov : Value} {l : List HT} {v : Value} (h : DI A A' o ov l v) (ho : o.length ≤ 1000000) :
    ∃ ov' A2, aappend Try.prog (A'.alloc (.cells [.int .i64 0] 3 (some 0))) 22 22 ov (.slice (some ⟨A'.next, 0, none⟩) 1 1) = some (ov', A2) ∧ DI A A2 (o ++ [0]) ov' l v := by
  obtain ⟨v', A2, h1, h2, h3, h4, h5⟩ := row_push (A := A') (sp := none) (c := 1) (xs := [.int .i64 0]) Try.el22 Try.underlying22 (by intro k; exact TypeDesc.noConfusion) Try.sz3 Try.byt3 Try.zero3 rfl h.out h.nx (by omega) (by omega) rfl rfl
  obtain ⟨css, ha, hr⟩ := h.row
  have hnx := h.nx
  refine ⟨v', A2, h1, ⟨by omega, fun b hb => (h5 b (by omega) (h.out.ne hb)).trans (h.get b hb), by rw [List.map_append, List.length_append]; exact h2, css, ha.imp fun t cs ht => ht.kp (KpI.hide (by omega) fun b cs hb hL _ => ⟨fun e => ?_, h5 b hb fun e => hL (mem_rbL.2 e)⟩), hr.keepT (by omega) (fun b cs _ hb hx => h5 b hb (h.out.tag (by decide) hx)) (Nat.le_refl _)⟩⟩
  have e := mem_rbL.1 e
  rw [h4] at e
  cases e
  omega
theorem DI.leaf {A A' : St} {o : List Int} {ov : Value} {l : List HT} {v : Value} (h : DI A A' o ov l v) (f : Int) (i : Nat) (hl : l.length ≤ 1000000) :
    ∃ v' A2, aappend Try.prog ((A'.alloc (.cells [.int .i64 i] 3 (some 0))).alloc (.cells [.int .i64 f, .slice (some ⟨A'.next, 0, none⟩) 1 1] 89 (some 0))) 87 87 v (.slice (some ⟨A'.next + 1, 0, none⟩) 1 1) = some (v', A2) ∧ DI A A2 o ov (l ++ [.leaf f i]) v' := by
  obtain ⟨css, ha, hr⟩ := h.row
  have hcl := ha.length
  have hnx := h.nx
  have o1 : Over A' (A'.alloc (.cells [.int .i64 i] 3 (some 0))) := (Over.refl A').alloc _
  obtain ⟨v', A2, h1, h2, h3, h4, h5⟩ := tr_push (A := A'.alloc (.cells [.int .i64 i] 3 (some 0))) (cs := [.int .i64 f, .slice (some ⟨A'.next, 0, none⟩) 1 1]) (hr.over o1) ⟨f, _, rfl, rfl⟩ (by rw [nx_alloc]; omega) (by omega)
  rw [nx_alloc] at h3 h4 h5
  have hob : ∀ b, rowB ov = some b → b < A'.next := fun b hb => (h.out.rb b hb).2
  have kk : KpI ((A'.alloc (.cells [.int .i64 i] 3 (some 0))).hide (rbL ov)) (A2.hide (rbL ov)) := KpI.hide (by rw [nx_alloc]; omega) fun b cs hb hL hx => ⟨hL, h5 b hb ((hr.over o1).tag (by decide) hx)⟩
  refine ⟨v', A2, by rw [nx_alloc] at h1; exact h1, ⟨by omega, fun b hb => ?_, (h.out.over o1).keepT (by rw [nx_alloc]; omega) (fun b cs _ hb hx => h5 b hb ((hr.over o1).tag (by decide) hx)) (Nat.le_refl _), css ++ [[.int .i64 f, .slice (some ⟨A'.next, 0, none⟩) 1 1]], All2.app (ha.imp fun t cs ht => (ht.kp (KpI.ge (hide_over o1 _))).kp kk) (.cons (TrR.kp ?_ kk) .nil), h2⟩⟩
  · rw [h5 b (by omega) (hr.ne hb), get_alloc_old (by omega)]; exact h.get b hb
  · refine ⟨_, rfl, rfl, .inr ⟨A'.next, none, rfl, .inl rfl, hnx, by rw [hide_next, nx_alloc]; omega, ?_⟩⟩
    rw [hide_get, if_neg (fun e => by have := hob _ (mem_rbL.1 e); omega)]
    exact get_alloc_same ..
theorem sumG_cut (g : HT → Int) (l1 : List HT) (x : HT) (l2 : List HT) : sumG g (l1 ++ x :: l2) = g x + sumG g (l1 ++ l2) := by rw [sumG_app, sumG_app, sumG_cons]; omega
theorem DI.push {A A' : St} {o : List Int} {ov : Value} {l : List HT} {v : Value} (h : DI A A' o ov l v) {t : HT} {cs : List Value} (ht : TrR (A'.hide (rbL ov)) A.next t cs) (hl : l.length ≤ 1000000) :
    ∃ v' A2, aappend Try.prog (A'.alloc (.cells cs 89 (some 0))) 87 87 v (.slice (some ⟨A'.next, 0, none⟩) 1 1) = some (v', A2) ∧ DI A A2 o ov (l ++ [t]) v' := by
  obtain ⟨css, ha, hr⟩ := h.row
  have hcl := ha.length
  have hnx := h.nx
  obtain ⟨v', A2, h1, h2, h3, h4, h5⟩ := tr_push (A := A') (cs := cs) hr ht.wt.w2 h.nx (by omega)
  have kk : KpI (A'.hide (rbL ov)) (A2.hide (rbL ov)) := KpI.hide (by omega) fun b cs hb hL hx => ⟨hL, h5 b hb (hr.tag (by decide) hx)⟩
  exact ⟨v', A2, h1, ⟨by omega, fun b hb => by rw [h5 b (by omega) (hr.ne hb)]; exact h.get b hb, h.out.keepT (by omega) (fun b cs _ hb hx => h5 b hb (hr.tag (by decide) hx)) (Nat.le_refl _), css ++ [cs], All2.app (ha.imp fun t cs ht => ht.kp kk) (.cons (ht.kp kk) .nil), h2⟩⟩
theorem QOk.cut {n : Nat} {l1 : List HT} {x : HT} {l2 : List HT} (h : QOk n [] (l1 ++ x :: l2)) : QOk n [] (l1 ++ l2) ∧ (0 ≤ x.wt ∧ ∀ s ∈ x.syms, s < n) ∧ x.wt + sumG HT.wt (l1 ++ l2) ≤ 1099511627776 ∧ x.cnt + sumG HT.cnt (l1 ++ l2) ≤ 1000 := by
  have hw := h.wt
  have hc := h.cnt
  rw [sumG_nil, sumG_cut] at hw hc
  have hx := h.nn x (.inr (by simp))
  have hp := cnt_pos x
  refine ⟨⟨fun t ht => h.nn t (.inr ?_), ?_, ?_⟩, hx, by omega, by omega⟩
  · rcases ht with ht | ht
    · cases ht
    · rcases List.mem_append.1 ht with ht | ht
      · exact List.mem_append_left _ ht
      · exact List.mem_append_right _ (List.mem_cons_of_mem _ ht)
  · rw [sumG_nil]; have := hx.1; omega
  · rw [sumG_nil]; omega
end Go.Fw
