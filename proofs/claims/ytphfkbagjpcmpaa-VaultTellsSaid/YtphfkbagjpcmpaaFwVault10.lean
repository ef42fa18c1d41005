import Derived.Test.YtphfkbagjpcmpaaFwVault9
import Derived.Test.YtphfkbagjpcmpaaFw36
set_option linter.unusedSimpArgs false
set_option linter.unusedVariables false
namespace Go.Fw
open Go.Proofs Go.RowKit
/-- What is known of a state that came of small requests. -/
def StT.sm8 (S : StT) : Prop := S.vers.length ≤ 8 ∧ S.seqs.length = 3 ∧ S.last.length = 3 ∧ (∀ V ∈ S.vers, V.small) ∧ ∀ R ∈ S.last, R.v.small ∧ R.ids.length ≤ 8
def ReplyT.sm (R : ReplyT) : Prop := R.v.small ∧ R.ids.length ≤ 8
theorem verN_small : verN.small := ⟨Nat.zero_le _, Nat.zero_le _, Nat.zero_le _⟩
theorem errR_sm (e : Int) : (errR e).sm := ⟨verN_small, Nat.zero_le _⟩
theorem getD_small {l : List VerT} (hl : ∀ V ∈ l, V.small) (i : Nat) : (l.getD i verN).small := by
  rw [List.getD_eq_getElem?_getD]
  cases h : l[i]? with
  | none => exact verN_small
  | some V => exact hl V (List.mem_of_getElem? h)
theorem doL_sm {l : List VerT} {o : VOp} (h8 : l.length ≤ 8) (hl : ∀ V ∈ l, V.small) (ho : o.v.small) : (∀ V ∈ (doL l o).1, V.small) ∧ (doL l o).2.sm := by
  unfold doL
  split
  · split
    · exact ⟨hl, errR_sm _⟩
    split
    · exact ⟨hl, errR_sm _⟩
    split
    · exact ⟨hl, errR_sm _⟩
    · refine ⟨fun V hV => ?_, errR_sm _⟩
      rcases List.mem_append.1 hV with hV | hV
      · exact hl V hV
      · rw [List.mem_singleton.1 hV]; exact ho
  split
  · split
    · exact ⟨hl, errR_sm _⟩
    · exact ⟨fun V hV => hl V (List.mem_of_mem_eraseIdx hV), errR_sm _⟩
  split
  · refine ⟨fun V hV => hl V (List.mem_of_mem_drop hV), verN_small, ?_⟩
    simp only [List.length_map, List.length_take]; omega
  split
  · refine ⟨hl, verN_small, ?_⟩
    simp only [List.length_map]; exact h8
  split
  · split
    · exact ⟨hl, errR_sm _⟩
    · exact ⟨hl, getD_small hl _, Nat.zero_le _⟩
  · exact ⟨hl, errR_sm _⟩
theorem applyS_sm {S : StT} {r : ReqT} (h : S.sm8) (ho : r.op.v.small) : (applyS S r).1.sm8 ∧ (applyS S r).2.sm := by
  obtain ⟨h1, h2, h3, h4, h5⟩ := h
  unfold applyS
  split
  · exact ⟨⟨h1, h2, h3, h4, h5⟩, errR_sm _⟩
  split
  · refine ⟨⟨h1, h2, h3, h4, h5⟩, ?_⟩
    rw [List.getD_eq_getElem?_getD]
    cases hx : S.last[r.client.toNat]? with
    | none => exact errR_sm _
    | some R => exact h5 R (List.mem_of_getElem? hx)
  split
  · exact ⟨⟨h1, h2, h3, h4, h5⟩, errR_sm _⟩
  · obtain ⟨d1, d2⟩ := doL_sm h1 h4 ho
    refine ⟨⟨doL_len _ h1, by simpa using h2, by simpa using h3, d1, fun R hR => ?_⟩, d2⟩
    rcases List.mem_or_eq_of_mem_set hR with hR | rfl
    · exact h5 R hR
    · exact d2
theorem S0_sm : S0.sm8 := ⟨Nat.zero_le _, rfl, rfl, fun V h => (by cases h), fun R h => by
  simp only [S0, List.mem_cons, List.not_mem_nil, or_false] at h
  rcases h with rfl | rfl | rfl <;> exact errR_sm _⟩
theorem allS_sm : ∀ (l : List ReqT), (∀ r ∈ l, r.op.v.small) → (allS l).1.sm8 ∧ ∀ R ∈ (allS l).2, R.sm := by
  intro l
  generalize hn : l.length = n
  induction n generalizing l with
  | zero =>
    intro _
    rw [List.eq_nil_of_length_eq_zero hn]
    exact ⟨S0_sm, fun R h => by cases h⟩
  | succ n ih =>
    intro h
    obtain ⟨m, r, rfl⟩ : ∃ m r, l = m ++ [r] := ⟨l.dropLast, l.getLast (by intro e; subst e; simp at hn), (List.dropLast_concat_getLast _).symm⟩
    have hm : m.length = n := by simp at hn; exact hn
    obtain ⟨i1, i2⟩ := ih m hm (fun r hr => h r (List.mem_append_left _ hr))
    rw [allS_snoc]
    obtain ⟨a1, a2⟩ := applyS_sm i1 (h r (List.mem_append_right _ (List.mem_singleton.2 rfl)))
    refine ⟨a1, fun R hR => ?_⟩
    rcases List.mem_append.1 hR with hR | hR
    · exact i2 R hR
    · rw [List.mem_singleton.1 hR]; exact a2
theorem StT.sm8.sm {S : StT} (h : S.sm8) : S.sm := ⟨by have := h.1; omega, h.2.2.2.1, fun R hR => ⟨(h.2.2.2.2 R hR).1, by have := (h.2.2.2.2 R hR).2; omega⟩⟩
/-- The reply to each request is what applying it comes to. -/
theorem allS_at (l : List ReqT) : ∀ (i : Nat) (r : ReqT), l[i]? = some r → (allS l).2[i]? = some (applyS (allS (l.take i)).1 r).2 := by
  generalize hn : l.length = n
  induction n generalizing l with
  | zero => intro i r h; rw [List.eq_nil_of_length_eq_zero hn] at h; simp at h
  | succ n ih =>
    intro i r h
    obtain ⟨m, q, rfl⟩ : ∃ m r, l = m ++ [r] := ⟨l.dropLast, l.getLast (by intro e; subst e; simp at hn), (List.dropLast_concat_getLast _).symm⟩
    have hm : m.length = n := by simp at hn; exact hn
    rw [allS_snoc]
    have hlen := (allS_len m).2
    by_cases hi : i < m.length
    · rw [List.getElem?_append_left hi] at h
      rw [List.getElem?_append_left (by omega), ih m hm i r h, List.take_append_of_le_length (by omega)]
    · have hlt : i < (m ++ [q]).length := (List.getElem?_eq_some_iff.1 h).1
      have hi' : i = m.length := by simp at hlt; omega
      subst hi'
      rw [List.getElem?_append_right (by omega), Nat.sub_self] at h
      cases h
      simp only
      rw [List.getElem?_append_right (by omega), hlen, Nat.sub_self, List.take_left']
      · rfl
      · rfl
/-- Requests that were read. -/
theorem ok_of {l : List ReqT} (h : ∀ r ∈ l, r.okA) (hs : ∀ r ∈ l, r.op.v.small) : ∀ r ∈ l, r.ok := fun r hr => ⟨(h r hr).1, (h r hr).2.1, (h r hr).2.2.1, (h r hr).2.2.2.1, hs r hr⟩
theorem NV.pre {α : Type} {P : Program} {A : St} {sz k e : Nat} {ik : IntKind} {E : α → List Value → Prop} {l : List α} {v : Value} (h : NV A sz E l v) (hs : SlOk sz v) (hsz : tsz P e = some sz) (h0 : 0 < sz) (hk : k ≤ l.length) : ∃ v', sliceU (some (.slice e)) (tsz P) v none (some (.int ik (k : Int))) none = some v' ∧ NV A sz E (l.take k) v' ∧ SlOk sz v' := by
  obtain ⟨css, ha, hl, hv⟩ := h
  obtain ⟨v', h1, h2, h3, _⟩ := View.pre (P := P) (e := e) (ik := ik) hv hs hsz h0 hk
  refine ⟨v', h1, ⟨css.take k, ha.take k, fun cs hc => hl cs (List.mem_of_mem_take hc), ?_⟩, h3⟩
  rw [← flat_take k hl, List.length_take, Nat.min_eq_left hk]; exact h2
/-- A state's variable, newly laid. -/
theorem one_st (B : St) {cs : List Value} (h1 : cs.length = 22 ∧ cs.all cell1 = true) : ∃ C, storeC (B.alloc (.cells [.slice none 0 0, .int .u32 0, .int .u32 0, .int .u32 0, .int .i64 0, .slice none 0 0, .int .u32 0, .slice none 0 0, .slice none 0 0, .slice none 0 0, .int .i64 0, .slice none 0 0, .int .u32 0, .slice none 0 0, .slice none 0 0, .slice none 0 0, .int .i64 0, .slice none 0 0, .int .u32 0, .slice none 0 0, .slice none 0 0, .slice none 0 0] 43 (some 0))) (some 22) (some (.cells [.slice none 0 0, .int .u32 0, .int .u32 0, .int .u32 0, .int .i64 0, .slice none 0 0, .int .u32 0, .slice none 0 0, .slice none 0 0, .slice none 0 0, .int .i64 0, .slice none 0 0, .int .u32 0, .slice none 0 0, .slice none 0 0, .slice none 0 0, .int .i64 0, .slice none 0 0, .int .u32 0, .slice none 0 0, .slice none 0 0, .slice none 0 0] 43 (some 0))) B.next 0 (.agg cs.toArray) = some C ∧ Over B C ∧ C.next = B.next + 1 ∧ C.get B.next = some (.cells cs 43 (some 0)) :=
  ⟨_, stN (n := 22) rfl h1.1 h1.2, ((Over.refl B).alloc _).upd (Nat.le_refl _) _, rfl, get_upd_same ..⟩
theorem one_stR (B : St) {cs : List Value} (h1 : cs.length = 6) (h2 : cs.all cell1 = true) : ∃ C, storeC (B.alloc (.cells [.int .i64 0, .slice none 0 0, .int .u32 0, .slice none 0 0, .slice none 0 0, .slice none 0 0] 40 (some 0))) (some 6) (some (.cells [.int .i64 0, .slice none 0 0, .int .u32 0, .slice none 0 0, .slice none 0 0, .slice none 0 0] 40 (some 0))) B.next 0 (.agg cs.toArray) = some C ∧ Over B C ∧ C.next = B.next + 1 ∧ C.get B.next = some (.cells cs 40 (some 0)) :=
  ⟨_, stN (n := 6) rfl h1 h2, ((Over.refl B).alloc _).upd (Nat.le_refl _) _, rfl, get_upd_same ..⟩
/-- A state's variable and a reply's, newly laid. -/
theorem two_st (B : St) {cs rc : List Value} (h1 : cs.length = 22 ∧ cs.all cell1 = true) (h2 : rc.length = 6) (h3 : rc.all cell1 = true) : ∃ C1 C, storeC ((B.alloc (.cells [.slice none 0 0, .int .u32 0, .int .u32 0, .int .u32 0, .int .i64 0, .slice none 0 0, .int .u32 0, .slice none 0 0, .slice none 0 0, .slice none 0 0, .int .i64 0, .slice none 0 0, .int .u32 0, .slice none 0 0, .slice none 0 0, .slice none 0 0, .int .i64 0, .slice none 0 0, .int .u32 0, .slice none 0 0, .slice none 0 0, .slice none 0 0] 43 (some 0))).alloc (.cells [.int .i64 0, .slice none 0 0, .int .u32 0, .slice none 0 0, .slice none 0 0, .slice none 0 0] 40 (some 0))) (some 22) (some (.cells [.slice none 0 0, .int .u32 0, .int .u32 0, .int .u32 0, .int .i64 0, .slice none 0 0, .int .u32 0, .slice none 0 0, .slice none 0 0, .slice none 0 0, .int .i64 0, .slice none 0 0, .int .u32 0, .slice none 0 0, .slice none 0 0, .slice none 0 0, .int .i64 0, .slice none 0 0, .int .u32 0, .slice none 0 0, .slice none 0 0, .slice none 0 0] 43 (some 0))) B.next 0 (.agg cs.toArray) = some C1 ∧
    C1.get (B.next + 1) = some (.cells [.int .i64 0, .slice none 0 0, .int .u32 0, .slice none 0 0, .slice none 0 0, .slice none 0 0] 40 (some 0)) ∧ storeC C1 (some 6) (some (.cells [.int .i64 0, .slice none 0 0, .int .u32 0, .slice none 0 0, .slice none 0 0, .slice none 0 0] 40 (some 0))) (B.next + 1) 0 (.agg rc.toArray) = some C ∧ Over B C ∧ C.next = B.next + 2 ∧ C.get B.next = some (.cells cs 43 (some 0)) ∧ C.get (B.next + 1) = some (.cells rc 40 (some 0)) :=
  ⟨_, _, stN (n := 22) rfl h1.1 h1.2, by rw [St.get_upd, if_neg (by omega)]; exact get_alloc_same .., stN (n := 6) rfl h2 h3, ((((Over.refl B).alloc _).alloc _).upd (Nat.le_refl _) _).upd (by omega) _, rfl, by rw [St.get_upd, if_neg (by omega), get_upd_same], get_upd_same ..⟩
/-- What stands behind a hidden block. -/
theorem hide_past {A A' : St} (g : Ge A A') {b : Nat} (h : A.next ≤ b) : Ge A (A'.hide [b]) := ⟨by rw [hide_next]; exact g.next, fun c B h1 h2 => by rw [hide_get, if_neg (by simp only [List.mem_cons, List.not_mem_nil, or_false]; omega)]; exact g.get c B h1 h2⟩
theorem StC.vers {A A' : St} {S : StT} {v : Value} {tl : List Value} (h : StC A S (v :: tl)) (g : Ge A A') {l' : List VerT} {v' : Value} (hv : VsV A' l' v') : StC A' ⟨l', S.seqs, S.last⟩ (v' :: tl) := by
  obtain ⟨v0, rs, e, h2, h3, h4, h5⟩ := h.ge g
  obtain ⟨rfl, rfl⟩ := List.cons.inj e
  exact ⟨v', rs, rfl, hv, h3, h4, h5⟩
theorem StC.parts {A : St} {S : StT} {cs : List Value} (h : StC A S cs) : ∃ v tl, cs = v :: tl ∧ VsV A S.vers v ∧ tl.length = 21 ∧ tl.all cell1 = true ∧ (∃ sq rs, tl = sq ++ rs ∧ sq = S.seqs.map (Value.int .u32 ·) ∧ sq.length = 3 ∧ rs.length = 18) := by
  have hl := h.len
  obtain ⟨v, rs, rfl, h2, h3, h4, h5⟩ := h
  obtain ⟨h6, h7⟩ := reps_cell h3
  have h8 : rs.length = 3 := by rw [← h3.length]; exact h5
  refine ⟨v, _, rfl, h2, by have := hl.1; simpa using this, ?_, _, _, rfl, rfl, by rw [List.length_map]; exact h4, by rw [flat_len h7, h8]⟩
  have := hl.2; rw [List.all_cons, Bool.and_eq_true] at this; exact this.2
theorem rq_one {A : St} {r : ReqT} {rc : List Value} (h : ReqC A r rc) {b : Nat} (hb : b < A.next) {e : TypeId} {m : Option Nat} (hg : A.get b = some (.cells rc e m)) : RqV A [r] (.slice (some ⟨b, 0, none⟩) 1 1) := by
  have hl := h.len
  refine ⟨[rc], .cons h .nil, fun cs hc => by rw [List.mem_singleton.1 hc]; exact hl, by simp [hl], .inr ⟨b, 0, none, 1, rc, e, m, rfl, hb, hg, by simp [hl], ?_⟩⟩
  rw [List.drop_zero, List.take_of_length_le (by simp [hl])]; simp
theorem RqA.over {A A' : St} {l : List ReqT} {v : Value} (h : RqA A l v) (o : Over A A') : RqA A' l v := ⟨h.1.ge o.ge, h.2⟩
theorem ReqV.over {A A' : St} {r : ReqT} {v : Value} (h : ReqV A r v) (o : Over A A') : ReqV A' r v := by
  obtain ⟨rc, rfl, h⟩ := h; exact ⟨rc, rfl, h.ge o.ge⟩
theorem VOpV.over {A A' : St} {r : VOp} {v : Value} (h : VOpV A r v) (o : Over A A') : VOpV A' r v := by
  obtain ⟨rc, rfl, h⟩ := h; exact ⟨rc, rfl, h.ge o.ge⟩
end Go.Fw
