import Derived.Test.YtphfkbagjpcmpaaFw24
/-! Rows that nobody else holds; stores of one cell; texts and rows of bytes. -/
set_option linter.unusedSimpArgs false
set_option linter.unusedVariables false
namespace Go.Fw
open Go.RowKit
section
variable {P : Program} {w0 : World} {A : St}
theorem nx_upd (n : Nat) (b : Option Blk) : (A.upd n b).next = A.next := Eq.trans rfl rfl
theorem nx_alloc (b : Blk) : (A.alloc b).next = A.next + 1 := Eq.trans rfl rfl
theorem natF_ne {a b : Nat} (h : a ≠ b) : (a = b) = False := eq_false h
theorem storeC_int (b off k : Nat) (cs : List Value) (e : TypeId) (ik : IntKind) (i : Int) (h1 : k ≤ off) (h2 : off + 1 ≤ cs.length) : storeC A (some 1) (some (.cells cs e (some k))) b off (.int ik i) = some (A.upd b (some (.cells (cs.set off (.int ik i)) e (some k)))) := storeC_one _ _ _ _ _ _ _ rfl rfl h1 h2
theorem storeC_bool (b off k : Nat) (cs : List Value) (e : TypeId) (x : Bool) (h1 : k ≤ off) (h2 : off + 1 ≤ cs.length) : storeC A (some 1) (some (.cells cs e (some k))) b off (.bool x) = some (A.upd b (some (.cells (cs.set off (.bool x)) e (some k)))) := storeC_one _ _ _ _ _ _ _ rfl rfl h1 h2
theorem storeC_string (b off k : Nat) (cs : List Value) (e : TypeId) (x : ByteArray) (h1 : k ≤ off) (h2 : off + 1 ≤ cs.length) : storeC A (some 1) (some (.cells cs e (some k))) b off (.string x) = some (A.upd b (some (.cells (cs.set off (.string x)) e (some k)))) := storeC_one _ _ _ _ _ _ _ rfl rfl h1 h2
theorem storeC_slice (b off k : Nat) (cs : List Value) (e : TypeId) (x : Option Addr) (n c : Nat) (h1 : k ≤ off) (h2 : off + 1 ≤ cs.length) : storeC A (some 1) (some (.cells cs e (some k))) b off (.slice x n c) = some (A.upd b (some (.cells (cs.set off (.slice x n c)) e (some k)))) := storeC_one _ _ _ _ _ _ _ rfl rfl h1 h2
theorem storeC_func (b off k : Nat) (cs : List Value) (e : TypeId) (f : Fn) (x y : Array Value) (h1 : k ≤ off) (h2 : off + 1 ≤ cs.length) : storeC A (some 1) (some (.cells cs e (some k))) b off (.func f x y) = some (A.upd b (some (.cells (cs.set off (.func f x y)) e (some k)))) := storeC_one _ _ _ _ _ _ _ rfl rfl h1 h2
theorem storeC_pointer (b off k : Nat) (cs : List Value) (e : TypeId) (p : Option Addr) (h1 : k ≤ off) (h2 : off + 1 ≤ cs.length) : storeC A (some 1) (some (.cells cs e (some k))) b off (.pointer p) = some (A.upd b (some (.cells (cs.set off (.pointer p)) e (some k)))) := storeC_one _ _ _ _ _ _ _ rfl rfl h1 h2
/-- A value of one cell. -/
def one1 (v : Value) : Bool := match v with | .agg _ | .tuple _ => false | _ => true
theorem storeC_val {b off k : Nat} {cs : List Value} {e : TypeId} {v : Value} (hv : one1 v = true) (h1 : k ≤ off := by omega) (h2 : off + 1 ≤ cs.length := by simp) : storeC A (some 1) (some (.cells cs e (some k))) b off v = some (A.upd b (some (.cells (cs.set off v) e (some k)))) := by
  cases v <;> first | exact storeC_one _ _ _ _ _ _ _ rfl rfl h1 h2 | (simp [one1] at hv)
theorem append_exact {sT xT e bs : Nat} {z x : Value} {m sz b len off : Nat} {cs new : List Value} {e' : TypeId} {md : Option Nat} {ux : TypeDesc} (hel : telem P sT = some e) (hx : P.underlying xT = some ux) (hux : ∀ k, ux ≠ .int k) (hsz : tsz P e = some sz) (hs0 : sz ≠ 0) (hb : tbytes P e = some bs) (hz : tzero P e = some z) (hzc : z.cells.size = sz)
    (hsrc : srcCells A sz x = some (m, new)) (hm : 0 < m) (hlen : (len + m) * bs ≤ 140737488355328) (hcap : len + m ≤ 9223372036854775807) (hA : A.get b = some (.cells cs e' md)) (hcs : off + len * sz ≤ cs.length) :
    aappend P A sT xT (.slice (some ⟨b, off, none⟩) len len) x = some (.slice (some ⟨A.next, 0, some sz⟩) (len + m) (len + m), A.alloc (.cells ((cs.drop off).take (len * sz) ++ new) e (some 0))) := by
  have h1 : ¬ len + m ≤ len := by omega
  have h2 : ¬ (sz = 0 ∨ z.cells.size ≠ sz) := by omega
  unfold aappend
  cases ux with
  | int k => exact absurd rfl (hux k)
  | _ => simp only [hel, hx, hsz, hb, hz, hsrc, if_neg h2, h1, if_false, hlen, hcap, hA, hcs, and_self, if_true]
theorem buildSlice_zero {t e : Nat} {z : Value} {sz : Nat} (hel : telem P t = some e) (hsz : tsz P e = some sz) (hz : tzero P e = some z) (hzc : 0 < z.cells.size) : abuildSlice P A t 0 #[] = some (.slice (some ⟨A.next, 0, none⟩) 0 0, A.alloc (.cells [] e (some 0))) := by
  unfold abuildSlice
  simp only [hel, hsz, hz]
  rw [if_pos ⟨by omega, hzc⟩, Nat.zero_mul]
  rfl
/-- The block of a row. -/
def rowB : Value → Option Nat
  | .slice (some ⟨b, _, _⟩) _ _ => some b
  | _ => none
/-- A row of 'len' elements of type e, whose cells are cs, that nobody else holds. -/
def Row (A : St) (e sz lo : Nat) (cs : List Value) (len : Nat) (v : Value) : Prop :=
  cs.length = len * sz ∧ ((len = 0 ∧ v = .slice none 0 0) ∨
  ∃ b sp, v = .slice (some ⟨b, 0, sp⟩) len len ∧ (sp = none ∨ sp = some sz) ∧ lo ≤ b ∧ b < A.next ∧ A.get b = some (.cells cs e (some 0)))
theorem Row.nil (A : St) (e sz lo : Nat) : Row A e sz lo [] 0 (.slice none 0 0) := ⟨by simp, .inl ⟨rfl, rfl⟩⟩
theorem Row.keep {A A' : St} {e sz lo lo' : Nat} {cs : List Value} {len : Nat} {v : Value} (h : Row A e sz lo cs len v) (hn : A.next ≤ A'.next) (hg : ∀ b, rowB v = some b → lo ≤ b → b < A.next → A'.get b = A.get b) (hl : lo' ≤ lo) : Row A' e sz lo' cs len v := by
  refine ⟨h.1, ?_⟩
  rcases h.2 with h | ⟨b, sp, rfl, h1, h2, h3, h4⟩
  · exact .inl h
  · exact .inr ⟨b, sp, rfl, h1, by omega, by omega, by rw [hg b rfl h2 h3]; exact h4⟩
theorem Row.over {A A' : St} {e sz lo : Nat} {cs : List Value} {len : Nat} {v : Value} (h : Row A e sz lo cs len v) (ho : Over A A') : Row A' e sz lo cs len v := h.keep ho.next (fun b _ _ hb => ho.get b hb) (Nat.le_refl _)
/-- What an append to a row does. -/
theorem row_append {sT xT e bs : Nat} {z x : Value} {m sz lo len : Nat} {cs new : List Value} {ux : TypeDesc} {v : Value} (hel : telem P sT = some e) (hx : P.underlying xT = some ux) (hux : ∀ k, ux ≠ .int k) (hsz : tsz P e = some (sz + 1)) (hb : tbytes P e = some bs) (hz : tzero P e = some z) (hzc : z.cells.size = sz + 1)
    (hr : Row A e (sz + 1) lo cs len v) (hlo : lo ≤ A.next) (hsrc : srcCells A (sz + 1) x = some (m, new)) (hm : 0 < m) (hlen : (len + m) * bs ≤ 140737488355328) (hcap : len + m ≤ 9223372036854775807) (hnew : new.all cell1 = true) (hnl : new.length = m * (sz + 1)) :
    ∃ v' A', aappend P A sT xT v x = some (v', A') ∧ Row A' e (sz + 1) lo (cs ++ new) (len + m) v' ∧ A'.next = A.next + 1 ∧ rowB v' = some A.next ∧ ∀ b, b < A.next → rowB v ≠ some b → A'.get b = A.get b := by
  have hl2 : (cs ++ new).length = (len + m) * (sz + 1) := by rw [List.length_append, hr.1, hnl, Nat.add_mul]
  rcases hr with ⟨hcl, ⟨rfl, rfl⟩ | ⟨b, sp, rfl, hsp, hb0, hb1, hbg⟩⟩
  · have hc0 : cs = [] := by apply List.eq_nil_of_length_eq_zero; rw [hcl]; simp
    subst hc0
    refine ⟨_, _, append_nil hel hx hux hsz hb hz hzc (by omega) hsrc hm (by simpa using hlen) (by omega), ⟨hl2, .inr ⟨A.next, some (sz + 1), by rw [Nat.zero_add], .inr rfl, hlo, by simp, by rw [get_alloc_same]; rfl⟩⟩, by simp, rfl, fun c hc _ => ?_⟩
    rw [get_alloc_old hc]
  · have ht : cs.take (len * (sz + 1)) = cs := List.take_of_length_le (by omega)
    rcases hsp with rfl | rfl
    · refine ⟨_, _, append_exact hel hx hux hsz (by omega) hb hz hzc hsrc hm hlen hcap hbg (by omega), ⟨hl2, .inr ⟨A.next, some (sz + 1), rfl, .inr rfl, hlo, by simp, by rw [get_alloc_same, List.drop_zero, ht]⟩⟩, by simp, rfl, fun c hc _ => ?_⟩
      rw [get_alloc_old hc]
    · refine ⟨_, _, append_own hel hx hux hsz hb hz hzc hsrc hm hlen hcap hbg (by omega) hnew, ⟨hl2, .inr ⟨A.next, some (sz + 1), rfl, .inr rfl, hlo, by simp, ?_⟩⟩, by simp, rfl, fun c hc hcb => ?_⟩
      · rw [ht, show A.next = (A.upd b none).next from rfl, get_alloc_same]
      · rw [get_alloc_old (by simpa using hc), get_upd_old (fun h => hcb (by rw [h]; rfl))]
/-- The same of what was built ahead of it, an element in cells xs. -/
theorem row_push {sT xT e bs : Nat} {z : Value} {sz lo len : Nat} {cs xs : List Value} {sp : Option Nat} {c : Nat} {ux : TypeDesc} {v : Value} (hel : telem P sT = some e) (hx : P.underlying xT = some ux) (hux : ∀ k, ux ≠ .int k) (hsz : tsz P e = some (sz + 1)) (hb : tbytes P e = some bs) (hz : tzero P e = some z) (hzc : z.cells.size = sz + 1)
    (hr : Row A e (sz + 1) lo cs len v) (hlo : lo ≤ A.next) (hlen : (len + 1) * bs ≤ 140737488355328) (hcap : len + 1 ≤ 9223372036854775807) (hnew : xs.all cell1 = true) (hnl : xs.length = sz + 1) :
    ∃ v' A', aappend P (A.alloc (.cells xs e (some 0))) sT xT v (.slice (some ⟨A.next, 0, sp⟩) 1 c) = some (v', A') ∧ Row A' e (sz + 1) lo (cs ++ xs) (len + 1) v' ∧ A'.next = A.next + 2 ∧ rowB v' = some (A.next + 1) ∧ ∀ b, b < A.next → rowB v ≠ some b → A'.get b = A.get b := by
  obtain ⟨v', A', h1, h2, h3, h4, h5⟩ := row_append (A := A.alloc (.cells xs e (some 0))) (x := .slice (some ⟨A.next, 0, sp⟩) 1 c) (new := xs) (m := 1) hel hx hux hsz hb hz hzc (hr.over ((Over.refl A).alloc _)) (by simp; omega)
    (by rw [srcCells_slice (by decide) (get_alloc_same ..) (by omega), List.drop_zero, List.take_of_length_le (by omega)]) (by decide) hlen hcap hnew (by omega)
  refine ⟨v', A', h1, h2, h3, h4, fun b hb hbr => ?_⟩
  rw [h5 b (by simp; omega) hbr, get_alloc_old hb]
theorem row_bytes_len {lo : Nat} {acc : List Int} {len : Nat} {v : Value} (h : Row A 5 1 lo (acc.map (.int .u8 ·)) len v) : len = acc.length := by have := h.1; simp at this; omega
/-- A slice of 'len' elements that stand in cells cs: to be read. -/
def View (A : St) (sz : Nat) (cs : List Value) (len : Nat) (v : Value) : Prop :=
  cs.length = len * sz ∧ ((len = 0 ∧ ∃ ad c, v = .slice ad 0 c) ∨
  ∃ b off sp c cells e m, v = .slice (some ⟨b, off, sp⟩) len c ∧ b < A.next ∧ A.get b = some (.cells cells e m) ∧ off + len * sz ≤ cells.length ∧ (cells.drop off).take (len * sz) = cs)
theorem View.keep {A A' : St} {sz : Nat} {cs : List Value} {len : Nat} {v : Value} (h : View A sz cs len v) (hn : A.next ≤ A'.next) (hg : ∀ b, rowB v = some b → b < A.next → A'.get b = A.get b) : View A' sz cs len v := by
  refine ⟨h.1, ?_⟩
  rcases h.2 with h | ⟨b, off, sp, c, cells, e, m, rfl, h1, h2, h3⟩
  · exact .inl h
  · exact .inr ⟨b, off, sp, c, cells, e, m, rfl, by omega, by rw [hg b rfl h1]; exact h2, h3⟩
theorem View.over {A A' : St} {sz : Nat} {cs : List Value} {len : Nat} {v : Value} (h : View A sz cs len v) (ho : Over A A') : View A' sz cs len v := h.keep ho.next (fun b _ hb => ho.get b hb)
theorem Row.view {e sz lo : Nat} {cs : List Value} {len : Nat} {v : Value} (h : Row A e sz lo cs len v) : View A sz cs len v := by
  refine ⟨h.1, ?_⟩
  rcases h.2 with ⟨h', rfl⟩ | ⟨b, sp, rfl, h1, h2, h3, h4⟩
  · exact .inl ⟨h', _, _, rfl⟩
  · exact .inr ⟨b, 0, sp, len, cs, e, some 0, rfl, h3, h4, by rw [h.1]; omega, by rw [List.drop_zero]; exact List.take_of_length_le (by rw [h.1]; omega)⟩
theorem View.lenU {sz e : Nat} {cs : List Value} {len : Nat} {v : Value} (h : View A sz cs len v) : lenU A (some (.slice e)) v = some (.int .i64 len, A) := by
  rcases h.2 with ⟨rfl, _, _, rfl⟩ | ⟨b, off, sp, c, cells, e, m, rfl, h1, h2, h3⟩ <;> rfl
theorem View.at {sz e : Nat} {cs : List Value} {len i : Nat} {v : Value} (h : View A sz cs len v) (hsz : tsz P e = some sz) (hi : i < len) : ∃ b off, b < A.next ∧ rowB v = some b ∧ (∀ k : IntKind, indexAddrU P (some (.slice e)) v (.int k i) = some (.pointer (some ⟨b, off, none⟩))) ∧
    ∃ cells e' m, A.get b = some (.cells cells e' m) ∧ off + sz ≤ cells.length ∧ (cells.drop off).take sz = (cs.drop (i * sz)).take sz := by
  rcases h.2 with ⟨rfl, _⟩ | ⟨b, off, sp, c, cells, e', m, rfl, h1, h2, h3, h4⟩
  · exact absurd hi (by omega)
  · have hle : (i + 1) * sz ≤ len * sz := Nat.mul_le_mul_right _ hi
    rw [Nat.add_mul, Nat.one_mul] at hle
    refine ⟨b, off + i * sz, h1, rfl, fun k => ?_, cells, e', m, h2, by omega, ?_⟩
    · refine (indexAddr_slice P k e b off sp len c (i : Int) (by omega) (by omega)).trans ?_
      rw [hsz]; simp
    · rw [← h4, List.drop_take, List.drop_drop, List.take_take, Nat.min_eq_left (by omega)]
/-- An element of one cell. -/
theorem View.at1 {e : Nat} {cs : List Value} {len i : Nat} {v x : Value} (h : View A 1 cs len v) (hsz : tsz P e = some 1) (hx : cs[i]? = some x) : ∃ b off, b < A.next ∧ rowB v = some b ∧ (∀ k : IntKind, indexAddrU P (some (.slice e)) v (.int k i) = some (.pointer (some ⟨b, off, none⟩))) ∧
    ∃ cells e' m, A.get b = some (.cells cells e' m) ∧ cells[off]? = some x := by
  have hi : i < len := by have := (List.getElem?_eq_some_iff.1 hx).1; have := h.1; omega
  obtain ⟨b, off, h1, h2, h3, cells, e', m, h4, h5, h6⟩ := h.at (e := e) hsz hi
  refine ⟨b, off, h1, h2, h3, cells, e', m, h4, ?_⟩
  have h7 := congrArg (·[0]?) h6
  simp only [List.getElem?_take, List.getElem?_drop, Nat.add_zero, Nat.mul_one, Nat.one_pos, if_true] at h7
  rw [h7]; exact hx
theorem intsOf_ints : ∀ l : List Int, intsOf .u8 (l.map (.int .u8 ·)) = some l
  | [] => rfl
  | x :: l => by simp only [List.map_cons, intsOf, intsOf_ints l]; rfl
/-- A text out of a view. -/
theorem View.text {e : Nat} {acc : List Int} {len : Nat} {v : Value} (h : View A 1 (acc.map (.int .u8 ·)) len v) (hu : P.underlying e = some (.int .u8)) : convU P A (some (.slice e)) (some .string) v = some (.string (strOfNums acc), A) := by
  have hl := h.1
  simp only [List.length_map, Nat.mul_one] at hl
  rcases h.2 with ⟨rfl, ad, c, rfl⟩ | ⟨b, off, sp, c, cells, e', m, rfl, h1, h2, h3, h4⟩
  · rw [List.eq_nil_of_length_eq_zero hl]
    cases ad with
    | none => rw [conv_text_nil, hu]; rfl
    | some ad => rw [conv_text_zero, hu]; rfl
  · by_cases h0 : len = 0
    · subst h0
      rw [conv_text_zero, hu, List.eq_nil_of_length_eq_zero hl]; rfl
    · rw [conv_text (h := h0), hu, u8O_u8, h2, textC_some (l := acc) (by omega) (by simpa using h4)]
theorem View.text_size {acc : List Int} {len : Nat} {v : Value} (h : View A 1 (acc.map (.int .u8 ·)) len v) : len = acc.length := by have := h.1; simp at this; omega
end
end Go.Fw
