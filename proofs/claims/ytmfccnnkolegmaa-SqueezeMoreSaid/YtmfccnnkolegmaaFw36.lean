import Derived.Test.YtmfccnnkolegmaaFw24
import Derived.Deep.Slices
import Derived.Carry
import Derived.Lib.Builder
import Derived.Lib.Bytealg
/-! Rows that nobody else holds; stores of one cell; texts and rows of bytes. -/
set_option linter.unusedSimpArgs false
set_option linter.unusedVariables false
namespace Go.Fw
open Go.RowKit
section
variable {P : Program} {w0 : World} {A : St}
theorem nx_upd (n : Nat) (b : Option Blk) : (A.upd n b).next = A.next := Eq.trans rfl rfl
theorem nx_alloc (b : Blk) : (A.alloc b).next = A.next + 1 := Eq.trans rfl rfl
theorem natF_ne {a b : Nat} (h : a ≠ b) : (a = b) = False := eq_false h
theorem storeC_int (b off k : Nat) (cs : List Value) (e : TypeId) (ik : IntKind) (i : Int) (h1 : k ≤ off) (h2 : off + 1 ≤ cs.length) : storeC A (some 1) (some (.cells cs e (some k))) b off (.int ik i) = some (A.upd b (some (.cells (cs.set off (.int ik i)) e (some k)))) := storeC_one _ _ _ _ _ _ _ rfl rfl h1 h2
theorem storeC_bool (b off k : Nat) (cs : List Value) (e : TypeId) (x : Bool) (h1 : k ≤ off) (h2 : off + 1 ≤ cs.length) : storeC A (some 1) (some (.cells cs e (some k))) b off (.bool x) = some (A.upd b (some (.cells (cs.set off (.bool x)) e (some k)))) := storeC_one _ _ _ _ _ _ _ rfl rfl h1 h2
theorem storeC_string (b off k : Nat) (cs : List Value) (e : TypeId) (x : ByteArray) (h1 : k ≤ off) (h2 : off + 1 ≤ cs.length) : storeC A (some 1) (some (.cells cs e (some k))) b off (.string x) = some (A.upd b (some (.cells (cs.set off (.string x)) e (some k)))) := storeC_one _ _ _ _ _ _ _ rfl rfl h1 h2
theorem storeC_slice (b off k : Nat) (cs : List Value) (e : TypeId) (x : Option Addr) (n c : Nat) (h1 : k ≤ off) (h2 : off + 1 ≤ cs.length) : storeC A (some 1) (some (.cells cs e (some k))) b off (.slice x n c) = some (A.upd b (some (.cells (cs.set off (.slice x n c)) e (some k)))) := storeC_one _ _ _ _ _ _ _ rfl rfl h1 h2
theorem storeC_func (b off k : Nat) (cs : List Value) (e : TypeId) (f : Fn) (x y : Array Value) (h1 : k ≤ off) (h2 : off + 1 ≤ cs.length) : storeC A (some 1) (some (.cells cs e (some k))) b off (.func f x y) = some (A.upd b (some (.cells (cs.set off (.func f x y)) e (some k)))) := storeC_one _ _ _ _ _ _ _ rfl rfl h1 h2
theorem storeC_pointer (b off k : Nat) (cs : List Value) (e : TypeId) (p : Option Addr) (h1 : k ≤ off) (h2 : off + 1 ≤ cs.length) : storeC A (some 1) (some (.cells cs e (some k))) b off (.pointer p) = some (A.upd b (some (.cells (cs.set off (.pointer p)) e (some k)))) := storeC_one _ _ _ _ _ _ _ rfl rfl h1 h2
/-- A value of one cell. -/
def one1 (v : Value) : Bool := match v with | .agg _ | .tuple _ => false | _ => true
theorem storeC_val {b off k : Nat} {cs : List Value} {e : TypeId} {v : Value} (hv : one1 v = true) (h1 : k ≤ off := by omega) (h2 : off + 1 ≤ cs.length := by simp) : storeC A (some 1) (some (.cells cs e (some k))) b off v = some (A.upd b (some (.cells (cs.set off v) e (some k)))) := by
  cases v <;> first | exact storeC_one _ _ _ _ _ _ _ rfl rfl h1 h2 | (simp [one1] at hv)
theorem append_exact {sT xT e bs : Nat} {z x : Value} {m sz b len off : Nat} {cs new : List Value} {e' : TypeId} {md : Option Nat} {ux : TypeDesc} (hel : telem P sT = some e) (hx : P.underlying xT = some ux) (hux : ∀ k, ux ≠ .int k) (hsz : tsz P e = some sz) (hs0 : sz ≠ 0) (hb : tbytes P e = some bs) (hz : tzero P e = some z) (hzc : z.cells.size = sz)
    (hsrc : srcCells A sz x = some (m, new)) (hm : 0 < m) (hlen : (len + m) * bs ≤ 140737488355328) (hcap : len + m ≤ 9223372036854775807) (hA : A.get b = some (.cells cs e' md)) (hcs : off + len * sz ≤ cs.length) :
    aappend P A sT xT (.slice (some ⟨b, off, none⟩) len len) x = some (.slice (some ⟨A.next, 0, some sz⟩) (len + m) (len + m), A.alloc (.cells ((cs.drop off).take (len * sz) ++ new) e (some 0))) := by
  have h1 : ¬ len + m ≤ len := by omega
  have h2 : ¬ (sz = 0 ∨ z.cells.size ≠ sz) := by omega
  unfold aappend
  cases ux with
  | int k => exact absurd rfl (hux k)
  | _ => simp only [hel, hx, hsz, hb, hz, hsrc, if_neg h2, h1, if_false, hlen, hcap, hA, hcs, and_self, if_true]
/-- The block of a row. -/
def rowB : Value → Option Nat
  | .slice (some ⟨b, _, _⟩) _ _ => some b
  | _ => none
/-- A row of 'len' elements of type e, whose cells are cs, that nobody else holds. -/
def Row (A : St) (e sz lo : Nat) (cs : List Value) (len : Nat) (v : Value) : Prop :=
  cs.length = len * sz ∧ ((len = 0 ∧ v = .slice none 0 0) ∨
  ∃ b sp, v = .slice (some ⟨b, 0, sp⟩) len len ∧ (sp = none ∨ sp = some sz) ∧ lo ≤ b ∧ b < A.next ∧ A.get b = some (.cells cs e (some 0)))
theorem Row.nil (A : St) (e sz lo : Nat) : Row A e sz lo [] 0 (.slice none 0 0) := ⟨by simp, .inl ⟨rfl, rfl⟩⟩
theorem Row.keep {A A' : St} {e sz lo lo' : Nat} {cs : List Value} {len : Nat} {v : Value} (h : Row A e sz lo cs len v) (hn : A.next ≤ A'.next) (hg : ∀ b, rowB v = some b → lo ≤ b → b < A.next → A'.get b = A.get b) (hl : lo' ≤ lo) : Row A' e sz lo' cs len v := by
  refine ⟨h.1, ?_⟩
  rcases h.2 with h | ⟨b, sp, rfl, h1, h2, h3, h4⟩
  · exact .inl h
  · exact .inr ⟨b, sp, rfl, h1, by omega, by omega, by rw [hg b rfl h2 h3]; exact h4⟩
theorem Row.over {A A' : St} {e sz lo : Nat} {cs : List Value} {len : Nat} {v : Value} (h : Row A e sz lo cs len v) (ho : Over A A') : Row A' e sz lo cs len v := h.keep ho.next (fun b _ _ hb => ho.get b hb) (Nat.le_refl _)
/-- What an append to a row does. -/
theorem row_append {sT xT e bs : Nat} {z x : Value} {m sz lo len : Nat} {cs new : List Value} {ux : TypeDesc} {v : Value} (hel : telem P sT = some e) (hx : P.underlying xT = some ux) (hux : ∀ k, ux ≠ .int k) (hsz : tsz P e = some (sz + 1)) (hb : tbytes P e = some bs) (hz : tzero P e = some z) (hzc : z.cells.size = sz + 1)
    (hr : Row A e (sz + 1) lo cs len v) (hlo : lo ≤ A.next) (hsrc : srcCells A (sz + 1) x = some (m, new)) (hm : 0 < m) (hlen : (len + m) * bs ≤ 140737488355328) (hcap : len + m ≤ 9223372036854775807) (hnew : new.all cell1 = true) (hnl : new.length = m * (sz + 1)) :
    ∃ v' A', aappend P A sT xT v x = some (v', A') ∧ Row A' e (sz + 1) lo (cs ++ new) (len + m) v' ∧ A'.next = A.next + 1 ∧ rowB v' = some A.next ∧ ∀ b, b < A.next → rowB v ≠ some b → A'.get b = A.get b := by
  have hl2 : (cs ++ new).length = (len + m) * (sz + 1) := by rw [List.length_append, hr.1, hnl, Nat.add_mul]
  rcases hr with ⟨hcl, ⟨rfl, rfl⟩ | ⟨b, sp, rfl, hsp, hb0, hb1, hbg⟩⟩
  · have hc0 : cs = [] := by apply List.eq_nil_of_length_eq_zero; rw [hcl]; simp
    subst hc0
    refine ⟨_, _, append_nil hel hx hux hsz hb hz hzc (by omega) hsrc hm (by simpa using hlen) (by omega), ⟨hl2, .inr ⟨A.next, some (sz + 1), by rw [Nat.zero_add], .inr rfl, hlo, by simp, by rw [get_alloc_same]; rfl⟩⟩, by simp, rfl, fun c hc _ => ?_⟩
    rw [get_alloc_old hc]
  · have ht : cs.take (len * (sz + 1)) = cs := List.take_of_length_le (by omega)
    rcases hsp with rfl | rfl
    · refine ⟨_, _, append_exact hel hx hux hsz (by omega) hb hz hzc hsrc hm hlen hcap hbg (by omega), ⟨hl2, .inr ⟨A.next, some (sz + 1), rfl, .inr rfl, hlo, by simp, by rw [get_alloc_same, List.drop_zero, ht]⟩⟩, by simp, rfl, fun c hc _ => ?_⟩
      rw [get_alloc_old hc]
    · refine ⟨_, _, append_own hel hx hux hsz hb hz hzc hsrc hm hlen hcap hbg (by omega) hnew, ⟨hl2, .inr ⟨A.next, some (sz + 1), rfl, .inr rfl, hlo, by simp, ?_⟩⟩, by simp, rfl, fun c hc hcb => ?_⟩
      · rw [ht, show A.next = (A.upd b none).next from rfl, get_alloc_same]
      · rw [get_alloc_old (by simpa using hc), get_upd_old (fun h => hcb (by rw [h]; rfl))]
/-- The same of what was built ahead of it, an element in cells xs. -/
theorem row_push {sT xT e bs : Nat} {z : Value} {sz lo len : Nat} {cs xs : List Value} {sp : Option Nat} {c : Nat} {ux : TypeDesc} {v : Value} (hel : telem P sT = some e) (hx : P.underlying xT = some ux) (hux : ∀ k, ux ≠ .int k) (hsz : tsz P e = some (sz + 1)) (hb : tbytes P e = some bs) (hz : tzero P e = some z) (hzc : z.cells.size = sz + 1)
    (hr : Row A e (sz + 1) lo cs len v) (hlo : lo ≤ A.next) (hlen : (len + 1) * bs ≤ 140737488355328) (hcap : len + 1 ≤ 9223372036854775807) (hnew : xs.all cell1 = true) (hnl : xs.length = sz + 1) :
    ∃ v' A', aappend P (A.alloc (.cells xs e (some 0))) sT xT v (.slice (some ⟨A.next, 0, sp⟩) 1 c) = some (v', A') ∧ Row A' e (sz + 1) lo (cs ++ xs) (len + 1) v' ∧ A'.next = A.next + 2 ∧ rowB v' = some (A.next + 1) ∧ ∀ b, b < A.next → rowB v ≠ some b → A'.get b = A.get b := by
  obtain ⟨v', A', h1, h2, h3, h4, h5⟩ := row_append (A := A.alloc (.cells xs e (some 0))) (x := .slice (some ⟨A.next, 0, sp⟩) 1 c) (new := xs) (m := 1) hel hx hux hsz hb hz hzc (hr.over ((Over.refl A).alloc _)) (by simp; omega)
    (by rw [srcCells_slice (by decide) (get_alloc_same ..) (by omega), List.drop_zero, List.take_of_length_le (by omega)]) (by decide) hlen hcap hnew (by omega)
  refine ⟨v', A', h1, h2, h3, h4, fun b hb hbr => ?_⟩
  rw [h5 b (by simp; omega) hbr, get_alloc_old hb]
/-- A slice of 'len' elements that stand in cells cs: to be read. -/
def View (A : St) (sz : Nat) (cs : List Value) (len : Nat) (v : Value) : Prop :=
  cs.length = len * sz ∧ ((len = 0 ∧ ∃ ad c, v = .slice ad 0 c) ∨
  ∃ b off sp c cells e m, v = .slice (some ⟨b, off, sp⟩) len c ∧ b < A.next ∧ A.get b = some (.cells cells e m) ∧ off + len * sz ≤ cells.length ∧ (cells.drop off).take (len * sz) = cs)
theorem View.keep {A A' : St} {sz : Nat} {cs : List Value} {len : Nat} {v : Value} (h : View A sz cs len v) (hn : A.next ≤ A'.next) (hg : ∀ b, rowB v = some b → b < A.next → A'.get b = A.get b) : View A' sz cs len v := by
  refine ⟨h.1, ?_⟩
  rcases h.2 with h | ⟨b, off, sp, c, cells, e, m, rfl, h1, h2, h3⟩
  · exact .inl h
  · exact .inr ⟨b, off, sp, c, cells, e, m, rfl, by omega, by rw [hg b rfl h1]; exact h2, h3⟩
theorem View.over {A A' : St} {sz : Nat} {cs : List Value} {len : Nat} {v : Value} (h : View A sz cs len v) (ho : Over A A') : View A' sz cs len v := h.keep ho.next (fun b _ hb => ho.get b hb)
theorem Row.view {e sz lo : Nat} {cs : List Value} {len : Nat} {v : Value} (h : Row A e sz lo cs len v) : View A sz cs len v := by
  refine ⟨h.1, ?_⟩
  rcases h.2 with ⟨h', rfl⟩ | ⟨b, sp, rfl, h1, h2, h3, h4⟩
  · exact .inl ⟨h', _, _, rfl⟩
  · exact .inr ⟨b, 0, sp, len, cs, e, some 0, rfl, h3, h4, by rw [h.1]; omega, by rw [List.drop_zero]; exact List.take_of_length_le (by rw [h.1]; omega)⟩
theorem View.lenU {sz e : Nat} {cs : List Value} {len : Nat} {v : Value} (h : View A sz cs len v) : lenU A (some (.slice e)) v = some (.int .i64 len, A) := by
  rcases h.2 with ⟨rfl, _, _, rfl⟩ | ⟨b, off, sp, c, cells, e, m, rfl, h1, h2, h3⟩ <;> rfl
theorem View.at {sz e : Nat} {cs : List Value} {len i : Nat} {v : Value} (h : View A sz cs len v) (hsz : tsz P e = some sz) (hi : i < len) : ∃ b off, b < A.next ∧ rowB v = some b ∧ (∀ k : IntKind, indexAddrU P (some (.slice e)) v (.int k i) = some (.pointer (some ⟨b, off, none⟩))) ∧
    ∃ cells e' m, A.get b = some (.cells cells e' m) ∧ off + sz ≤ cells.length ∧ (cells.drop off).take sz = (cs.drop (i * sz)).take sz := by
  rcases h.2 with ⟨rfl, _⟩ | ⟨b, off, sp, c, cells, e', m, rfl, h1, h2, h3, h4⟩
  · exact absurd hi (by omega)
  · have hle : (i + 1) * sz ≤ len * sz := Nat.mul_le_mul_right _ hi
    rw [Nat.add_mul, Nat.one_mul] at hle
    refine ⟨b, off + i * sz, h1, rfl, fun k => ?_, cells, e', m, h2, by omega, ?_⟩
    · refine (indexAddr_slice P k e b off sp len c (i : Int) (by omega) (by omega)).trans ?_
      rw [hsz]; simp
    · rw [← h4, List.drop_take, List.drop_drop, List.take_take, Nat.min_eq_left (by omega)]
/-- An element of one cell. -/
theorem View.at1 {e : Nat} {cs : List Value} {len i : Nat} {v x : Value} (h : View A 1 cs len v) (hsz : tsz P e = some 1) (hx : cs[i]? = some x) : ∃ b off, b < A.next ∧ rowB v = some b ∧ (∀ k : IntKind, indexAddrU P (some (.slice e)) v (.int k i) = some (.pointer (some ⟨b, off, none⟩))) ∧
    ∃ cells e' m, A.get b = some (.cells cells e' m) ∧ cells[off]? = some x := by
  have hi : i < len := by have := (List.getElem?_eq_some_iff.1 hx).1; have := h.1; omega
  obtain ⟨b, off, h1, h2, h3, cells, e', m, h4, h5, h6⟩ := h.at (e := e) hsz hi
  refine ⟨b, off, h1, h2, h3, cells, e', m, h4, ?_⟩
  have h7 := congrArg (·[0]?) h6
  simp only [List.getElem?_take, List.getElem?_drop, Nat.add_zero, Nat.mul_one, Nat.one_pos, if_true] at h7
  rw [h7]; exact hx
/-- A text out of a view. -/
theorem View.text {e : Nat} {acc : List Int} {len : Nat} {v : Value} (h : View A 1 (acc.map (.int .u8 ·)) len v) (hu : P.underlying e = some (.int .u8)) : convU P A (some (.slice e)) (some .string) v = some (.string (strOfNums acc), A) := by
  have hl := h.1
  simp only [List.length_map, Nat.mul_one] at hl
  rcases h.2 with ⟨rfl, ad, c, rfl⟩ | ⟨b, off, sp, c, cells, e', m, rfl, h1, h2, h3, h4⟩
  · rw [List.eq_nil_of_length_eq_zero hl]
    cases ad with
    | none => rw [conv_text_nil, hu]; rfl
    | some ad => rw [conv_text_zero, hu]; rfl
  · by_cases h0 : len = 0
    · subst h0
      rw [conv_text_zero, hu, List.eq_nil_of_length_eq_zero hl]; rfl
    · rw [conv_text (h := h0), hu, u8O_u8, h2, textC_some (l := acc) (by omega) (by simpa using h4)]
end
end Go.Fw

/-! Values put together of parts; new slices of parts; stores of structs. -/
set_option linter.unusedSimpArgs false
set_option linter.unusedVariables false
namespace Go.Fw
open Go.RowKit
section
variable {P : Program} {A : St}
theorem aw_hide {w0 : World} {n0 : Nat} {nr : Bool} {c : Code} {Q0 : Exit → Act → St → Prop} {a : Act} (h : ∀ Q, Q = Q0 → AW P w0 n0 nr c Q a A) : AW P w0 n0 nr c Q0 a A := h _ rfl
/-- Parts' values, and whether they may be looked at. -/
def evP (a : Act) : List (Nat × Operand) → List (Nat × Value)
  | [] => []
  | (i, x) :: r => (i, a.eval x) :: evP a r
def okP (l : List (Nat × Operand)) : Bool := (l.map (·.2)).all okO
theorem evP_nil (a : Act) : evP a [] = [] := Eq.trans rfl rfl
theorem evP_cons (a : Act) (i : Nat) (x : Operand) (r : List (Nat × Operand)) : evP a ((i, x) :: r) = (i, a.eval x) :: evP a r := Eq.trans rfl rfl
theorem evP_map (a : Act) : ∀ l : List (Nat × Operand), l.map (fun (i, x) => (i, a.eval x)) = evP a l
  | [] => rfl
  | (i, x) :: r => by rw [List.map_cons, evP_cons, evP_map a r]
theorem okP_nil : okP [] = true := Eq.trans rfl rfl
theorem okP_cons (i : Nat) (x : Operand) (r : List (Nat × Operand)) : okP ((i, x) :: r) = (okO x && okP r) := Eq.trans rfl rfl
theorem op_buildL {w0 : World} {nr : Bool} {d : Option Tmp} {ty : TypeId} {pos : String} {aft : Array Edge} {g : Option (Nat × Bool)} {a : Act} {next : Act → St → Prop} {Q : Exit → Act → St → Prop} (t : TypeId) (l : List (Nat × Operand)) : aoper P w0 nr ⟨d, .build t l.toArray, ty, pos, aft, g⟩ a A next Q = stepV (guardO (okP l) (abuild P t (evP a l).toArray)) next a d A := by
  rw [op_build, ← evP_map]; simp [okP]
theorem op_buildSliceL {w0 : World} {nr : Bool} {d : Option Tmp} {ty : TypeId} {pos : String} {aft : Array Edge} {g : Option (Nat × Bool)} {a : Act} {next : Act → St → Prop} {Q : Exit → Act → St → Prop} (t : TypeId) (n : Nat) (l : List (Nat × Operand)) : aoper P w0 nr ⟨d, .buildSlice t n l.toArray, ty, pos, aft, g⟩ a A next Q = stepA (guardO (okP l) (abuildSlice P A t n (evP a l).toArray)) next a d := by
  rw [op_buildSlice, ← evP_map]; simp [okP]
theorem len_cons {α : Type} (a : α) (l : List α) : (a :: l).length = l.length + 1 := Eq.trans rfl rfl
theorem len_nil {α : Type} : ([] : List α).length = 0 := Eq.trans rfl rfl
theorem cells_int (k : IntKind) (i : Int) : (Value.int k i).cells = #[.int k i] := Eq.trans rfl rfl
theorem cells_bool (b : Bool) : (Value.bool b).cells = #[.bool b] := Eq.trans rfl rfl
theorem cells_string (b : ByteArray) : (Value.string b).cells = #[.string b] := Eq.trans rfl rfl
theorem cells_slice (a : Option Addr) (n c : Nat) : (Value.slice a n c).cells = #[.slice a n c] := Eq.trans rfl rfl
theorem cells_pointer (a : Option Addr) : (Value.pointer a).cells = #[.pointer a] := Eq.trans rfl rfl
theorem cells_func (f : Fn) (x y : Array Value) : (Value.func f x y).cells = #[.func f x y] := Eq.trans rfl rfl
theorem cells_map (r : Option Nat) : (Value.map r).cells = #[.map r] := Eq.trans rfl rfl
theorem cells_nilFunc : (Value.nilFunc).cells = #[.nilFunc] := Eq.trans rfl rfl
theorem cells_agg (cs : Array Value) : (Value.agg cs).cells = cs := Eq.trans rfl rfl
theorem cell1_bool (b : Bool) : cell1 (.bool b) = true := Eq.trans rfl rfl
theorem cell1_string (b : ByteArray) : cell1 (.string b) = true := Eq.trans rfl rfl
theorem cell1_slice (a : Option Addr) (n c : Nat) : cell1 (.slice a n c) = true := Eq.trans rfl rfl
theorem cell1_pointer (a : Option Addr) : cell1 (.pointer a) = true := Eq.trans rfl rfl
theorem cell1_func (f : Fn) (x y : Array Value) : cell1 (.func f x y) = true := Eq.trans rfl rfl
theorem cell1_i (k : IntKind) (i : Int) : cell1 (.int k i) = true := Eq.trans rfl rfl
theorem cell1_map (r : Option Nat) : cell1 (.map r) = true := Eq.trans rfl rfl
theorem cell1_nilFunc : cell1 .nilFunc = true := Eq.trans rfl rfl
theorem setList_nil (cs : List Value) (off : Nat) : setList cs off [] = cs := Eq.trans rfl rfl
theorem setList_cons (cs : List Value) (off : Nat) (v : Value) (r : List Value) : setList cs off (v :: r) = setList (cs.set off v) (off + 1) r := Eq.trans rfl rfl
theorem Row.ne {e sz lo : Nat} {cs : List Value} {len b : Nat} {v : Value} (h : Row A e sz lo cs len v) (hb : b < lo) : rowB v ≠ some b := by
  rcases h.2 with ⟨_, rfl⟩ | ⟨c, sp, rfl, _, hc, _⟩
  · exact fun h => by cases h
  · exact fun h => by cases h; omega
/-- A store of a struct. -/
theorem storeC_aggS (sz b off k : Nat) (cs : List Value) (e : TypeId) (l : List Value) (h : sz = l.length) (h1 : k ≤ off) (h2 : off + sz ≤ cs.length) : storeC A (some sz) (some (.cells cs e (some k))) b off (.agg l.toArray) = guardO (l.all cell1) (some (A.upd b (some (.cells (setList cs off l) e (some k))))) := by
  subst h
  by_cases hc : l.all cell1 = true
  · rw [hc, guardO_true, storeC_cells]
    · rw [cells_agg]
    · rw [cells_agg]
      exact ⟨by simp, h1, by simpa using h2, by rw [List.all_toArray]; exact hc⟩
  · rw [Bool.not_eq_true] at hc
    rw [hc]
    simp only [storeC, cells_agg, List.size_toArray, List.all_toArray, hc]
    simp [guardO]
    intro _ _
    simpa using hc
/-- Parts laid into cells, by a table of places. -/
def fillP (tab : List (Nat × Nat)) (cells : List Value) : List (Nat × Value) → Option (List Value)
  | [] => some cells
  | (i, v) :: rest => match tab[i]? with
    | none => none
    | some (off, size) => if v.cells.size = size ∧ off + size ≤ cells.length then fillP tab (setList cells off v.cells.toList) rest else none
def fillAt (tab : List (Nat × Nat)) (cells : List Value) (o : Option (Nat × Nat)) (c : Array Value) (rest : List (Nat × Value)) : Option (List Value) :=
  match o with
  | none => none
  | some (off, size) => if c.size = size ∧ off + size ≤ cells.length then fillP tab (setList cells off c.toList) rest else none
theorem fillP_nil (tab : List (Nat × Nat)) (cells : List Value) : fillP tab cells [] = some cells := Eq.trans rfl rfl
theorem fillP_cons (tab : List (Nat × Nat)) (cells : List Value) (i : Nat) (v : Value) (rest : List (Nat × Value)) : fillP tab cells ((i, v) :: rest) = fillAt tab cells tab[i]? v.cells rest := by
  unfold fillAt; rw [fillP]
theorem fillAt_some (tab : List (Nat × Nat)) (cells : List Value) (off : Nat) (c : List Value) (rest : List (Nat × Value)) (h : off + c.length ≤ cells.length) : fillAt tab cells (some (off, c.length)) c.toArray rest = fillP tab (setList cells off c) rest := by
  simp [fillAt, h]
theorem fillAt_1 (tab : List (Nat × Nat)) (cells : List Value) (off : Nat) (c : Value) (rest : List (Nat × Value)) (h : off + 1 ≤ cells.length) : fillAt tab cells (some (off, 1)) #[c] rest = fillP tab (cells.set off c) rest := by
  simp [fillAt, h, setList]
theorem fillAt_n (tab : List (Nat × Nat)) (cells : List Value) (off n : Nat) (c : List Value) (rest : List (Nat × Value)) (hn : n = c.length) (h : off + n ≤ cells.length) : fillAt tab cells (some (off, n)) c.toArray rest = fillP tab (setList cells off c) rest := by
  subst hn; exact fillAt_some _ _ _ _ _ h
theorem fill_eq {f : Nat → Option (Nat × Nat)} {tab : List (Nat × Nat)} : ∀ (ps : List (Nat × Value)) (cells : List Value), (∀ i, (∃ v, (i, v) ∈ ps) → f i = tab[i]?) → afill f cells ps = fillP tab cells ps
  | [], cells, _ => rfl
  | (i, v) :: ps, cells, h => by
    rw [afill, fillP, h i ⟨v, List.mem_cons_self ..⟩]
    rcases tab[i]? with _ | ⟨off, size⟩
    · rfl
    · simp only
      split
      · exact fill_eq ps _ fun j ⟨u, hu⟩ => h j ⟨u, List.mem_cons_of_mem _ hu⟩
      · rfl
def aggO (o : Option (List Value)) : Option Value := o.map fun cs => .agg cs.toArray
theorem aggO_some (l : List Value) : aggO (some l) = some (.agg l.toArray) := Eq.trans rfl rfl
theorem build_struct {t : TypeId} {fs : Array Field} {z : Value} {tab : List (Nat × Nat)} (hu : P.underlying t = some (.struct fs)) (hz : tzero P t = some z) (ht : fs.toList.map (fun f => (tsz P f.type).map fun s => (f.offset, s)) = tab.map some) (ps : List (Nat × Value)) : abuild P t ps.toArray = aggO (fillP tab z.cells.toList ps) := by
  have ha : fs.all (fun f => (tsz P f.type).isSome) = true := by
    rw [← Array.all_toList, List.all_eq_true]
    intro f hf
    have := List.mem_map_of_mem (f := fun f : Field => (tsz P f.type).map fun s => (f.offset, s)) hf
    rw [ht] at this
    obtain ⟨x, _, hx⟩ := List.mem_map.1 this
    cases h : tsz P f.type with
    | none => rw [h] at hx; cases hx
    | some _ => rfl
  have hp : ∀ i, aplace P fs i = tab[i]? := fun i => by
    have h := congrArg (fun l => l[i]?) ht
    simp only [List.getElem?_map] at h
    unfold aplace
    rw [← Array.getElem?_toList]
    cases h1 : fs.toList[i]? with
    | none => rw [h1] at h; cases h2 : tab[i]? with
      | none => rfl
      | some _ => rw [h2] at h; cases h
    | some f => rw [h1] at h; cases h2 : tab[i]? with
      | none => rw [h2] at h; cases h
      | some _ => rw [h2] at h; simp at h ⊢; exact h
  unfold abuild
  rw [hu, hz]
  simp only [ha, if_true]
  rw [fill_eq ps z.cells.toList (fun i _ => hp i)]
  rfl
/-- New slices of parts. -/
def sliceO (A : St) (n : Nat) (e : TypeId) (o : Option (List Value)) : Option (Value × St) := o.map fun cs => (.slice (some ⟨A.next, 0, none⟩) n n, A.alloc (.cells cs e (some 0)))
theorem sliceO_some (n : Nat) (e : TypeId) (l : List Value) : sliceO A n e (some l) = some (.slice (some ⟨A.next, 0, none⟩) n n, A.alloc (.cells l e (some 0))) := Eq.trans rfl rfl
/-- The places of so many elements. -/
def places (sz : Nat) : Nat → Nat → List (Nat × Nat)
  | 0, _ => []
  | n + 1, off => (off, sz) :: places sz n (off + sz)
theorem places_at (sz : Nat) : ∀ (n off i : Nat), i < n → (places sz n off)[i]? = some (off + i * sz, sz)
  | 0, _, _, h => by omega
  | n + 1, off, 0, _ => by simp [places]
  | n + 1, off, i + 1, h => by
    rw [places, List.getElem?_cons_succ, places_at sz n _ i (by omega), Nat.add_mul]
    congr 2; omega
theorem places_0 (sz off : Nat) : places sz 0 off = [] := Eq.trans rfl rfl
theorem places_s (sz n off : Nat) : places sz (n + 1) off = (off, sz) :: places sz n (off + sz) := Eq.trans rfl rfl
def zerosR (z : List Value) : Nat → List Value
  | 0 => []
  | n + 1 => z ++ zerosR z n
theorem zerosR_0 (z : List Value) : zerosR z 0 = [] := Eq.trans rfl rfl
theorem zerosR_s (z : List Value) (n : Nat) : zerosR z (n + 1) = z ++ zerosR z n := Eq.trans rfl rfl
theorem zerosR_length (z : List Value) : ∀ n, (zerosR z n).length = n * z.length
  | 0 => by simp [zerosR]
  | n + 1 => by rw [zerosR, List.length_append, zerosR_length z n, Nat.add_mul]; omega
theorem zerosR_at (z : List Value) (hz : 0 < z.length) : ∀ (n i : Nat), i < n * z.length → (zerosR z n)[i]? = z[i % z.length]?
  | 0, i, h => by simp at h
  | n + 1, i, h => by
    rw [zerosR]
    by_cases hi : i < z.length
    · rw [List.getElem?_append_left hi, Nat.mod_eq_of_lt hi]
    · rw [Nat.add_mul] at h
      rw [List.getElem?_append_right (by omega), zerosR_at z hz n (i - z.length) (by omega), ← Nat.mod_eq_sub_mod (by omega)]
theorem zeros_eq {z : Value} {sz : Nat} (hz : z.cells.size = sz) (hs : 0 < sz) (n : Nat) : zeros z (n * sz) = zerosR z.cells.toList n := by
  subst hz
  apply List.ext_getElem?
  intro i
  by_cases hi : i < n * z.cells.size
  · rw [zerosR_at _ (by simpa using hs) _ _ (by simpa using hi)]
    unfold zeros
    rw [List.getElem?_map, List.getElem?_range hi]
    have hm : i % z.cells.size < z.cells.size := Nat.mod_lt _ hs
    simp only [Option.map_some, Array.length_toList, Array.getElem?_toList]
    rw [Array.getElem?_eq_getElem hm, getElem!_pos z.cells _ hm]
  · rw [List.getElem?_eq_none (by simp [zeros]; omega), List.getElem?_eq_none (by rw [zerosR_length]; simp; omega)]
theorem buildSlice_eq {t e sz : Nat} {z : Value} (hel : telem P t = some e) (hsz : tsz P e = some sz) (hz : tzero P e = some z) (hzc : z.cells.size = sz) (hs : 0 < sz) (n : Nat) (ps : List (Nat × Value)) (hps : ps.all (fun p => p.1 < n) = true) (hn : n * sz ≤ 16777216) :
    abuildSlice P A t n ps.toArray = sliceO A n e (fillP (places sz n 0) (zerosR z.cells.toList n) ps) := by
  unfold abuildSlice
  simp only [hel, hsz, hz]
  rw [if_pos ⟨hn, by omega⟩, zeros_eq hzc hs, fill_eq (tab := places sz n 0) ps]
  · rfl
  · rintro i ⟨v, hv⟩
    have : i < n := by simpa using List.all_eq_true.1 hps _ hv
    rw [places_at _ _ _ _ this, Nat.zero_add]
def bslRaw (P : Program) (A : St) (t : TypeId) (n : Nat) (ps : List (Nat × Value)) : Option (Value × St) := abuildSlice P A t n ps.toArray
def thenElse {α : Type} (b : Bool) (x y : α) : α := if b then x else y
theorem thenElse_true {α : Type} (x y : α) : thenElse true x y = x := Eq.trans rfl rfl
theorem buildSlice_of {t e sz : Nat} {z : Value} (hel : telem P t = some e) (hsz : tsz P e = some sz) (hz : tzero P e = some z) (hzc : z.cells.size = sz) (hs : 0 < sz) (n : Nat) (ps : List (Nat × Value)) (hn : n * sz ≤ 16777216) :
    abuildSlice P A t n ps.toArray = thenElse (ps.all (fun p => decide (p.1 < n))) (sliceO A n e (fillP (places sz n 0) (zerosR z.cells.toList n) ps)) (bslRaw P A t n ps) := by
  unfold thenElse bslRaw
  split
  · rename_i h
    exact buildSlice_eq hel hsz hz hzc hs n ps h hn
  · rfl
end
end Go.Fw

/-! Where a law's arguments are slices: the first abstract heap, windows upon the machine's blocks that are only read. -/
set_option linter.unusedSimpArgs false
set_option linter.unusedVariables false
namespace Go.Fw
open Go.RowKit
section
/-- A heap at the beginning: what is in it is only read. -/
structure Start (w : World) (φ : Nat → Option Loc) (A : St) : Prop where
  sim : Sim w φ A w
  ro : ∀ b B, A.get b = some B → roBlk (some B)
theorem start_empty (w : World) : Start w (fun _ => none) St.empty := ⟨sim_empty w, fun b B e => by cases e⟩
variable {w : World} {φ : Nat → Option Loc} {A : St}
theorem Start.window (h : Start w φ A) {bl base : Nat} {C : Array Value} {e : TypeId} {fr : Nat × Nat} (hb : w.heap[bl]? = some (.cells C e fr)) {cs : List Value} (hl : base + cs.length ≤ C.size)
    (hcs : ∀ (i : Nat) (v : Value), cs[i]? = some v → ∃ v', C[base + i]? = some v' ∧ VR φ A.next v v') :
    ∃ φ', Start w φ' (A.alloc (.cells cs e none)) ∧ Ext A.next φ φ' ∧ φ' A.next = some ⟨bl, base, C.size⟩ := by
  have hx : Ext A.next φ (fun b => if b = A.next then some ⟨bl, base, C.size⟩ else φ b) := fun b hb => .inl (by simp [show b ≠ A.next by omega])
  refine ⟨fun b => if b = A.next then some ⟨bl, base, C.size⟩ else φ b, ⟨⟨h.sim.below, ?_, ?_, ?_⟩, ?_⟩, hx, by simp⟩
  · intro b B hB
    rw [St.get_alloc] at hB
    by_cases hbn : b = A.next
    · subst hbn
      rw [if_pos rfl] at hB
      cases hB
      refine ⟨by simp, _, if_pos rfl, C, fr, hb, rfl, hl, fun i v hv => ?_, fun k hk => by cases hk⟩
      obtain ⟨v', h1, h2⟩ := hcs i v hv
      exact ⟨v', h1, h2.mono (by simp) hx⟩
    · rw [if_neg hbn] at hB
      obtain ⟨h1, l, h2, h3⟩ := h.sim.blk b B hB
      exact ⟨by simp; omega, l, by simp [hbn, h2], h3.mono rfl (by simp) hx⟩
  · intro b hB
    rw [St.get_alloc] at hB
    by_cases hbn : b = A.next
    · subst hbn; rw [if_pos rfl] at hB; cases hB
    · rw [if_neg hbn] at hB
      simp [hbn, h.sim.dead b hB]
  · intro b b' l l' hne hl1 hl2 heq
    rw [St.get_alloc]
    by_cases hbn : b = A.next
    · rw [if_pos hbn]; trivial
    · rw [if_neg hbn]
      simp only [if_neg hbn] at hl1
      obtain ⟨B, hB, _⟩ := h.sim.loc hl1
      rw [hB]; exact h.ro b B hB
  · intro b B hB
    rw [St.get_alloc] at hB
    by_cases hbn : b = A.next
    · rw [if_pos hbn] at hB; cases hB; trivial
    · rw [if_neg hbn] at hB; exact h.ro b B hB
/-- A name for nothing. -/
theorem Start.dead (h : Start w φ A) (B : Blk) : Start w φ ((A.alloc B).upd A.next none) := by
  have hg : ∀ b, ((A.alloc B).upd A.next none).get b = A.get b := fun b => by
    rw [St.get_upd]
    by_cases hb : b = A.next
    · rw [if_pos hb, hb, h.sim.get_next]
    · rw [if_neg hb, St.get_alloc, if_neg hb]
  refine ⟨⟨h.sim.below, fun b B hB => ?_, fun b hB => h.sim.dead b (by rw [← hg]; exact hB), fun b b' l l' hne h1 h2 h3 => by rw [hg]; exact h.sim.inj b b' l l' hne h1 h2 h3⟩, fun b B hB => h.ro b B (by rw [← hg]; exact hB)⟩
  rw [hg] at hB
  obtain ⟨h1, l, h2, h3⟩ := h.sim.blk b B hB
  exact ⟨by simp; omega, l, h2, h3.mono rfl (by simp) (Ext.refl _ _)⟩
/-- A slice's cells are there, by index. -/
theorem Start.slice (h : Start w φ A) {a : Addr} {len cap sz : Nat} {cs : List Value} (hsz : 0 < sz) (hlen : cs.length = cap * sz) (hle : len ≤ cap) (hcells : ∀ (i : Nat) (v : Value), cs[i]? = some v → w.cell? (a.add i) = some v) (hpl : cs.all plainV = true) :
    ∃ φ' A' v', Start w φ' A' ∧ Ext A.next φ φ' ∧ Over A A' ∧ VR φ' A'.next v' (.slice (some a) len cap) ∧ View A' sz (cs.take (len * sz)) len v' ∧ plainV v' = plainV v' := by
  have hcl : (cs.take (len * sz)).length = len * sz := by rw [List.length_take, hlen, Nat.min_eq_left (Nat.mul_le_mul_right _ hle)]
  by_cases hc : cap = 0
  · have hl0 : len = 0 := by omega
    subst hc; subst hl0
    refine ⟨φ, (A.alloc (.dfr false)).upd A.next none, .slice (some ⟨A.next, 0, none⟩) 0 0, h.dead _, Ext.refl _ _, ((Over.refl A).alloc _).upd (Nat.le_refl _) _, ?_, ⟨hcl, .inl ⟨rfl, _, _, rfl⟩⟩, rfl⟩
    exact .slice A.next 0 none 0 0 a 0 (by simp) (Nat.le_refl _) (Nat.le_refl _) fun l _ => .inr ⟨rfl, rfl⟩
  · have hpos : 0 < cap * sz := Nat.mul_pos (by omega) hsz
    have h0 := hcells 0 cs[0] (List.getElem?_eq_getElem (by omega))
    have hspot : a.spot = none := by
      unfold World.cell? at h0
      split at h0
      · split at h0
        · cases h0
        · rename_i hs
          cases hs' : a.spot with
          | none => rfl
          | some x =>
            exfalso
            simp [Addr.add, hs'] at hs
      · cases h0
    obtain ⟨bl, off, spt⟩ := a
    simp only at hspot
    subst hspot
    have hadd : ∀ i, (Addr.add ⟨bl, off, none⟩ i) = ⟨bl, off + i, none⟩ := fun i => by simp [Addr.add]
    have hob : ∃ C e fr, w.heap[bl]? = some (.cells C e fr) := by
      rw [hadd] at h0
      unfold World.cell? at h0
      split at h0
      · rename_i C e fr hC; exact ⟨C, e, fr, hC⟩
      · cases h0
    obtain ⟨C, e, fr, hC⟩ := hob
    have hcell : ∀ (i : Nat) (v : Value), cs[i]? = some v → C[off + i]? = some v := fun i v hv => by
      have := hcells i v hv
      rw [hadd] at this
      unfold World.cell? at this
      rw [hC] at this
      simpa using this
    have hbd : off + cs.length ≤ C.size := by
      have hl : cs.length - 1 < cs.length := by omega
      have := hcell (cs.length - 1) _ (List.getElem?_eq_getElem hl)
      have := (Array.getElem?_eq_some_iff.1 this).1
      omega
    obtain ⟨φ', hs, hx, hn⟩ := h.window hC hbd (fun i v hv => ⟨v, hcell i v hv, VR.plain (List.all_eq_true.1 hpl v (List.mem_of_getElem? hv))⟩)
    refine ⟨φ', _, .slice (some ⟨A.next, 0, none⟩) len cap, hs, hx, (Over.refl A).alloc _, ?_, ⟨hcl, .inr ⟨A.next, 0, none, cap, cs, e, none, rfl, by simp, get_alloc_same .., by rw [hlen, Nat.zero_add]; exact Nat.mul_le_mul_right _ hle, by rw [List.drop_zero]⟩⟩, rfl⟩
    refine .slice A.next 0 none len cap _ cap (by simp) hle (Nat.le_refl _) fun l hl => .inl ?_
    rw [hn] at hl; cases hl
    exact ⟨rfl, rfl⟩
/-- A law whose arguments have been read. -/
theorem calls_start {P : Program} {f : Nat} {args args' : Array Value} (hs : Start w φ A) (ha : CR φ A.next args' args) (h : ACalls P w f args' A fun e _ => e = .returned (.bool true)) : Calls P f args w fun e w' => e = .returned (.bool true) ∧ Below w.heap.size w w' := by
  refine (callsIn_wide.1 (h.2 _ w args hs.sim ha)).mono ?_
  rintro ce w' ⟨e, φ', A', rfl, h2, h3, _⟩
  cases h2 with
  | returned hv => exact ⟨by rw [hv.bool_inv], h3.below⟩
/-- A slice that is read, element by element, by what each element's cells are. -/
theorem read_slice {H : Type} {enc : TypeId × Value → H} {P : Program} {held : Bool} {α : Type} {t e : TypeId} {fuel sz : Nat} {v : Value} {x : DataW H × List MemPlace} (encE : α → List Value) (ok : α → Prop) (hsz : P.cellsOf e = sz) (ht : P.underlying t = some (.slice e))
    (hdec : ∀ n cs y, DataW.trod enc P w 0 (fun _ => true) held n e cs = some y → ∃ a, cs = encE a ∧ ok a) (h : DataW.trod enc P w 0 (fun _ => true) held fuel t [v] = some x) :
    (v = .slice none 0 0) ∨ ∃ (a : Addr) (len cap : Nat) (l : List α), v = .slice (some a) len cap ∧ len ≤ cap ∧ cap ≤ maxLen ∧ l.length = cap ∧ (∀ y ∈ l, ok y) ∧ ∀ (i : Nat) (y : α), l[i]? = some y → w.cells? 0 (a.add (i * sz)) sz = some (encE y) := by
  rcases Go.Deep.open_slice ht h with ⟨h0, _⟩ | ⟨a, len, cap, m, n, D, Pl, hv, hb, hl, hm, hmm, rfl, hx⟩
  · cases h0; exact .inl rfl
  · cases hv
    right
    simp only [if_true] at hmm
    subst hmm
    have : ∀ k, k ≤ m → ∃ l : List α, l.length = k ∧ (∀ y ∈ l, ok y) ∧ ∀ (i : Nat) (y : α), l[i]? = some y → w.cells? 0 (a.add (i * sz)) sz = some (encE y) := by
      intro k
      induction k with
      | zero => exact fun _ => ⟨[], rfl, (fun y hy => by cases hy), (fun i y hy => by simp at hy)⟩
      | succ k ih =>
        intro hk
        obtain ⟨l, h1, h2, h3⟩ := ih (by omega)
        obtain ⟨cs', h4, h5⟩ := hx k (by omega)
        obtain ⟨y, rfl, hy⟩ := hdec _ _ _ h5
        refine ⟨l ++ [y], by simp [h1], fun z hz => ?_, fun i z hz => ?_⟩
        · rcases List.mem_append.1 hz with hz | hz
          · exact h2 z hz
          · rw [List.mem_singleton.1 hz]; exact hy
        · by_cases hi : i < l.length
          · rw [List.getElem?_append_left hi] at hz
            exact h3 i z hz
          · rw [List.getElem?_append_right (by omega)] at hz
            have hik : i = l.length := by
              have := (List.getElem?_eq_some_iff.1 hz).1
              simp at this; omega
            subst hik
            simp at hz
            subst hz
            rw [h1, ← hsz]; exact h4
    obtain ⟨l, h1, h2, h3⟩ := this m (Nat.le_refl _)
    exact ⟨a, len, m, l, rfl, hl, hm, h1, h2, h3⟩
theorem flatMap_at {α : Type} {encE : α → List Value} {sz : Nat} : ∀ (l : List α), (∀ y ∈ l, (encE y).length = sz) → ∀ (i j : Nat), j < sz → (l.flatMap encE)[i * sz + j]? = (l[i]?).bind fun y => (encE y)[j]?
  | [], _, i, j, _ => by simp
  | y :: l, h, 0, j, hj => by
    rw [List.flatMap_cons, Nat.zero_mul, Nat.zero_add, List.getElem?_append_left (by rw [h y (List.mem_cons_self ..)]; exact hj)]; rfl
  | y :: l, h, i + 1, j, hj => by
    have hy := h y (List.mem_cons_self ..)
    rw [List.flatMap_cons, List.getElem?_append_right (by rw [hy, Nat.add_mul]; omega), hy, show (i + 1) * sz + j - sz = i * sz + j by rw [Nat.add_mul]; omega, flatMap_at l (fun z hz => h z (List.mem_cons_of_mem _ hz)) i j hj]; rfl
theorem flatMap_len {α : Type} {encE : α → List Value} {sz : Nat} : ∀ (l : List α), (∀ y, (encE y).length = sz) → (l.flatMap encE).length = l.length * sz
  | [], _ => by simp
  | y :: l, h => by rw [List.flatMap_cons, List.length_append, h, flatMap_len l h, List.length_cons, Nat.add_mul]; omega
/-- A slice of plain elements, as an argument. -/
theorem Start.arg (h : Start w φ A) {H : Type} {enc : TypeId × Value → H} {P : Program} {held : Bool} {α : Type} {t e : TypeId} {fuel sz : Nat} {v : Value} {x : DataW H × List MemPlace} (encE : α → List Value) (ok : α → Prop) (hsz : P.cellsOf e = sz) (hsz0 : 0 < sz) (ht : P.underlying t = some (.slice e))
    (hlen : ∀ y, (encE y).length = sz) (hpl : ∀ y, (encE y).all plainV = true)
    (hdec : ∀ n cs y, DataW.trod enc P w 0 (fun _ => true) held n e cs = some y → ∃ a, cs = encE a ∧ ok a) (ht' : DataW.trod enc P w 0 (fun _ => true) held fuel t [v] = some x) :
    ∃ (φ' : Nat → Option Loc) (A' : St) (v' : Value) (l : List α), Start w φ' A' ∧ Ext A.next φ φ' ∧ Over A A' ∧ VR φ' A'.next v' v ∧ View A' sz (l.flatMap encE) l.length v' ∧ (∀ y ∈ l, ok y) ∧ l.length ≤ maxLen := by
  rcases read_slice encE ok hsz ht hdec ht' with rfl | ⟨a, len, cap, l, rfl, hle, hm, hl, hok, hc⟩
  · exact ⟨φ, A, .slice none 0 0, [], h, Ext.refl _ _, Over.refl _, .slice0, ⟨by simp, .inl ⟨rfl, _, _, rfl⟩⟩, (fun y hy => by cases hy), by simp⟩
  · obtain ⟨φ', A', v', h1, h2, h3, h4, h5, _⟩ := h.slice (a := a) (len := len) (cap := cap) (sz := sz) (cs := l.flatMap encE) hsz0 (by rw [flatMap_len l hlen, hl]) hle (fun i v hv => by
        have hi : i < cap * sz := by have := (List.getElem?_eq_some_iff.1 hv).1; rwa [flatMap_len l hlen, hl] at this
        have hj : i % sz < sz := Nat.mod_lt _ hsz0
        have e1 : i = i / sz * sz + i % sz := (Nat.div_add_mod' i sz).symm
        rw [e1, flatMap_at l (fun y _ => hlen y) _ _ hj] at hv
        obtain ⟨y, hy, hv⟩ := Option.bind_eq_some_iff.1 hv
        have := (World.cells?_some (hc _ y hy)).2.2 (i % sz) hj
        rw [hv, Go.Deep.add_add, ← e1] at this
        exact this) (by rw [List.all_eq_true]; intro z hz; obtain ⟨y, _, hy⟩ := List.mem_flatMap.1 hz; exact List.all_eq_true.1 (hpl y) z hy)
    have htk : (l.flatMap encE).take (len * sz) = (l.take len).flatMap encE := by
      conv => lhs; rw [← List.take_append_drop len l, List.flatMap_append]
      have : ((l.take len).flatMap encE).length = len * sz := by rw [flatMap_len _ hlen, List.length_take, hl, Nat.min_eq_left hle]
      rw [List.take_append, this, Nat.sub_self, List.take_zero, List.append_nil, List.take_of_length_le (by omega)]
    have hll : (l.take len).length = len := by rw [List.length_take, hl, Nat.min_eq_left hle]
    refine ⟨φ', A', v', l.take len, h1, h2, h3, h4, ?_, fun y hy => hok y (List.mem_of_mem_take hy), by omega⟩
    rw [hll, ← htk]; exact h5
/-- Arguments, one by one. -/
inductive CRL (φ : Nat → Option Loc) (n : Nat) : List Value → List Value → Prop
  | nil : CRL φ n [] []
  | cons {v v' : Value} {l l' : List Value} (h : VR φ n v v') (t : CRL φ n l l') : CRL φ n (v :: l) (v' :: l')
theorem CRL.at {φ : Nat → Option Loc} {n : Nat} {l l' : List Value} (h : CRL φ n l l') : l.length = l'.length ∧ ∀ (i : Nat) (v v' : Value), l[i]? = some v → l'[i]? = some v' → VR φ n v v' := by
  induction h with
  | nil => exact ⟨rfl, fun i v v' h => by simp at h⟩
  | cons h t ih =>
    refine ⟨by simp [ih.1], fun i v v' h1 h2 => ?_⟩
    cases i with
    | zero => simp at h1 h2; subst h1; subst h2; exact h
    | succ i => exact ih.2 i v v' (by simpa using h1) (by simpa using h2)
theorem CRL.cr {φ : Nat → Option Loc} {n : Nat} {l l' : List Value} (h : CRL φ n l l') : CR φ n l.toArray l'.toArray := ⟨by simpa using h.at.1, fun i v v' h1 h2 => h.at.2 i v v' (by simpa using h1) (by simpa using h2)⟩
end
end Go.Fw

/-! More of rows and views. -/
set_option linter.unusedSimpArgs false
set_option linter.unusedVariables false
namespace Go.Fw
open Go.RowKit
section
variable {A : St}
theorem View.src {sz len : Nat} {cs : List Value} {v : Value} (h : View A sz cs len v) : srcCells A sz v = some (len, cs) := by
  rcases h with ⟨hl, ⟨rfl, ad, c, rfl⟩ | ⟨b, off, sp, c, cells, e, m, rfl, h1, h2, h3, h4⟩⟩
  · obtain rfl : cs = [] := List.eq_nil_of_length_eq_zero (by rw [hl]; simp)
    cases ad <;> rfl
  · by_cases h0 : len = 0
    · subst h0
      obtain rfl : cs = [] := List.eq_nil_of_length_eq_zero (by rw [hl]; simp)
      rfl
    · rw [srcCells_slice h0 h2 h3, h4]
theorem isBu_t : (isB (some undef) == some true) = false := Eq.trans rfl rfl
theorem isBu_f : (isB (some undef) == some false) = false := Eq.trans rfl rfl
/-- Ints as an argument's elements. -/
def i64E (i : Int) : List Value := [.int .i64 i]
theorem i64E_at (l : List Int) (i : Nat) (x : Int) (h : l[i]? = some x) : (l.flatMap i64E)[i]? = some (.int .i64 x) := by
  have := flatMap_at (encE := i64E) (sz := 1) l (fun y _ => rfl) i 0 (by decide)
  rw [Nat.mul_one, Nat.add_zero, h] at this
  exact this
/-- One old block turned, all else old as it was. -/
theorem wf_upd (hw : WF A) {r : Nat} {cs : List Value} {e : TypeId} {m : Option Nat} (hr : r < A.next) (hcs : ∀ v ∈ cs, Bnd A.next v) : WF (A.upd r (some (.cells cs e m))) := by
  intro b B hB
  rw [St.get_upd] at hB
  by_cases hb : b = r
  · rw [if_pos hb] at hB; cases hB
    exact ⟨by rw [hb]; exact hr, hcs⟩
  · rw [if_neg hb] at hB
    exact hw b B hB
theorem gc_upd {A' : St} {r : Nat} {cs : List Value} {e : TypeId} {m : Option Nat} {v v' : Value} (hw : WF A) (hr : r < A.next) (hcs : ∀ v ∈ cs, Bnd A.next v) (h : Over (A.upd r (some (.cells cs e m))) A') (hv : v' = v) (hb : Bnd A.next v) :
    GcE A (fin v (A.upd r (some (.cells cs e m)))) (.returned v') A' := by
  subst hv
  have hw' := wf_upd hw hr hcs (e := e) (m := m)
  exact .inr ⟨_, h.sub hw', Nat.le_refl _, hw', .returned hb, fin_self _⟩
theorem over_upd {A' : St} {r : Nat} {B : Option Blk} (hn : A.next ≤ A'.next) (hr : A'.get r = B) (hg : ∀ b, b < A.next → b ≠ r → A'.get b = A.get b) : Over (A.upd r B) A' :=
  ⟨hn, fun b hb => by
    rw [St.get_upd]
    by_cases h : b = r
    · rw [if_pos h, h]; exact hr
    · rw [if_neg h]; exact hg b hb h⟩
end
end Go.Fw

/-! Numbers as bytes: what the varint layer computes, in plain terms. -/
set_option linter.unusedSimpArgs false
set_option linter.unusedVariables false
namespace Go.Fw
open Go.RowKit
end Go.Fw

/-! Slices that may be sliced again; texts as elements. -/
set_option linter.unusedSimpArgs false
set_option linter.unusedVariables false
namespace Go.Fw
open Go.RowKit
section
variable {w : World} {φ : Nat → Option Loc} {A : St}
/-- What a slice must be to be sliced again. -/
def SlOk (sz : Nat) (v : Value) : Prop := ∃ ad n c, v = .slice ad n c ∧ n ≤ c ∧ (ad = none ∨ ∃ b off sp, ad = some ⟨b, off, sp⟩ ∧ (sp = none ∨ sp = some 0 ∨ sp = some sz))
/-- The first so many elements. -/
theorem View.pre {P : Program} {sz len k e : Nat} {ik : IntKind} {cs : List Value} {v : Value} (h : View A sz cs len v) (hs : SlOk sz v) (hsz : tsz P e = some sz) (h0 : 0 < sz) (hk : k ≤ len) : ∃ v', sliceU (some (.slice e)) (tsz P) v none (some (.int ik (k : Int))) none = some v' ∧ View A sz (cs.take (k * sz)) k v' ∧ SlOk sz v' ∧ (rowB v' = none ∨ rowB v' = rowB v) := by
  obtain ⟨ad, n, c, rfl, hnc, had⟩ := hs
  have hn : n = len := by
    rcases h.2 with ⟨rfl, _, _, hv⟩ | ⟨b, off, sp, c', cells, e', m, hv, _⟩
    · cases hv; rfl
    · cases hv; rfl
  subst hn
  have hb : abounds n c none (some (.int ik (k : Int))) none = some (0, k, c) := by
    have : (k : Int) ≤ c := by omega
    simp [abounds, abound1, this, show k ≤ c by omega]
  have hcl : (cs.take (k * sz)).length = k * sz := by rw [List.length_take, h.1, Nat.min_eq_left (Nat.mul_le_mul_right _ hk)]
  have hle : k * sz ≤ n * sz := Nat.mul_le_mul_right _ hk
  rcases had with rfl | ⟨b, off, sp, rfl, hsp⟩
  · refine ⟨.slice none k c, ?_, ⟨hcl, ?_⟩, ⟨_, _, _, rfl, by omega, .inl rfl⟩, .inl rfl⟩
    · rw [sliceU_slice, hsz]
      rw [Option.bind_some, sliceL_eq, hb]; rfl
    · rcases h.2 with ⟨hl, _⟩ | ⟨_, _, _, _, _, _, _, hv, _⟩
      · exact .inl ⟨by omega, _, _, by rw [show k = 0 by omega]⟩
      · cases hv
  · refine ⟨.slice (some ⟨b, off, sp⟩) k c, ?_, ⟨hcl, ?_⟩, ⟨_, _, _, rfl, by omega, .inr ⟨_, _, _, rfl, hsp⟩⟩, .inr rfl⟩
    · rw [sliceU_slice, hsz]
      rw [Option.bind_some, sliceL_eq, hb]
      rcases hsp with rfl | rfl | rfl
      · rw [boundsL_exact]; simp
      · rw [show (none : Option Value).isSome = false from rfl, boundsL_least]; simp
      · obtain ⟨j, rfl⟩ : ∃ j, sz = j + 1 := ⟨sz - 1, by omega⟩
        rw [show (none : Option Value).isSome = false from rfl, boundsL_ownN]; simp
    · rcases h.2 with ⟨hl, _⟩ | ⟨b', off', sp', c', cells, e', m, hv, h1, h2, h3, h4⟩
      · exact .inl ⟨by omega, _, _, by rw [show k = 0 by omega]⟩
      · cases hv
        refine .inr ⟨b, off, sp, c, cells, e', m, rfl, h1, h2, by omega, ?_⟩
        rw [← h4, List.take_take, Nat.min_eq_left hle]
theorem Row.sl {e sz lo len : Nat} {cs : List Value} {v : Value} (h : Row A e sz lo cs len v) : SlOk sz v := by
  rcases h.2 with ⟨rfl, rfl⟩ | ⟨b, sp, rfl, hsp, _⟩
  · exact ⟨_, _, _, rfl, Nat.le_refl _, .inl rfl⟩
  · refine ⟨_, _, _, rfl, Nat.le_refl _, .inr ⟨_, _, _, rfl, ?_⟩⟩
    rcases hsp with h | h
    · exact .inl h
    · exact .inr (.inr h)
end
end Go.Fw

/-! Functions without a text: internal/abi.NoEscape, the compare of strings; pointers held against themselves; strings out of a row. -/
set_option linter.unusedSimpArgs false
set_option linter.unusedVariables false
namespace Go.Fw
open Go.RowKit
section
variable {P : Program} {w0 : World} {A : St} {f : Nat} {fn : Func}
theorem beqS (s : ByteArray) : (s == s) = true := by rw [beqBytes]; simp
/-- An element of a slice of things: where it lies, its cells, and all of it. -/
theorem View.en {α : Type} {encE : α → List Value} {sz e : Nat} {l : List α} {v : Value} (h : View A sz (l.flatMap encE) l.length v) (hlen : ∀ y, (encE y).length = sz) (hsz : tsz P e = some sz) {i : Nat} {x : α} (hx : l[i]? = some x) :
    ∃ b off cells e' m, b < A.next ∧ rowB v = some b ∧ (∀ k : IntKind, indexAddrU P (some (.slice e)) v (.int k i) = some (.pointer (some ⟨b, off, none⟩))) ∧ A.get b = some (.cells cells e' m) ∧
      loadC (some true) (some sz) (some (.cells cells e' m)) off = some (.agg (encE x).toArray) ∧ ∀ j y, (encE x)[j]? = some y → cells[off + j]? = some y := by
  have hi : i < l.length := (List.getElem?_eq_some_iff.1 hx).1
  obtain ⟨b, off, h1, h2, h3, cells, e', m, h4, h5, h6⟩ := View.at (P := P) (e := e) h hsz hi
  have key : ((l.flatMap encE).drop (i * sz)).take sz = encE x := by
    apply List.ext_getElem?
    intro j
    rw [List.getElem?_take]
    by_cases hj : j < sz
    · rw [if_pos hj, List.getElem?_drop, flatMap_at l (fun y _ => hlen y) i j hj, hx]; rfl
    · rw [if_neg hj, List.getElem?_eq_none (by rw [hlen]; omega)]
  rw [key] at h6
  refine ⟨b, off, cells, e', m, h1, h2, h3, h4, by rw [loadC_agg _ _ _ _ _ h5, h6], fun j y hy => ?_⟩
  rw [← h6, List.getElem?_take] at hy
  split at hy
  · rwa [List.getElem?_drop] at hy
  · cases hy
/-- What stays when a struct at c and its row are turned. -/
structure KpS (A A' : St) (c : Nat) (v v' : Value) : Prop where
  next : A.next ≤ A'.next
  get : ∀ b, b < A.next → b ≠ c → rowB v ≠ some b → A'.get b = A.get b
  row : ∀ b, rowB v' = some b → rowB v = some b ∨ A.next ≤ b
theorem KpS.refl (A : St) (c : Nat) (v : Value) : KpS A A c v v := ⟨Nat.le_refl _, fun _ _ _ _ => rfl, fun _ h => .inl h⟩
theorem KpS.trans {A B C : St} {c : Nat} {v u x : Value} (h : KpS A B c v u) (k : KpS B C c u x) : KpS A C c v x :=
  ⟨Nat.le_trans h.next k.next, fun b h1 h2 h4 => (k.get b (Nat.lt_of_lt_of_le h1 h.next) h2 (fun e => by
    rcases h.row b e with e | e
    · exact h4 e
    · omega)).trans (h.get b h1 h2 h4), fun b e => by
    rcases k.row b e with e | e
    · exact h.row b e
    · have := h.next; exact .inr (by omega)⟩
theorem Row.sing {e sz lo len : Nat} {cs : List Value} {v : Value} (h : Row A e sz lo cs len v) : one1 v = true := by
  rcases h.2 with ⟨_, rfl⟩ | ⟨_, _, rfl, _⟩ <;> rfl
theorem Row.rb {e sz lo len : Nat} {cs : List Value} {v : Value} (h : Row A e sz lo cs len v) : ∀ b, rowB v = some b → lo ≤ b ∧ b < A.next := by
  intro b hb
  rcases h.2 with ⟨_, rfl⟩ | ⟨b', _, rfl, _, h1, h2, _⟩
  · cases hb
  · cases hb; exact ⟨h1, h2⟩
/-- What is appended is told by its cells, be they none. -/
theorem row_src {sT xT e bs : Nat} {z x : Value} {m sz lo len : Nat} {cs new : List Value} {ux : TypeDesc} {v : Value} (hel : telem P sT = some e) (hx : P.underlying xT = some ux) (hux : ∀ k, ux ≠ .int k) (hsz : tsz P e = some (sz + 1)) (hb : tbytes P e = some bs) (hz : tzero P e = some z) (hzc : z.cells.size = sz + 1)
    (hr : Row A e (sz + 1) lo cs len v) (hlo : lo ≤ A.next) (hsrc : srcCells A (sz + 1) x = some (m, new)) (hnl : new.length = m * (sz + 1)) (hlen : (len + m) * bs ≤ 140737488355328) (hcap : len + m ≤ 9223372036854775807) (hnew : new.all cell1 = true) :
    ∃ v' A', aappend P A sT xT v x = some (v', A') ∧ Row A' e (sz + 1) lo (cs ++ new) (len + m) v' ∧ A.next ≤ A'.next ∧ (∀ b, b < A.next → rowB v ≠ some b → A'.get b = A.get b) ∧ (∀ b, rowB v' = some b → rowB v = some b ∨ A.next ≤ b) ∧ (m = 0 → v' = v) := by
  by_cases hm : m = 0
  · subst hm
    obtain rfl : new = [] := List.eq_nil_of_length_eq_zero (by rw [hnl]; simp)
    refine ⟨v, A, ?_, by rw [List.append_nil]; exact hr, Nat.le_refl _, fun b _ _ => rfl, fun b hb => .inl hb, fun _ => rfl⟩
    have h2 : ¬ (sz + 1 = 0 ∨ z.cells.size ≠ sz + 1) := by omega
    rcases hr.2 with ⟨rfl, rfl⟩ | ⟨b, sp, rfl, _⟩
    · unfold aappend
      cases ux with
      | int k => exact absurd rfl (hux k)
      | _ => simp only [hel, hx, hsz, hb, hz, hsrc, if_neg h2, Nat.add_zero, Nat.le_refl, if_true]
    · unfold aappend
      cases ux with
      | int k => exact absurd rfl (hux k)
      | _ => simp only [hel, hx, hsz, hb, hz, hsrc, if_neg h2, Nat.add_zero, Nat.le_refl, if_true]
  · obtain ⟨v', A', h1, h2, h3, h4, h5⟩ := row_append hel hx hux hsz hb hz hzc hr hlo hsrc (by omega) hlen hcap hnew hnl
    exact ⟨v', A', h1, h2, by omega, h5, fun b hb => .inr (by rw [h4] at hb; cases hb; exact Nat.le_refl _), fun h => absurd h hm⟩
end
end Go.Fw

/-! Slices from a place on; elements of rows turned. -/
set_option linter.unusedSimpArgs false
set_option linter.unusedVariables false
namespace Go.Fw
open Go.RowKit
section
variable {A : St}
theorem setList_app : ∀ (vs a r : List Value) (off : Nat), setList (a ++ r) (a.length + off) vs = a ++ setList r off vs
  | [], a, r, off => rfl
  | v :: vs, a, r, off => by
    rw [setList, setList, List.set_append_right _ _ (by omega), show a.length + off - a.length = off by omega]
    exact setList_app vs a (r.set off v) (off + 1)
theorem setList_at0 : ∀ (vs p a r : List Value), vs.length = a.length → setList (p ++ (a ++ r)) p.length vs = p ++ (vs ++ r)
  | [], p, a, r, h => by
    have : a = [] := List.eq_nil_of_length_eq_zero (by rw [← h]; rfl)
    subst this; rfl
  | v :: vs, p, a, r, h => by
    match a, h with
    | x :: a, h =>
      rw [setList, List.set_append_right _ _ (Nat.le_refl _), Nat.sub_self]
      have := setList_at0 vs (p ++ [v]) a r (by simpa using h)
      simpa using this
theorem flat_set {α : Type} {encE : α → List Value} {sz : Nat} (hlen : ∀ y, (encE y).length = sz) (x : α) : ∀ (l : List α) (i : Nat), i < l.length → setList (l.flatMap encE) (i * sz) (encE x) = (l.set i x).flatMap encE
  | [], i, h => by simp at h
  | y :: l, 0, h => by
    rw [List.flatMap_cons, List.set_cons_zero, List.flatMap_cons, Nat.zero_mul]
    exact setList_at0 (encE x) [] (encE y) _ (by rw [hlen, hlen])
  | y :: l, i + 1, h => by
    rw [List.flatMap_cons, List.set_cons_succ, List.flatMap_cons, Nat.succ_mul, Nat.add_comm (i * sz), ← hlen y, setList_app, hlen y, flat_set hlen x l i (by simpa using h)]
/-- A row that has elements: its block, where each lies, what is read and what is written. -/
theorem Row.own {P : Program} {α : Type} {encE : α → List Value} {e sz lo : Nat} {l : List α} {v : Value} (h : Row A e sz lo (l.flatMap encE) l.length v) (hlen : ∀ y, (encE y).length = sz) (hsz : tsz P e = some sz) (hl : l.length ≠ 0) :
    ∃ b, rowB v = some b ∧ lo ≤ b ∧ b < A.next ∧ A.get b = some (.cells (l.flatMap encE) e (some 0)) ∧ (∀ (k : IntKind) (i : Nat), i < l.length → indexAddrU P (some (.slice e)) v (.int k i) = some (.pointer (some ⟨b, i * sz, none⟩))) ∧
      (∀ (i : Nat) (x : α), l[i]? = some x → loadC (some true) (some sz) (some (.cells (l.flatMap encE) e (some 0))) (i * sz) = some (.agg (encE x).toArray)) ∧
      (∀ (i : Nat) (x : α), i < l.length → (encE x).all cell1 = true → storeC A (some sz) (some (.cells (l.flatMap encE) e (some 0))) b (i * sz) (.agg (encE x).toArray) = some (A.upd b (some (.cells ((l.set i x).flatMap encE) e (some 0))))) ∧
      ∀ (A' : St) (m : List α), m.length = l.length → A'.get b = some (.cells (m.flatMap encE) e (some 0)) → A.next ≤ A'.next → Row A' e sz lo (m.flatMap encE) m.length v := by
  rcases h with ⟨hcl, ⟨h0, _⟩ | ⟨b, sp, rfl, hsp, hb0, hb1, hbg⟩⟩
  · exact absurd h0 hl
  have hfl : ∀ m : List α, (m.flatMap encE).length = m.length * sz := fun m => flatMap_len m hlen
  refine ⟨b, rfl, hb0, hb1, hbg, fun k i hi => ?_, fun i x hx => ?_, fun i x hi hc => ?_, fun A' m hm hg hn => ?_⟩
  · refine (indexAddr_slice P k e b 0 sp l.length l.length (i : Int) (by omega) (by omega)).trans ?_
    rw [hsz]; simp
  · have hi : i < l.length := (List.getElem?_eq_some_iff.1 hx).1
    have hle : (i + 1) * sz ≤ l.length * sz := Nat.mul_le_mul_right _ hi
    rw [Nat.succ_mul] at hle
    rw [loadC_agg _ _ _ _ _ (by rw [hfl]; exact hle)]
    congr 3
    apply List.ext_getElem?
    intro j
    rw [List.getElem?_take]
    by_cases hj : j < sz
    · rw [if_pos hj, List.getElem?_drop, flatMap_at l (fun y _ => hlen y) i j hj, hx]; rfl
    · rw [if_neg hj, List.getElem?_eq_none (by rw [hlen]; omega)]
  · have hle : (i + 1) * sz ≤ l.length * sz := Nat.mul_le_mul_right _ hi
    rw [Nat.succ_mul] at hle
    rw [storeC_cells]
    · congr 4
      exact flat_set hlen x l i hi
    · exact ⟨by simp [Value.cells, hlen], Nat.zero_le _, by simp [Value.cells, hlen, hfl]; exact hle, by simpa [Value.cells] using hc⟩
  · refine ⟨hfl m, .inr ⟨b, sp, by rw [hm], hsp, hb0, Nat.lt_of_lt_of_le hb1 hn, hg⟩⟩
end
end Go.Fw

/-! Drawn regions whose heavy operations have no one order: one told run for each order. -/
set_option linter.unusedSimpArgs false
set_option linter.unusedVariables false
namespace Go.Fw
open Go.RowKit
def hasX (X : List (Nat × Nat)) (i : Nat) (o : Oper) (x : Nat) : Bool := hasE o x || X.contains (i, x)
def ancGo (X : List (Nat × Nat)) (ops : Array Oper) (i : Nat) (o : Oper) : List Nat → List Nat → Bool
  | _, [] => true
  | dn, x :: r => (hasX X i o x || dn.any fun y => match ops[y]? with | some oy => hasX X y oy x | none => false) && ancGo X ops i o (x :: dn) r
def certOkX (X : List (Nat × Nat)) (ops : Array Oper) (cs : List Cert) (n : Nat) : Bool :=
  cs.length == ops.size && n == (hvs cs).length && (List.range ops.size).all fun i =>
    match ops[i]?, cs[i]? with
    | some o, some c =>
      ancGo X ops i o [] c.anc &&
      (List.range (hiC cs i + 1)).all (fun k => decide (k < loC cs i) || c.lev.contains k) &&
      (!c.heavy || (o.guard.isNone && loC cs i == hiC cs i && c.lev == [loC cs i]))
    | _, _ => false
section
variable {P : Program} {w0 : World} {n0 n N : Nat} {nr : Bool} {Q : Exit → Act → St → Prop} {ops : Array Oper} {cs : List Cert} {ρ : Nat → Value} {ds : List Deferred} {H : List St} {X : List (Nat × Nat)}
structure CertX (X : List (Nat × Nat)) (ops : Array Oper) (cs : List Cert) (i : Nat) (o : Oper) (c : Cert) : Prop where
  anc : ancGo X ops i o [] c.anc = true
  lev : ∀ k, loC cs i ≤ k → k ≤ hiC cs i → k ∈ c.lev
  heavy : c.heavy = true → o.guard = none ∧ loC cs i = hiC cs i ∧ c.lev = [loC cs i]
theorem certX_at (h : certOkX X ops cs N = true) : cs.length = ops.size ∧ N = (hvs cs).length ∧ ∀ i o, ops[i]? = some o → ∃ c, cs[i]? = some c ∧ CertX X ops cs i o c := by
  unfold certOkX at h
  simp only [Bool.and_eq_true, beq_iff_eq] at h
  obtain ⟨⟨h1, h2⟩, h3⟩ := h
  refine ⟨h1, h2, fun i o ho => ?_⟩
  have hi : i < ops.size := (Array.getElem?_eq_some_iff.1 ho).1
  have h4 := List.all_eq_true.1 h3 i (List.mem_range.2 hi)
  rw [ho] at h4
  cases hc : cs[i]? with
  | none => rw [hc] at h4; simp at h4
  | some c =>
    rw [hc] at h4
    simp only [Bool.and_eq_true] at h4
    obtain ⟨⟨h5, h6⟩, h7⟩ := h4
    refine ⟨c, rfl, ⟨h5, fun k hk1 hk2 => ?_, fun hh => ?_⟩⟩
    · have := List.all_eq_true.1 h6 k (List.mem_range.2 (by omega))
      simp only [Bool.or_eq_true, decide_eq_true_eq] at this
      rcases this with h | h
      · omega
      · simpa using h
    · rw [hh] at h7
      simp only [Bool.not_true, Bool.false_or, Bool.and_eq_true, beq_iff_eq, Option.isNone_iff_eq_none] at h7
      exact ⟨h7.1.1, h7.1.2, h7.2⟩
def ClosedX (X : List (Nat × Nat)) (L : Nat → Bool) : Prop := ∀ j x, L j = true → (j, x) ∈ X → L x = true
theorem hasX_in {i : Nat} {o : Oper} {L : Nat → Bool} {x : Nat} (h1 : ∀ e ∈ o.after, Region.binds .any e = true → L e.on = true) (h2 : ∀ x, (i, x) ∈ X → L x = true) (h : hasX X i o x = true) : L x = true := by
  unfold hasX at h
  rcases Bool.or_eq_true _ _ ▸ h with h | h
  · obtain ⟨e, he, hb, rfl⟩ := hasE_mem h
    exact h1 e he hb
  · exact h2 x (by simpa using h)
theorem ancX_in {i : Nat} {o : Oper} {L : Nat → Bool} (hcl : Closed ops L) (hx : ClosedX X L) (hpre : ∀ e ∈ o.after, Region.binds .any e = true → L e.on = true) (hpx : ∀ x, (i, x) ∈ X → L x = true) :
    ∀ (r dn : List Nat), (∀ y ∈ dn, L y = true) → ancGo X ops i o dn r = true → ∀ x ∈ r, L x = true
  | [], _, _, _, x, hx => by cases hx
  | y :: r, dn, hd, h, x, hxm => by
    rw [ancGo, Bool.and_eq_true] at h
    have hy : L y = true := by
      rcases Bool.or_eq_true _ _ ▸ h.1 with h | h
      · exact hasX_in hpre hpx h
      · obtain ⟨z, hz, h⟩ := List.any_eq_true.1 h
        cases hoz : ops[z]? with
        | none => rw [hoz] at h; cases h
        | some oz =>
          rw [hoz] at h
          exact hasX_in (hcl z oz (hd z hz) hoz) (fun x hm => hx z x (hd z hz) hm) h
    rcases List.mem_cons.1 hxm with rfl | hm
    · exact hy
    · exact ancX_in hcl hx hpre hpx r (y :: dn) (fun z hz => (List.mem_cons.1 hz).elim (fun e => e ▸ hy) (fun hz => hd z hz)) h.2 x hm
theorem lvlX_between (hk : certOkX X ops cs N = true) {i : Nat} {o : Oper} {c : Cert} (ho : ops[i]? = some o) (hc : cs[i]? = some c) (hca : CertX X ops cs i o c) {L : Nat → Bool} (hcl : Closed ops L) (hx : ClosedX X L) (hi : L i = false) (hpre : ∀ e ∈ o.after, Region.binds .any e = true → L e.on = true) (hpx : ∀ x, (i, x) ∈ X → L x = true) :
    loC cs i ≤ lvl cs L ∧ lvl cs L ≤ hiC cs i := by
  constructor
  · apply List.countP_mono_left
    intro j hj h
    have h1 : ancOf cs i = c.anc := by unfold ancOf; rw [hc]
    rw [h1] at h
    exact ancX_in hcl hx hpre hpx _ [] (fun y hy => by cases hy) hca.anc j (by simpa using h)
  · apply List.countP_mono_left
    intro j hj h
    have hne : j ≠ i := by rintro rfl; rw [hi] at h; cases h
    simp only [Bool.and_eq_true, bne_iff_ne, ne_eq, Bool.not_eq_true']
    refine ⟨hne, ?_⟩
    cases hxx : (ancOf cs j).contains i with
    | false => rfl
    | true =>
      exfalso
      cases hoj : ops[j]? with
      | none =>
        have hjl : j < cs.length := by
          have := List.mem_filter.1 hj
          exact List.mem_range.1 this.1
        have := (certX_at hk).1
        rw [Array.getElem?_eq_none_iff] at hoj
        omega
      | some oj =>
        obtain ⟨cj, hcj, hcaj⟩ := (certX_at hk).2.2 j oj hoj
        have h1 : ancOf cs j = cj.anc := by unfold ancOf; rw [hcj]
        rw [h1] at hxx
        have := ancX_in hcl hx (hcl j oj h hoj) (fun x hm => hx j x h hm) _ [] (fun y hy => by cases hy) hcaj.anc i (by simpa using hxx)
        rw [hi] at this; cases this
theorem stepX_atX {i : Nat} {o : Oper} {c : Cert} {K : Act → St → Prop} {a : Act} {A : St} (hc : cs[i]? = some c) (hca : CertX X ops cs i o c) (h : stepX P w0 o c H K a A) :
    ∃ v A1, (∀ k, loC cs i ≤ k → k ≤ hiC cs i → ∃ v', OpT P w0 o a (hs H k) (hs H (k + if isH cs i then 1 else 0)) v' ∧ a.put o.dst v' = a.put o.dst v) ∧ K (a.put o.dst v) A1 := by
  have hh : isH cs i = c.heavy := by unfold isH; rw [hc]
  rw [hh]
  unfold stepX at h
  split at h
  · exact h.elim
  · rename_i l ls hl
    cases hb : c.heavy with
    | true =>
      rw [hb, if_pos rfl] at h
      obtain ⟨h1, h2⟩ := h
      obtain ⟨g1, g2, g3⟩ := hca.heavy hb
      rw [hl, List.cons.injEq] at g3
      obtain ⟨v, h3, h4⟩ := stepT_opT h2
      refine ⟨v, _, fun k hk1 hk2 => ?_, h4⟩
      have : k = l := by omega
      subst this
      exact ⟨v, h3, rfl⟩
    | false =>
      rw [hb] at h
      simp only [Bool.false_eq_true, if_false, Nat.add_zero] at h ⊢
      split at h
      · rename_i hp
        obtain ⟨v, h3, h4⟩ := stepT_opT h
        refine ⟨v, _, fun k hk1 hk2 => ⟨v, ?_, rfl⟩, h4⟩
        unfold OpT at h3 ⊢
        split at h3
        · rename_i f args ts ho
          rw [ho] at hp; cases hp
        · exact h3.elim
        · exact h3.elim
        · exact pure_any hp h3 _
      · obtain ⟨v, h3, h4, h5⟩ := stepT_opT h
        refine ⟨v, _, fun k hk1 hk2 => ?_, h5⟩
        have hm := hca.lev k hk1 hk2
        rw [hl] at hm
        rcases List.mem_cons.1 hm with rfl | hm
        · exact ⟨v, h3, rfl⟩
        · obtain ⟨v', h6, h7⟩ := stepT_opT (allC_mem h4 k hm)
          exact ⟨v', h6, h7⟩

theorem aopsX_valsX (hok : drawOk ops = true) (hk : certOkX X ops cs N = true) : ∀ (m i : Nat), i + m = ops.size → ∀ {vals0 : Nat → Value} {A : St}, aopsX P w0 (ops.toList.map (·.dst)) Q H N (ops.toList.drop i) (cs.drop i) (E n (env ops vals0 ρ (below i)) ds) A →
    ∃ vals : Nat → Value, (∀ j, j < i → vals j = vals0 j) ∧ (∀ j o, i ≤ j → ops[j]? = some o → StepY P w0 (ops.toList.map (·.dst)) cs H j o (E n (env ops vals ρ (below j)) ds) (vals j)) ∧ Q .normal (E n (env ops vals ρ (below ops.size)) ds) (hs H N)
  | 0, i, hi, vals0, A, h => by
    rw [List.drop_of_length_le (l := ops.toList) (by simp; omega)] at h
    refine ⟨vals0, fun _ _ => rfl, fun j o hj ho => ?_, ?_⟩
    · have := (Array.getElem?_eq_some_iff.1 ho).1; omega
    · have : i = ops.size := by omega
      subst this
      rw [aopsX_nil] at h; exact h
  | m + 1, i, hi, vals0, A, h => by
    have hlt : i < ops.size := by omega
    have hoi : ops[i]? = some ops[i] := Array.getElem?_eq_getElem hlt
    obtain ⟨hlen, _, hat⟩ := certX_at hk
    obtain ⟨c, hc, hca⟩ := hat i _ hoi
    have hlt2 : i < cs.length := by omega
    have hci : cs[i] = c := by rw [List.getElem?_eq_getElem hlt2] at hc; cases hc; rfl
    rw [List.drop_eq_getElem_cons (l := ops.toList) (by simpa using hlt), List.drop_eq_getElem_cons (l := cs) hlt2] at h
    simp only [Array.getElem_toList, hci] at h
    have henv : ∀ (vals : Nat → Value), (∀ j, j < i → vals j = vals0 j) → env ops vals ρ (below i) = env ops vals0 ρ (below i) := by
      intro vals hv
      funext t
      unfold env
      split
      · rename_i j hj
        by_cases hji : j < i
        · simp [below, hji, hv j hji]
        · simp [below, hji]
      · rfl
    have go : ∀ v A1, StepY P w0 (ops.toList.map (·.dst)) cs H i ops[i] (E n (env ops vals0 ρ (below i)) ds) v → aopsX P w0 (ops.toList.map (·.dst)) Q H N (ops.toList.drop (i + 1)) (cs.drop (i + 1)) ((E n (env ops vals0 ρ (below i)) ds).put ops[i].dst v) A1 →
        ∃ vals : Nat → Value, (∀ j, j < i → vals j = vals0 j) ∧ (∀ j o, i ≤ j → ops[j]? = some o → StepY P w0 (ops.toList.map (·.dst)) cs H j o (E n (env ops vals ρ (below j)) ds) (vals j)) ∧ Q .normal (E n (env ops vals ρ (below ops.size)) ds) (hs H N) := by
      intro v A1 hst hk2
      obtain ⟨vals1, hv1⟩ : ∃ vals1 : Nat → Value, vals1 = fun j => if j = i then v else vals0 j := ⟨_, rfl⟩
      have e1 : env ops vals1 ρ (below i) = env ops vals0 ρ (below i) := henv _ fun j hj => by rw [hv1]; exact if_neg (by omega)
      have e2 : (E n (env ops vals0 ρ (below i)) ds).put ops[i].dst v = E n (env ops vals1 ρ (below (i + 1))) ds := by
        rw [below_succ, env_add hok hoi, put_EO, e1, hv1]; simp
      rw [e2] at hk2
      obtain ⟨vals, q1, q2, q3⟩ := aopsX_valsX hok hk m (i + 1) (by omega) hk2
      refine ⟨vals, fun j hj => ?_, fun j o hj ho => ?_, q3⟩
      · rw [q1 j (by omega), hv1]; exact if_neg (by omega)
      · by_cases hji : j = i
        · subst hji
          rw [hoi] at ho; cases ho
          rw [henv vals fun k hk => by rw [q1 k (by omega), hv1]; exact if_neg (by omega)]
          rw [q1 j (by omega), hv1]
          simpa using hst
        · exact q2 j o (by omega) ho
    rw [aopsX_cons] at h
    cases hw : wanted' (ops.toList.map (·.dst)) ops[i].guard (E n (env ops vals0 ρ (below i)) ds).tmps with
    | true =>
      rw [hw, ifB_true] at h
      obtain ⟨v, A1, h1, h2⟩ := stepX_atX hc hca h
      exact go v A1 (.inl ⟨hw, h1⟩) h2
    | false =>
      rw [hw, ifB_false, skipC_eq] at h
      refine go undef _ (.inr ⟨hw, ?_, rfl⟩) h
      unfold isH
      rw [hc]
      cases hb : c.heavy with
      | false => exact hb
      | true =>
        have := (hca.heavy hb).1
        rw [this] at hw
        cases hw


/-- A whole order of the operations: each behind what it hangs on. -/
def Vseq (X : List (Nat × Nat)) (ops : Array Oper) : (Nat → Bool) → List Nat → Prop
  | L, [] => ∀ j, j < ops.size → L j = true
  | L, i :: r => L i = false ∧ (∃ o, ops[i]? = some o ∧ ∀ e ∈ o.after, Region.binds .any e = true → L e.on = true) ∧ (∀ x, (i, x) ∈ X → L x = true) ∧ Vseq X ops (fun j => j == i || L j) r
theorem Vseq.more : ∀ {r : List Nat} {L : Nat → Bool} {j k : Nat}, L j = true → Vseq X ops L r → Vseq ((k, j) :: X) ops L r
  | [], L, j, k, _, h => h
  | i :: r, L, j, k, hj, ⟨h1, h2, h3, h4⟩ => ⟨h1, h2, fun x hx => by
      rcases List.mem_cons.1 hx with e | hx
      · cases e; exact hj
      · exact h3 x hx, Vseq.more (by simp [hj]) h4⟩
theorem Vseq.split : ∀ {r : List Nat} {L : Nat → Bool} {j k : Nat}, j ≠ k → j < ops.size → L j = false → L k = false → Vseq X ops L r → Vseq ((k, j) :: X) ops L r ∨ Vseq ((j, k) :: X) ops L r
  | [], L, j, k, _, hj, hf, _, h => by have := h j hj; rw [hf] at this; cases this
  | i :: r, L, j, k, hne, hj, hf, hg, ⟨h1, h2, h3, h4⟩ => by
    by_cases hij : i = j
    · subst hij
      refine .inl ⟨h1, h2, fun x hx => ?_, Vseq.more (by simp) h4⟩
      rcases List.mem_cons.1 hx with e | hx
      · cases e; exact absurd rfl hne
      · exact h3 x hx
    by_cases hik : i = k
    · subst hik
      refine .inr ⟨h1, h2, fun x hx => ?_, Vseq.more (by simp) h4⟩
      rcases List.mem_cons.1 hx with e | hx
      · cases e; exact absurd rfl hij
      · exact h3 x hx
    rcases Vseq.split hne hj (by simp [hf, Ne.symm hij]) (by simp [hg, Ne.symm hik]) h4 with h | h
    · refine .inl ⟨h1, h2, fun x hx => ?_, h⟩
      rcases List.mem_cons.1 hx with e | hx
      · cases e; exact absurd rfl hik
      · exact h3 x hx
    · refine .inr ⟨h1, h2, fun x hx => ?_, h⟩
      rcases List.mem_cons.1 hx with e | hx
      · cases e; exact absurd rfl hij
      · exact h3 x hx
/-- All orders that heed X come to Q. -/
def Ords (P : Program) (w0 : World) (nr : Bool) (ops : Array Oper) (Q : Exit → Act → St → Prop) (a : Act) (A : St) (X : List (Nat × Nat)) : Prop := ∀ l, Vseq X ops (fun _ => false) l → aopsI P w0 nr ops Q l a A
theorem Ords.split {a : Act} {A : St} (j k : Nat) (h : decide (j ≠ k) && decide (j < ops.size) = true) (h1 : Ords P w0 nr ops Q a A ((k, j) :: X)) (h2 : Ords P w0 nr ops Q a A ((j, k) :: X)) : Ords P w0 nr ops Q a A X := by
  simp only [Bool.and_eq_true, decide_eq_true_eq] at h
  intro l hl
  rcases Vseq.split h.1 h.2 rfl rfl hl with h | h
  · exact h1 l h
  · exact h2 l h
theorem drawX_go {vals : Nat → Value} (hok : drawOk ops = true) (hk : certOkX X ops cs N = true) (hv : ∀ j o, ops[j]? = some o → StepY P w0 (ops.toList.map (·.dst)) cs H j o (E n (env ops vals ρ (below j)) ds) (vals j)) (hq : Q .normal (E n (env ops vals ρ (below ops.size)) ds) (hs H N)) :
    ∀ (r : List Nat) (L : Nat → Bool), Closed ops L → ClosedX X L → Vseq X ops L r → aopsI P w0 nr ops Q r (E n (env ops vals ρ L) ds) (hs H (lvl cs L))
  | [], L, hcl, hx, hall => by
    simp only [aopsI]
    have : env ops vals ρ L = env ops vals ρ (below ops.size) := by
      funext t
      unfold env
      cases hx : dIx ops t with
      | none => rfl
      | some j =>
        obtain ⟨o, ho, _⟩ := dIx_some hx
        have hj := (Array.getElem?_eq_some_iff.1 ho).1
        simp only [hall j hj, below, hj, decide_true]
    rw [this]
    have h2 : lvl cs L = N := by
      rw [(certX_at hk).2.1]
      unfold lvl
      rw [List.countP_eq_length]
      intro j hj
      have h3 := List.mem_range.1 (List.mem_filter.1 hj).1
      have h4 := (certX_at hk).1
      exact hall j (by omega)
    rw [h2]; exact hq
  | i :: r, L, hcl, hx, ⟨hif, ⟨o, ho, hpre'⟩, hpx, h4⟩ => by
    have hilt : i < ops.size := (Array.getElem?_eq_some_iff.1 ho).1
    have hstep := (hv i o ho).at (ρ2 := env ops vals ρ L) fun u hu => env_sees hok ho hif hpre' hcl hu
    obtain ⟨hlen, _, hat⟩ := certX_at hk
    obtain ⟨c, hcc, hca⟩ := hat i o ho
    have hbt := lvlX_between hk ho hcc hca hcl hx hif hpre' hpx
    have hla := lvl_add (cs := cs) (L := L) hif (by omega)
    have hnext := drawX_go hok hk hv hq r (fun j => j == i || L j) (fun j oj hj hoj e he hb => by
        simp only [Bool.or_eq_true, beq_iff_eq] at hj ⊢
        by_cases hji : j = i
        · subst hji
          rw [ho] at hoj; cases hoj
          exact .inr (hpre' e he hb)
        · exact .inr (hcl j oj (by simpa [hji] using hj) hoj e he hb)) (fun j x hj hm => by
        simp only [Bool.or_eq_true, beq_iff_eq] at hj ⊢
        by_cases hji : j = i
        · subst hji
          exact .inr (hpx x hm)
        · exact .inr (hx j x (by simpa [hji] using hj) hm)) h4
    rw [env_add hok ho, hla] at hnext
    simp only [aopsI, ho]
    rw [wanted_eq]
    rcases hstep with ⟨h1, h2⟩ | ⟨h1, h2, h3⟩
    · rw [if_pos h1]
      obtain ⟨v', h4, h5⟩ := h2 _ hbt.1 hbt.2
      exact h4.aoper nr Q (by rw [h5, put_EO]; exact hnext)
    · rw [if_neg (by rw [h1]; decide), put_EO]
      rw [h2, if_neg (by decide), Nat.add_zero, h3] at hnext
      exact hnext
/-- One order of the heavy operations. -/
theorem Ords.run {A : St} (cs : List Cert) (H : List St) (N : Nat) (hok : drawOk ops = true) (hk : certOkX X ops cs N = true) (hA : hs H 0 = A) (h : aopsX P w0 (ops.toList.map (·.dst)) Q H N ops.toList cs (E n ρ ds) A) : Ords P w0 nr ops Q (E n ρ ds) A X := by
  intro l hl
  obtain ⟨vals, _, h2, h3⟩ := aopsX_valsX (vals0 := fun _ => undef) (ρ := ρ) (n := n) (ds := ds) hok hk ops.size 0 (by omega) (by rw [env_zero, List.drop_zero, List.drop_zero]; exact h)
  have := drawX_go (nr := nr) hok hk (fun j o ho => h2 j o (Nat.zero_le _) ho) h3 l (fun _ => false) (fun j oj hj => by cases hj) (fun j x hj => by cases hj) hl
  have he : env ops vals ρ (fun _ => false) = ρ := by
    funext u
    unfold env
    split <;> simp
  have hl : lvl cs (fun _ => false) = 0 := by
    unfold lvl; rw [List.countP_eq_zero]; simp
  rw [he, hl, hA] at this
  exact this
end
end Go.Fw

/-! What is there stays there, whatever happens to blocks that are hidden. -/
set_option linter.unusedSimpArgs false
set_option linter.unusedVariables false
namespace Go.Fw
open Go.RowKit
structure Ge (A A' : St) : Prop where
  next : A.next ≤ A'.next
  get : ∀ b B, b < A.next → A.get b = some B → A'.get b = some B
theorem Ge.refl (A : St) : Ge A A := ⟨Nat.le_refl _, fun _ _ _ h => h⟩
theorem Ge.trans {A B C : St} (h : Ge A B) (k : Ge B C) : Ge A C := ⟨Nat.le_trans h.next k.next, fun b X hb hx => k.get b X (Nat.lt_of_lt_of_le hb h.next) (h.get b X hb hx)⟩
theorem Over.ge {A A' : St} (h : Over A A') : Ge A A' := ⟨h.next, fun b B hb hx => (h.get b hb).trans hx⟩
def St.hide (A : St) : List Nat → St
  | [] => A
  | b :: L => St.hide (A.upd b none) L
theorem hide_next (A : St) (L : List Nat) : (A.hide L).next = A.next := by
  induction L generalizing A with
  | nil => rfl
  | cons b L ih => rw [St.hide, ih]; rfl
theorem hide_get (A : St) (L : List Nat) (b : Nat) : (A.hide L).get b = if b ∈ L then none else A.get b := by
  induction L generalizing A with
  | nil => simp [St.hide]
  | cons c L ih =>
    rw [St.hide, ih, St.get_upd]
    by_cases h1 : b ∈ L
    · simp [h1]
    · by_cases h2 : b = c
      · simp [h1, h2]
      · simp [h1, h2]
theorem Ge.hide {A A' : St} {L L' : List Nat} (hn : A.next ≤ A'.next) (hg : ∀ b, b < A.next → b ∉ L → b ∉ L' ∧ A'.get b = A.get b) : Ge (A.hide L) (A'.hide L') := by
  refine ⟨by rw [hide_next, hide_next]; exact hn, fun b B hb hx => ?_⟩
  rw [hide_next] at hb
  rw [hide_get] at hx ⊢
  by_cases h : b ∈ L
  · rw [if_pos h] at hx; cases hx
  · rw [if_neg h] at hx
    obtain ⟨h1, h2⟩ := hg b hb h
    rw [if_neg h1, h2]; exact hx
theorem hide_ge (A : St) (L : List Nat) : Ge (A.hide L) A := by
  have := Ge.hide (A := A) (A' := A) (L := L) (L' := []) (Nat.le_refl _) (fun b _ _ => ⟨by simp, rfl⟩)
  exact this
theorem hide_over {A A' : St} (h : Over A A') (L : List Nat) : Ge (A.hide L) (A'.hide L) := Ge.hide h.next (fun b hb hL => ⟨hL, h.get b hb⟩)
section
variable {A A' : St}
theorem View.ge {sz : Nat} {cs : List Value} {len : Nat} {v : Value} (h : View A sz cs len v) (g : Ge A A') : View A' sz cs len v := by
  refine ⟨h.1, ?_⟩
  rcases h.2 with h | ⟨b, off, sp, c, cells, e, m, rfl, h1, h2, h3⟩
  · exact .inl h
  · exact .inr ⟨b, off, sp, c, cells, e, m, rfl, Nat.lt_of_lt_of_le h1 g.next, g.get b _ h1 h2, h3⟩
end
/-- Two lists, one by one. -/
inductive All2 {α β : Type} (R : α → β → Prop) : List α → List β → Prop
  | nil : All2 R [] []
  | cons {a : α} {b : β} {l : List α} {m : List β} : R a b → All2 R l m → All2 R (a :: l) (b :: m)
section
variable {α β : Type} {R R' : α → β → Prop} {l l' : List α} {m m' : List β}
theorem All2.length (h : All2 R l m) : l.length = m.length := by
  induction h with
  | nil => rfl
  | cons _ _ ih => simp [ih]
theorem All2.imp (h : All2 R l m) (hr : ∀ a b, R a b → R' a b) : All2 R' l m := by
  induction h with
  | nil => exact .nil
  | cons h1 _ ih => exact .cons (hr _ _ h1) ih
theorem All2.app (h : All2 R l m) (h' : All2 R l' m') : All2 R (l ++ l') (m ++ m') := by
  induction h with
  | nil => exact h'
  | cons h1 _ ih => exact .cons h1 ih
theorem All2.get (h : All2 R l m) : ∀ {i : Nat} {a : α}, l[i]? = some a → ∃ b, m[i]? = some b ∧ R a b := by
  induction h with
  | nil => intro i a h; simp at h
  | cons h1 _ ih =>
    intro i a h
    cases i with
    | zero => simp at h; subst h; exact ⟨_, rfl, h1⟩
    | succ i => simpa using ih (by simpa using h)
theorem All2.take (h : All2 R l m) : ∀ n, All2 R (l.take n) (m.take n) := by
  induction h with
  | nil => intro n; simp; exact .nil
  | cons h1 _ ih => intro n; cases n with
    | zero => exact .nil
    | succ n => exact .cons h1 (ih n)
theorem All2.drop (h : All2 R l m) : ∀ n, All2 R (l.drop n) (m.drop n) := by
  induction h with
  | nil => intro n; simp; exact .nil
  | cons h1 h2 ih => intro n; cases n with
    | zero => exact .cons h1 h2
    | succ n => exact ih n
end
theorem flat_drop {sz : Nat} : ∀ {m : List (List Value)} (n : Nat), (∀ cs ∈ m, cs.length = sz) → m.flatten.drop (n * sz) = (m.drop n).flatten
  | [], n, _ => by simp
  | c :: m, 0, _ => by simp
  | c :: m, n + 1, h => by
    have hc := h c (List.mem_cons_self ..)
    rw [List.flatten_cons, List.drop_succ_cons, Nat.add_mul, Nat.one_mul, Nat.add_comm, ← hc, List.drop_length_add_append, hc, flat_drop n (fun cs hc => h cs (List.mem_cons_of_mem _ hc))]
theorem flat_elem {sz : Nat} {m : List (List Value)} {i : Nat} {cs : List Value} (h : ∀ cs ∈ m, cs.length = sz) (hi : m[i]? = some cs) : (m.flatten.drop (i * sz)).take sz = cs := by
  have hlt : i < m.length := (List.getElem?_eq_some_iff.1 hi).1
  have hcs := h cs (List.mem_of_getElem? hi)
  rw [flat_drop i h, List.drop_eq_getElem_cons hlt, List.flatten_cons]
  have : m[i] = cs := by rw [List.getElem?_eq_getElem hlt] at hi; exact Option.some.inj hi
  rw [this, ← hcs, List.take_left]
end Go.Fw

/-! Slices of things that hold slices, as arguments. -/
set_option linter.unusedSimpArgs false
set_option linter.unusedVariables false
namespace Go.Fw
open Go.RowKit
section
variable {w : World} {φ : Nat → Option Loc} {A : St}
/-- Cells, one by one. -/
def VRL (φ : Nat → Option Loc) (n : Nat) (as cs : List Value) : Prop := as.length = cs.length ∧ ∀ (i : Nat) (a c : Value), as[i]? = some a → cs[i]? = some c → VR φ n a c
theorem VRL.mono {φ φ' : Nat → Option Loc} {n n' : Nat} {as cs : List Value} (h : VRL φ n as cs) (hn : n ≤ n') (hx : Ext n φ φ') : VRL φ' n' as cs := ⟨h.1, fun i a c h1 h2 => (h.2 i a c h1 h2).mono hn hx⟩
theorem VRL.app {φ : Nat → Option Loc} {n : Nat} {as cs as' cs' : List Value} (h : VRL φ n as cs) (h' : VRL φ n as' cs') : VRL φ n (as ++ as') (cs ++ cs') := by
  refine ⟨by rw [List.length_append, List.length_append, h.1, h'.1], fun i a c h1 h2 => ?_⟩
  by_cases hi : i < as.length
  · rw [List.getElem?_append_left hi] at h1
    rw [List.getElem?_append_left (by rw [← h.1]; exact hi)] at h2
    exact h.2 i a c h1 h2
  · rw [List.getElem?_append_right (by omega)] at h1
    rw [List.getElem?_append_right (by rw [← h.1]; omega), ← h.1] at h2
    exact h'.2 _ a c h1 h2
theorem VRL.agg {φ : Nat → Option Loc} {n : Nat} {as cs : List Value} (h : VRL φ n as cs) : VR φ n (.agg as.toArray) (.agg cs.toArray) :=
  .agg _ _ (by simpa using h.1) fun i v v' h1 h2 => h.2 i v v' (by simpa using h1) (by simpa using h2)
end
end Go.Fw

/-! A drawn region is cut at an operation that all others stand ahead of, or behind. -/
set_option linter.unusedSimpArgs false
set_option linter.unusedVariables false
namespace Go.Fw
open Go.RowKit
def predsX (X : List (Nat × Nat)) (i : Nat) (o : Oper) : List Nat := (o.after.toList.filter (Region.binds .any ·)).map (·.on) ++ (X.filter (·.1 == i)).map (·.2)
def beforeX (X : List (Nat × Nat)) (ops : Array Oper) : Nat → Nat → Nat → Bool
  | 0, _, _ => false
  | m + 1, i, x => match ops[i]? with | none => false | some o => (predsX X i o).any fun y => y == x || beforeX X ops m y x
def ixOf : List Nat → Nat → Option Nat
  | [], _ => none
  | x :: l, i => if x == i then some 0 else (ixOf l i).map (· + 1)
theorem ix_at : ∀ {B : List Nat} {i j : Nat}, ixOf B i = some j → B[j]? = some i
  | [], _, _, h => by cases h
  | x :: l, i, j, h => by
    rw [ixOf] at h
    split at h
    · rename_i hx; cases h
      have : x = i := by simpa using hx
      rw [this]; rfl
    · obtain ⟨k, hk, rfl⟩ := Option.map_eq_some_iff.1 h
      rw [List.getElem?_cons_succ]; exact ix_at hk
theorem ix_some : ∀ {B : List Nat} {i : Nat}, i ∈ B → ∃ j, ixOf B i = some j
  | x :: l, i, h => by
    rw [ixOf]
    by_cases hx : x = i
    · exact ⟨0, by simp [hx]⟩
    · obtain ⟨j, hj⟩ := ix_some (B := l) (i := i) (by rcases List.mem_cons.1 h with e | h; exact absurd e.symm hx; exact h)
      exact ⟨j + 1, by simp [hx, hj]⟩
theorem ix_inj {B : List Nat} (h : B.Nodup) {i j k : Nat} (h1 : B[j]? = some i) (h2 : B[k]? = some i) : j = k := by
  obtain ⟨hj, e1⟩ := List.getElem?_eq_some_iff.1 h1
  obtain ⟨hk, e2⟩ := List.getElem?_eq_some_iff.1 h2
  exact (List.getElem_inj h).1 (e1.trans e2.symm)
def reE (B : List Nat) (e : Edge) : Option Edge := (ixOf B e.on).map fun j => { e with on := j }
def reO (B : List Nat) (o : Oper) : Oper := { o with after := (o.after.toList.filterMap (reE B)).toArray, guard := o.guard.bind fun g => (ixOf B g.1).map fun j => (j, g.2) }
def nilOp : Oper := ⟨none, .nilCheck (.const (.pointer none)), 0, "", #[], none⟩
def subOps (ops : Array Oper) (B : List Nat) : Array Oper := (B.map fun i => reO B (ops.getD i nilOp)).toArray
def reX (B : List Nat) (X : List (Nat × Nat)) : List (Nat × Nat) := X.filterMap fun p => (ixOf B p.1).bind fun k => (ixOf B p.2).map fun j => (k, j)
def okSub (ops : Array Oper) (B : List Nat) : Bool := B.all fun i => match ops[i]? with | none => false | some o => match o.guard with | none => true | some g => B.contains g.1
def nodupB : List Nat → Bool
  | [] => true
  | x :: l => !l.contains x && nodupB l
def cutOk (X : List (Nat × Nat)) (ops : Array Oper) (B : List Nat) (c : Nat) (C : List Nat) : Bool :=
  nodupB B && nodupB C && okSub ops B && okSub ops C && decide (c < ops.size) && (ops.getD c nilOp).guard.isNone && !B.contains c && !C.contains c
  && (List.range ops.size).all (fun i => i == c || B.contains i || C.contains i)
  && B.all (fun b => beforeX X ops ops.size c b) && C.all (fun i => beforeX X ops ops.size i c)
theorem nodupB_iff : ∀ {l : List Nat}, nodupB l = true → l.Nodup
  | [], _ => List.nodup_nil
  | x :: l, h => by
    simp only [nodupB, Bool.and_eq_true, Bool.not_eq_true'] at h
    exact List.nodup_cons.2 ⟨by simpa using h.1, nodupB_iff h.2⟩
section
variable {P : Program} {w0 : World} {n0 n N : Nat} {nr : Bool} {Q : Exit → Act → St → Prop} {ops : Array Oper} {X : List (Nat × Nat)}
def addN (i : Nat) (L : Nat → Bool) : Nat → Bool := fun j => j == i || L j
def Vpre (X : List (Nat × Nat)) (ops : Array Oper) : (Nat → Bool) → List Nat → (Nat → Bool) → Prop
  | L, [], L' => L' = L
  | L, i :: r, L' => L i = false ∧ (∃ o, ops[i]? = some o ∧ ∀ e ∈ o.after, Region.binds .any e = true → L e.on = true) ∧ (∀ x, (i, x) ∈ X → L x = true) ∧ Vpre X ops (addN i L) r L'
theorem Vseq.pre : ∀ {l : List Nat} {L : Nat → Bool}, Vseq X ops L l → ∃ L', Vpre X ops L l L' ∧ ∀ j, j < ops.size → L' j = true
  | [], L, h => ⟨L, rfl, h⟩
  | i :: r, L, ⟨h1, h2, h3, h4⟩ => by
    obtain ⟨L', h5, h6⟩ := Vseq.pre h4
    exact ⟨L', ⟨h1, h2, h3, h5⟩, h6⟩
theorem Vpre.seq : ∀ {l : List Nat} {L L' : Nat → Bool}, Vpre X ops L l L' → (∀ j, j < ops.size → L' j = true) → Vseq X ops L l
  | [], L, L', h, h' => by cases h; exact h'
  | i :: r, L, L', ⟨h1, h2, h3, h4⟩, h' => ⟨h1, h2, h3, Vpre.seq h4 h'⟩
theorem Vseq.at {c : Nat} (hc : c < ops.size) : ∀ {l : List Nat} {L : Nat → Bool}, L c = false → Vseq X ops L l → ∃ l1 r L1, l = l1 ++ c :: r ∧ Vpre X ops L l1 L1 ∧ L1 c = false ∧ (∃ o, ops[c]? = some o ∧ ∀ e ∈ o.after, Region.binds .any e = true → L1 e.on = true) ∧ (∀ x, (c, x) ∈ X → L1 x = true) ∧ Vseq X ops (addN c L1) r
  | [], L, h0, h => by have := h c hc; rw [h0] at this; cases this
  | i :: r, L, h0, ⟨h1, h2, h3, h4⟩ => by
    by_cases hi : i = c
    · subst hi
      exact ⟨[], r, L, rfl, rfl, h0, h2, h3, h4⟩
    · obtain ⟨l1, r', L1, e, h5, h6⟩ := Vseq.at hc (L := addN i L) (by simp [addN, h0, Ne.symm hi]) h4
      exact ⟨i :: l1, r', L1, by rw [e]; rfl, ⟨h1, h2, h3, h5⟩, h6⟩
/-- What is done is closed under what must be ahead. -/
def PCl (X : List (Nat × Nat)) (ops : Array Oper) (L : Nat → Bool) : Prop := ∀ i o, L i = true → ops[i]? = some o → ∀ y ∈ predsX X i o, L y = true
theorem preds_in {i : Nat} {o : Oper} {L : Nat → Bool} (h1 : ∀ e ∈ o.after, Region.binds .any e = true → L e.on = true) (h2 : ∀ x, (i, x) ∈ X → L x = true) : ∀ y ∈ predsX X i o, L y = true := by
  intro y hy
  unfold predsX at hy
  rcases List.mem_append.1 hy with hy | hy
  · obtain ⟨e, he, rfl⟩ := List.mem_map.1 hy
    obtain ⟨he1, he2⟩ := List.mem_filter.1 he
    exact h1 e (by simpa using he1) he2
  · obtain ⟨p, hp, rfl⟩ := List.mem_map.1 hy
    obtain ⟨hp1, hp2⟩ := List.mem_filter.1 hp
    have : p.1 = i := by simpa using hp2
    exact h2 _ (by rw [← this]; exact hp1)
theorem PCl.add {L : Nat → Bool} {i : Nat} (h : PCl X ops L) (h1 : ∃ o, ops[i]? = some o ∧ ∀ e ∈ o.after, Region.binds .any e = true → L e.on = true) (h2 : ∀ x, (i, x) ∈ X → L x = true) : PCl X ops (addN i L) := by
  intro j o hj ho y hy
  simp only [addN, Bool.or_eq_true, beq_iff_eq] at hj ⊢
  obtain ⟨o1, ho1, h1⟩ := h1
  by_cases hji : j = i
  · subst hji
    rw [ho1] at ho; cases ho
    exact .inr (preds_in h1 h2 y hy)
  · exact .inr (h j o (by simpa [hji] using hj) ho y hy)
theorem Vpre.pcl : ∀ {l : List Nat} {L L' : Nat → Bool}, PCl X ops L → Vpre X ops L l L' → PCl X ops L'
  | [], L, L', hp, h => by cases h; exact hp
  | i :: r, L, L', hp, ⟨h1, h2, h3, h4⟩ => Vpre.pcl (hp.add h2 h3) h4
theorem before_in {L : Nat → Bool} (hp : PCl X ops L) : ∀ (m i x : Nat) (o : Oper), ops[i]? = some o → (∀ y ∈ predsX X i o, L y = true) → beforeX X ops m i x = true → L x = true
  | 0, i, x, o, _, _, h => by cases h
  | m + 1, i, x, o, ho, hi, h => by
    rw [beforeX, ho] at h
    obtain ⟨y, hy, h⟩ := List.any_eq_true.1 h
    have hLy := hi y hy
    rcases Bool.or_eq_true _ _ ▸ h with h | h
    · have : y = x := by simpa using h
      rw [← this]; exact hLy
    · cases m with
      | zero => cases h
      | succ m =>
        cases hoy : ops[y]? with
        | none => rw [beforeX, hoy] at h; cases h
        | some oy => exact before_in hp (m + 1) y x oy hoy (hp y oy hLy hoy) h
theorem Vpre.mem : ∀ {l : List Nat} {L L' : Nat → Bool}, PCl X ops L → Vpre X ops L l L' → ∀ i ∈ l, ∃ L1, PCl X ops L1 ∧ L1 i = false ∧ (∃ o, ops[i]? = some o ∧ ∀ y ∈ predsX X i o, L1 y = true) ∧ ∀ j, L1 j = true → L' j = true
  | [], L, L', hp, h, i, hi => by cases hi
  | i :: r, L, L', hp, ⟨h1, ⟨o, ho, h2⟩, h3, h4⟩, j, hj => by
    have mono : ∀ {l : List Nat} {L L' : Nat → Bool}, Vpre X ops L l L' → ∀ j, L j = true → L' j = true := by
      intro l
      induction l with
      | nil => intro L L' h j hj; cases h; exact hj
      | cons i r ih => intro L L' h j hj; exact ih h.2.2.2 j (by simp [addN, hj])
    rcases List.mem_cons.1 hj with rfl | hj
    · exact ⟨L, hp, h1, ⟨o, ho, preds_in h2 h3⟩, fun k hk => mono h4 k (by simp [addN, hk])⟩
    · exact Vpre.mem (hp.add ⟨o, ho, h2⟩ h3) h4 j hj
theorem okSub_at {B : List Nat} (h : okSub ops B = true) {i : Nat} (hi : i ∈ B) : ∃ o, ops[i]? = some o ∧ ∀ g, o.guard = some g → g.1 ∈ B := by
  have h1 := List.all_eq_true.1 h i hi
  cases ho : ops[i]? with
  | none => rw [ho] at h1; cases h1
  | some o =>
    refine ⟨o, rfl, fun g hg => ?_⟩
    rw [ho] at h1
    simp only [hg] at h1
    simpa using h1
theorem sub_at {B : List Nat} {j i : Nat} {o : Oper} (h : B[j]? = some i) (ho : ops[i]? = some o) : (subOps ops B)[j]? = some (reO B o) := by
  unfold subOps
  rw [List.getElem?_toArray, List.getElem?_map, h, Option.map_some, Array.getD_eq_getD_getElem?, ho]; rfl
theorem sub_size {B : List Nat} : (subOps ops B).size = B.length := by simp [subOps]
def pull (B : List Nat) (L : Nat → Bool) (j : Nat) : Bool := match B[j]? with | some i => L i | none => false
theorem pull_add {B : List Nat} (hB : B.Nodup) {i j : Nat} (h : B[j]? = some i) (L : Nat → Bool) : pull B (addN i L) = addN j (pull B L) := by
  funext k
  unfold pull addN
  cases hk : B[k]? with
  | none =>
    have : k ≠ j := fun e => by rw [e, h] at hk; cases hk
    simp [this, hk]
  | some x =>
    by_cases hx : x = i
    · subst hx
      have := ix_inj hB hk h
      simp [this]
    · have : k ≠ j := fun e => by rw [e, h] at hk; cases hk; exact hx rfl
      have e1 : (x == i) = false := by simpa using hx
      have e2 : (k == j) = false := by simpa using this
      simp only [hk, e1, e2]
theorem reE_mem {B : List Nat} {o : Oper} {e : Edge} (h : e ∈ (reO B o).after) : ∃ e', e' ∈ o.after ∧ ixOf B e'.on = some e.on ∧ e.ground = e'.ground := by
  simp only [reO, List.mem_toArray, List.mem_filterMap] at h
  obtain ⟨e', h1, h2⟩ := h
  obtain ⟨j, hj, rfl⟩ := Option.map_eq_some_iff.1 h2
  exact ⟨e', by simpa using h1, hj, rfl⟩
theorem binds_ground {m : Region.Mode} {e e' : Edge} (h : e.ground = e'.ground) : Region.binds m e = Region.binds m e' := by
  unfold Region.binds; rw [h]
theorem reX_mem {B : List Nat} (hB : B.Nodup) {i j x : Nat} (h : B[j]? = some i) (hx : (j, x) ∈ reX B X) : ∃ y, (i, y) ∈ X ∧ B[x]? = some y := by
  unfold reX at hx
  obtain ⟨⟨p, q⟩, h1, h2⟩ := List.mem_filterMap.1 hx
  obtain ⟨k, h3, h4⟩ := Option.bind_eq_some_iff.1 h2
  obtain ⟨m, h5, h6⟩ := Option.map_eq_some_iff.1 h4
  cases h6
  have h7 := ix_at h3
  simp only at h7 h5
  rw [h] at h7; cases h7
  exact ⟨q, h1, ix_at h5⟩
theorem Vpre.sub {B : List Nat} (hB : B.Nodup) : ∀ {l : List Nat} {L L' : Nat → Bool}, Vpre X ops L l L' → (∀ i ∈ l, i ∈ B) → Vpre (reX B X) (subOps ops B) (pull B L) (l.map fun i => (ixOf B i).getD 0) (pull B L')
  | [], L, L', h, _ => by cases h; rfl
  | i :: r, L, L', ⟨h1, ⟨o, ho, h2⟩, h3, h4⟩, hm => by
    obtain ⟨j, hj⟩ := ix_some (hm i (List.mem_cons_self ..))
    have hat := ix_at hj
    have ih := Vpre.sub hB h4 (fun k hk => hm k (List.mem_cons_of_mem _ hk))
    rw [pull_add hB hat] at ih
    rw [List.map_cons, hj]
    refine ⟨by simp [pull, hat, h1], ⟨_, sub_at hat ho, fun e he hb => ?_⟩, fun x hx => ?_, ih⟩
    · obtain ⟨e', h5, h6, h7⟩ := reE_mem he
      have := h2 e' h5 (by rw [← binds_ground h7]; exact hb)
      simp [pull, ix_at h6, this]
    · obtain ⟨y, h5, h6⟩ := reX_mem hB hat hx
      simp [pull, h6, h3 y h5]
/-- What is behind a normal end. -/
def thenN (K : Act → St → Prop) (Q : Exit → Act → St → Prop) : Exit → Act → St → Prop
  | .normal, a, A => K a A
  | e, a, A => Q e a A
theorem acallV_mono {fv : Value} {args : Array Value} {A : St} {R R' : Ending → St → Prop} (h2 : ACallV P w0 fv args A R) (key : ∀ e A', R e A' → R' e A') : ACallV P w0 fv args A R' := by
  unfold ACallV at h2 ⊢
  split at h2
  · unfold ACallF at h2 ⊢
    split at h2
    · rename_i hb; rw [if_pos hb]; exact h2.mono key
    · rename_i hb; rw [if_neg hb]; exact h2.mono key
  · exact h2.mono key
  · exact h2.elim
theorem aoper_imp {o o' : Oper} {a : Act} {A : St} {next next' : Act → St → Prop} {Q' : Exit → Act → St → Prop} (ho : o'.op = o.op) (hd : o'.dst = o.dst) (hn : ∀ a A, next' a A → next a A) (hq : ∀ c a A, Q' (.panic c) a A → Q (.panic c) a A) (h : aoper P w0 nr o' a A next' Q') : aoper P w0 nr o a A next Q := by
  obtain ⟨d, op, ty, pos, aft, g⟩ := o
  obtain ⟨d', op', ty', pos', aft', g'⟩ := o'
  simp only at ho hd
  subst ho; subst hd
  have kc : ∀ {f : Operand} {args : Array Operand}, ACallV P w0 (a.eval f) (args.map a.eval) A (afterCall d' a next' Q') → ACallV P w0 (a.eval f) (args.map a.eval) A (afterCall d' a next Q) := fun h2 => acallV_mono h2 fun e A' he => by
    unfold afterCall at he ⊢
    cases e with
    | returned v => exact hn _ _ he
    | panicked c => exact hq _ _ _ he
    | outgrown => exact he
  unfold aoper at h ⊢
  split at h
  · rename_i f args ts hop
    simp only at hop
    subst hop
    exact ⟨h.1, kc h.2⟩
  · rename_i x hop
    simp only at hop
    subst hop
    refine ⟨h.1, ?_⟩
    have h2 := h.2
    cases hx : a.eval x with
    | iface t v => simp only [hx] at h2 ⊢; exact hq _ _ _ h2
    | _ => simp only [hx] at h2
  · rename_i f args ts hop
    simp only at hop
    subst hop
    refine ⟨h.1, h.2.1, ?_⟩
    have h2 := h.2.2
    split at h2
    · rename_i hx; simp only [hx] at h2 ⊢; exact hn _ _ h2
    · exact h2.elim
  · rename_i h1 h2 h3
    simp only at h1 h2 h3 h ⊢
    cases hx : aop P op' a.eval A with
    | none => simp only [hx] at h
    | some y => simp only [hx] at h ⊢; exact hn _ _ h
theorem aopsI_imp {ops : Array Oper} {Q Q' : Exit → Act → St → Prop} (hn : ∀ a A, Q' .normal a A → Q .normal a A) (hq : ∀ c a A, Q' (.panic c) a A → Q (.panic c) a A) : ∀ (l : List Nat) {a : Act} {A : St}, aopsI P w0 nr ops Q' l a A → aopsI P w0 nr ops Q l a A
  | [], a, A, h => hn _ _ h
  | i :: r, a, A, h => by
    unfold aopsI at h ⊢
    split
    · rename_i ho
      rw [ho] at h
      exact aopsI_imp hn hq r h
    · rename_i o ho
      rw [ho] at h
      simp only at h
      split
      · rename_i hw
        rw [if_pos hw] at h
        exact aoper_imp rfl rfl (fun a A h => aopsI_imp hn hq r h) hq h
      · rename_i hw
        rw [if_neg hw] at h
        exact aopsI_imp hn hq r h
theorem wanted_sub {B : List Nat} {o : Oper} (hg : ∀ g, o.guard = some g → g.1 ∈ B) (hB : okSub ops B = true) (tm : Array Value) : Region.wanted (reO B o) (yielded (subOps ops B) tm) = Region.wanted o (yielded ops tm) := by
  unfold Region.wanted reO
  cases h : o.guard with
  | none => rfl
  | some g =>
    obtain ⟨j, hj⟩ := ix_some (hg g h)
    obtain ⟨og, h1, _⟩ := okSub_at hB (hg g h)
    simp only [Option.bind_some, hj, Option.map_some]
    have : yielded (subOps ops B) tm j = yielded ops tm g.1 := by
      unfold yielded
      rw [sub_at (ix_at hj) h1, h1]; rfl
    rw [this]
theorem run_sub {B : List Nat} (hB : okSub ops B = true) {rest : List Nat} : ∀ {l : List Nat} {a : Act} {A : St}, (∀ i ∈ l, i ∈ B) → aopsI P w0 nr (subOps ops B) (thenN (fun a A => aopsI P w0 nr ops Q rest a A) Q) (l.map fun i => (ixOf B i).getD 0) a A → aopsI P w0 nr ops Q (l ++ rest) a A
  | [], a, A, _, h => h
  | i :: r, a, A, hm, h => by
    have hi := hm i (List.mem_cons_self ..)
    obtain ⟨j, hj⟩ := ix_some hi
    obtain ⟨o, ho, hg⟩ := okSub_at hB hi
    have hm' : ∀ k ∈ r, k ∈ B := fun k hk => hm k (List.mem_cons_of_mem _ hk)
    rw [List.map_cons, hj] at h
    simp only [Option.getD_some, aopsI, sub_at (ix_at hj) ho, wanted_sub hg hB] at h
    simp only [List.cons_append, aopsI, ho]
    split
    · rename_i hw
      rw [if_pos hw] at h
      exact aoper_imp rfl rfl (fun a A h => run_sub hB hm' h) (fun c a A h => h) h
    · rename_i hw
      rw [if_neg hw] at h
      exact run_sub hB hm' h
/-- **The cut.** All of B stands ahead of c, all of C behind it. -/
theorem Ords.cut {a : Act} {A : St} (B C : List Nat) (c : Nat) (hk : cutOk X ops B c C = true)
    (h : Ords P w0 nr (subOps ops B) (thenN (fun a1 A1 => aoper P w0 nr (ops.getD c nilOp) a1 A1 (fun a2 A2 => Ords P w0 nr (subOps ops C) Q a2 A2 (reX C X)) Q) Q) a A (reX B X)) : Ords P w0 nr ops Q a A X := by
  unfold cutOk at hk
  simp only [Bool.and_eq_true, Bool.not_eq_true', decide_eq_true_eq] at hk
  obtain ⟨⟨⟨⟨⟨⟨⟨⟨⟨⟨k1, k2⟩, k3⟩, k4⟩, k5⟩, kg⟩, k6⟩, k7⟩, k8⟩, k9⟩, k10⟩ := hk
  obtain ⟨oc, hc⟩ : ∃ oc, ops[c]? = some oc := ⟨_, Array.getElem?_eq_getElem k5⟩
  have hoc : ops.getD c nilOp = oc := by rw [Array.getD_eq_getD_getElem?, hc]; rfl
  rw [hoc] at kg h
  have hg : oc.guard = none := by simpa using kg
  have nB := nodupB_iff k1
  have nC := nodupB_iff k2
  intro l hl
  obtain ⟨l1, r, L1, rfl, hp1, hc1, hpc, hxc, hr⟩ := Vseq.at k5 rfl hl
  have p0 : PCl X ops (fun _ => false) := fun i o h => by cases h
  have p1 := Vpre.pcl p0 hp1
  have hLB : ∀ b ∈ B, L1 b = true := fun b hb => by
    obtain ⟨o, ho, h1⟩ := hpc
    exact before_in p1 ops.size c b o ho (preds_in h1 hxc) (List.all_eq_true.1 k9 b hb)
  have hm1 : ∀ i ∈ l1, i ∈ B := fun i hi => by
    obtain ⟨L2, q1, q2, ⟨o, ho, q3⟩, q4⟩ := Vpre.mem p0 hp1 i hi
    have hlt : i < ops.size := (Array.getElem?_eq_some_iff.1 ho).1
    have h8 := List.all_eq_true.1 k8 i (List.mem_range.2 hlt)
    simp only [Bool.or_eq_true, beq_iff_eq, List.contains_iff_mem] at h8
    rcases h8 with (h8 | h8) | h8
    · exfalso
      subst h8
      have : L1 i = true := by
        have mono : ∀ {l : List Nat} {L L' : Nat → Bool}, Vpre X ops L l L' → ∀ j ∈ l, L' j = true := by
          intro l
          induction l with
          | nil => intro L L' _ j hj; cases hj
          | cons x r ih =>
            intro L L' h j hj
            have mono2 : ∀ {l : List Nat} {L L' : Nat → Bool}, Vpre X ops L l L' → ∀ j, L j = true → L' j = true := by
              intro l
              induction l with
              | nil => intro L L' h j hj; cases h; exact hj
              | cons i r ih => intro L L' h j hj; exact ih h.2.2.2 j (by simp [addN, hj])
            rcases List.mem_cons.1 hj with rfl | hj
            · exact mono2 h.2.2.2 j (by simp [addN])
            · exact ih h.2.2.2 j hj
        exact mono hp1 i hi
      rw [hc1] at this; cases this
    · exact h8
    · exfalso
      have h10 := List.all_eq_true.1 k10 i h8
      have := before_in q1 ops.size i c o ho q3 h10
      rw [q4 c this] at hc1; cases hc1
  have hs1 : Vseq (reX B X) (subOps ops B) (fun _ => false) (l1.map fun i => (ixOf B i).getD 0) := by
    have := Vpre.sub nB hp1 hm1
    have he : pull B (fun _ => false) = fun _ => false := by
      funext j; unfold pull; split <;> rfl
    rw [he] at this
    refine this.seq fun j hj => ?_
    rw [sub_size] at hj
    simp [pull, List.getElem?_eq_getElem hj, hLB _ (List.getElem_mem hj)]
  have h1 := h _ hs1
  refine run_sub k3 hm1 ?_
  have key : ∀ a1 A1, aoper P w0 nr oc a1 A1 (fun a2 A2 => Ords P w0 nr (subOps ops C) Q a2 A2 (reX C X)) Q → aopsI P w0 nr ops Q (c :: r) a1 A1 := by
    intro a1 A1 h2
    simp only [aopsI, hc]
    have hw : Region.wanted oc (yielded ops a1.tmps) = true := by unfold Region.wanted; rw [hg]
    rw [if_pos hw]
    refine aoper_imp (o := oc) (o' := oc) (Q' := Q) rfl rfl (fun a2 A2 h3 => ?_) (fun _ _ _ h => h) h2
    obtain ⟨L3, hp3, hall⟩ := hr.pre
    have p2 : PCl X ops (addN c L1) := p1.add hpc hxc
    have hm2 : ∀ i ∈ r, i ∈ C := fun i hi => by
      have hmem : ∀ {l : List Nat} {L L' : Nat → Bool}, Vpre X ops L l L' → ∀ j ∈ l, L j = false := by
        intro l
        induction l with
        | nil => intro L L' _ j hj; cases hj
        | cons x r ih =>
          intro L L' h j hj
          rcases List.mem_cons.1 hj with rfl | hj
          · exact h.1
          · have := ih h.2.2.2 j hj
            simp only [addN, Bool.or_eq_false_iff] at this
            exact this.2
      obtain ⟨_, _, _, ⟨o, ho, _⟩, _⟩ := Vpre.mem p2 hp3 i hi
      have hlt : i < ops.size := (Array.getElem?_eq_some_iff.1 ho).1
      have hf := hmem hp3 i hi
      simp only [addN, Bool.or_eq_false_iff] at hf
      have h8 := List.all_eq_true.1 k8 i (List.mem_range.2 hlt)
      simp only [Bool.or_eq_true, beq_iff_eq, List.contains_iff_mem] at h8
      rcases h8 with (h8 | h8) | h8
      · subst h8; simp at hf
      · rw [hLB i h8] at hf; cases hf.2
      · exact h8
    have hs2 : Vseq (reX C X) (subOps ops C) (fun _ => false) (r.map fun i => (ixOf C i).getD 0) := by
      have := Vpre.sub nC hp3 hm2
      have he : pull C (addN c L1) = fun _ => false := by
        funext j
        unfold pull
        cases hj : C[j]? with
        | none => rfl
        | some i =>
          have hiC := List.mem_of_getElem? hj
          have h10 := List.all_eq_true.1 k10 i hiC
          simp only [addN]
          have hne : i ≠ c := fun e => by subst e; simp at k7; exact k7 hiC
          cases hL : L1 i with
          | false => simp [hne]
          | true =>
            exfalso
            obtain ⟨o, ho, _⟩ := okSub_at k4 hiC
            have := before_in p1 ops.size i c o ho (p1 i o hL ho) h10
            rw [hc1] at this; cases this
      rw [he] at this
      refine this.seq fun j hj => ?_
      rw [sub_size] at hj
      have hiC : C[j] ∈ C := List.getElem_mem hj
      obtain ⟨o, ho, _⟩ := okSub_at k4 hiC
      simp [pull, List.getElem?_eq_getElem hj, hall _ (Array.getElem?_eq_some_iff.1 ho).1]
    have h4 := h3 _ hs2
    have h5 := run_sub (rest := []) (Q := Q) k4 hm2 (a := a2) (A := A2) (by
      refine cast ?_ h4
      congr 1
      funext e a A
      cases e <;> rfl)
    rwa [List.append_nil] at h5
  exact aopsI_imp (Q' := thenN (fun a1 A1 => aoper P w0 nr oc a1 A1 (fun a2 A2 => Ords P w0 nr (subOps ops C) Q a2 A2 (reX C X)) Q) Q) (Q := thenN (fun a A => aopsI P w0 nr ops Q (c :: r) a A) Q) (fun a A h => key a A h) (fun c a A h => h) _ h1
end
end Go.Fw
