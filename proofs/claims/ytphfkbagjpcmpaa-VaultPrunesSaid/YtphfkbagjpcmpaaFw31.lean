import Derived.Test.YtphfkbagjpcmpaaFw30
import Derived.Lib.Builder
import Derived.Lib.Bytealg
/-! Functions without a text: internal/abi.NoEscape, the compare of strings; pointers held against themselves; strings out of a row. -/
set_option linter.unusedSimpArgs false
set_option linter.unusedVariables false
namespace Go.Fw
open Go.RowKit
section
variable {P : Program} {w0 : World} {A : St} {f : Nat} {fn : Func}
theorem ext_same (hf : P.funcs[f]? = some fn) (h1 : (fn.name == "runtime.NumGoroutine") = false) (hb : fn.body.isNone = true) (hn : Extern.findNext fn = none) (he : Extern.find fn = some Extern.AbiNoEscape.same) (v : Value) : AExt P w0 f #[v] A (fin v A) := by
  intro φ w ca hs hr
  obtain ⟨hsz, hr⟩ := hr
  obtain ⟨cv, rfl⟩ : ∃ cv, ca = #[cv] := by
    rcases ca with ⟨l⟩
    match l, hsz with
    | [x], _ => exact ⟨x, rfl⟩
  have hv : VR φ A.next v cv := hr 0 v cv rfl rfl
  exact ⟨cv, w, by rw [run_callFunc_extern hf h1 hb hn he, Lib.run_noEscape]; rfl, .returned v, φ, A, ⟨rfl, rfl⟩, .returned hv, hs, Nat.le_refl _, Ext.refl _ _⟩
/-- How two strings stand. -/
def cmpS (a b : ByteArray) : Int := Lib.compareBytes a.data.toList b.data.toList
theorem ext_cmp (hf : P.funcs[f]? = some fn) (h1 : (fn.name == "runtime.NumGoroutine") = false) (hb : fn.body.isNone = true) (hn : Extern.findNext fn = none) (he : Extern.find fn = some Extern.BytealgCompare.compare) (a b : ByteArray) : AExt P w0 f #[.string a, .string b] A (fin (.int .i64 (cmpS a b)) A) := by
  intro φ w ca hs hr
  obtain ⟨hsz, hr⟩ := hr
  obtain ⟨x, y, rfl⟩ : ∃ x y, ca = #[x, y] := by
    rcases ca with ⟨l⟩
    match l, hsz with
    | [x, y], _ => exact ⟨x, y, rfl⟩
  have hx : VR φ A.next (.string a) x := hr 0 _ x rfl rfl
  have hy : VR φ A.next (.string b) y := hr 1 _ y rfl rfl
  cases hx
  cases hy
  exact ⟨_, w, by rw [run_callFunc_extern hf h1 hb hn he, Lib.run_compareString]; rfl, .returned _, φ, A, ⟨rfl, rfl⟩, .returned (.int _ _), hs, Nat.le_refl _, Ext.refl _ _⟩
theorem asame_neq {t te b : Nat} {B : Blk} {off : Nat} {sp : Option Nat} (ht : P.underlying t = some (.pointer te)) (hi : (P.info? te).isSome = true) (hb : A.get b = some B) : asame P A .neq t ⟨b, off, sp⟩ ⟨b, off, sp⟩ = some (.bool false) := by
  simp [asame, ht, hb, hi]
/-- A string made of all of a row that nobody else holds: the row is gone. -/
theorem unsafeStr_row {pt e lo : Nat} {acc : List Int} {len : Nat} {v : Value} (h : Row A e 1 lo (acc.map (.int .u8 ·)) len v) (hp : P.underlying pt = some (.pointer e)) (he : tsz P e = some 1) (h0 : len ≠ 0) (hl : (len : Int) ≤ 9223372036854775807) :
    ∃ b, rowB v = some b ∧ lo ≤ b ∧ b < A.next ∧ asliceData A v = some (.pointer (some ⟨b, 0, none⟩), A) ∧ aunsafeStr P A pt (some ⟨b, 0, none⟩) len = some (.string (strOfNums acc), A.upd b none) := by
  rcases h with ⟨hcl, ⟨h0', _⟩ | ⟨b, sp, rfl, hsp, hb0, hb1, hbg⟩⟩
  · exact absurd h0' h0
  · refine ⟨b, rfl, hb0, hb1, by simp [asliceData, h0], ?_⟩
    have hal : acc.length = len := by simpa using hcl
    unfold aunsafeStr
    rw [if_neg (by omega), if_neg (by omega)]
    simp only [hp, hbg, he]
    rw [if_pos (by simp [hal]), Int.toNat_natCast, List.drop_zero, List.take_of_length_le (by simp [hal]), intsOf_ints]
    rfl
theorem unsafeStr_zero (pt : Nat) (p : Option Addr) : aunsafeStr P A pt p 0 = some (.string .empty, A) := by simp [aunsafeStr]
theorem cmpS_less : ∀ (a b : List UInt8), (0 ≤ Lib.compareBytes a b) ↔ Op.bytesLess a b = false
  | [], [] => by simp [Lib.compareBytes, Op.bytesLess]
  | [], _ :: _ => by simp [Lib.compareBytes, Op.bytesLess]
  | _ :: _, [] => by simp [Lib.compareBytes, Op.bytesLess]
  | x :: a, y :: b => by
    unfold Lib.compareBytes Op.bytesLess
    by_cases h1 : x < y
    · simp [h1]
    · by_cases h2 : y < x
      · have : ¬ x = y := fun h => by subst h; exact h1 h2
        simp [h1, h2, this]
      · have : x = y := UInt8.le_antisymm (UInt8.not_lt.1 h2) (UInt8.not_lt.1 h1)
        subst this
        simp [cmpS_less a b]
theorem bin_sgeq (t x y) (p q : ByteArray) : abin P .geq t x y (.string p) (.string q) = some (.bool (!(Op.bytesLess p.toList q.toList))) := Eq.trans rfl rfl
def lessS (a b : ByteArray) : Bool := Op.bytesLess a.toList b.toList
theorem cmpS_geq (a b : ByteArray) : (0 ≤ cmpS a b) ↔ lessS a b = false := by
  unfold cmpS lessS
  rw [ByteArray.toList_eq, ByteArray.toList_eq]; exact cmpS_less _ _
theorem beq_emptyS (s : ByteArray) : (s == ⟨#[]⟩) = decide (s.size = 0) := by
  rw [beqBytes, decide_eq_decide]
  constructor
  · rintro rfl; rfl
  · intro h
    apply nums_inj
    have : nums s = [] := List.eq_nil_of_length_eq_zero (by rw [nums_length]; exact h)
    rw [this]; rfl
theorem beqS (s : ByteArray) : (s == s) = true := by rw [beqBytes]; simp
/-- An element of a slice of things: where it lies, its cells, and all of it. -/
theorem View.en {α : Type} {encE : α → List Value} {sz e : Nat} {l : List α} {v : Value} (h : View A sz (l.flatMap encE) l.length v) (hlen : ∀ y, (encE y).length = sz) (hsz : tsz P e = some sz) {i : Nat} {x : α} (hx : l[i]? = some x) :
    ∃ b off cells e' m, b < A.next ∧ rowB v = some b ∧ (∀ k : IntKind, indexAddrU P (some (.slice e)) v (.int k i) = some (.pointer (some ⟨b, off, none⟩))) ∧ A.get b = some (.cells cells e' m) ∧
      loadC (some true) (some sz) (some (.cells cells e' m)) off = some (.agg (encE x).toArray) ∧ ∀ j y, (encE x)[j]? = some y → cells[off + j]? = some y := by
  have hi : i < l.length := (List.getElem?_eq_some_iff.1 hx).1
  obtain ⟨b, off, h1, h2, h3, cells, e', m, h4, h5, h6⟩ := View.at (P := P) (e := e) h hsz hi
  have key : ((l.flatMap encE).drop (i * sz)).take sz = encE x := by
    apply List.ext_getElem?
    intro j
    rw [List.getElem?_take]
    by_cases hj : j < sz
    · rw [if_pos hj, List.getElem?_drop, flatMap_at l (fun y _ => hlen y) i j hj, hx]; rfl
    · rw [if_neg hj, List.getElem?_eq_none (by rw [hlen]; omega)]
  rw [key] at h6
  refine ⟨b, off, cells, e', m, h1, h2, h3, h4, by rw [loadC_agg _ _ _ _ _ h5, h6], fun j y hy => ?_⟩
  rw [← h6, List.getElem?_take] at hy
  split at hy
  · rwa [List.getElem?_drop] at hy
  · cases hy
/-- What stays when a struct at c and its row are turned. -/
structure KpS (A A' : St) (c : Nat) (v v' : Value) : Prop where
  next : A.next ≤ A'.next
  get : ∀ b, b < A.next → b ≠ c → rowB v ≠ some b → A'.get b = A.get b
  row : ∀ b, rowB v' = some b → rowB v = some b ∨ A.next ≤ b
theorem KpS.refl (A : St) (c : Nat) (v : Value) : KpS A A c v v := ⟨Nat.le_refl _, fun _ _ _ _ => rfl, fun _ h => .inl h⟩
theorem KpS.trans {A B C : St} {c : Nat} {v u x : Value} (h : KpS A B c v u) (k : KpS B C c u x) : KpS A C c v x :=
  ⟨Nat.le_trans h.next k.next, fun b h1 h2 h4 => (k.get b (Nat.lt_of_lt_of_le h1 h.next) h2 (fun e => by
    rcases h.row b e with e | e
    · exact h4 e
    · omega)).trans (h.get b h1 h2 h4), fun b e => by
    rcases k.row b e with e | e
    · exact h.row b e
    · have := h.next; exact .inr (by omega)⟩
theorem Row.sing {e sz lo len : Nat} {cs : List Value} {v : Value} (h : Row A e sz lo cs len v) : one1 v = true := by
  rcases h.2 with ⟨_, rfl⟩ | ⟨_, _, rfl, _⟩ <;> rfl
theorem Row.rb {e sz lo len : Nat} {cs : List Value} {v : Value} (h : Row A e sz lo cs len v) : ∀ b, rowB v = some b → lo ≤ b ∧ b < A.next := by
  intro b hb
  rcases h.2 with ⟨_, rfl⟩ | ⟨b', _, rfl, _, h1, h2, _⟩
  · cases hb
  · cases hb; exact ⟨h1, h2⟩
/-- A row turned, what is below 'lo' as it was. -/
theorem Row.push_over {A A2 : St} {lo : Nat} {v : Value} (hlo : lo ≤ A.next) (hb : ∀ b, rowB v = some b → lo ≤ b) (hn : A.next ≤ A2.next) (hf : ∀ b, b < A.next → rowB v ≠ some b → A2.get b = A.get b) {A0 : St} (ho : Over A0 A) (h0 : A0.next ≤ lo) : Over A0 A2 :=
  ⟨Nat.le_trans ho.next hn, fun b h => by
    rw [hf b (by have := ho.next; omega) (fun e => by have := hb b e; omega)]; exact ho.get b h⟩
/-- What is appended is told by its cells, be they none. -/
theorem row_src {sT xT e bs : Nat} {z x : Value} {m sz lo len : Nat} {cs new : List Value} {ux : TypeDesc} {v : Value} (hel : telem P sT = some e) (hx : P.underlying xT = some ux) (hux : ∀ k, ux ≠ .int k) (hsz : tsz P e = some (sz + 1)) (hb : tbytes P e = some bs) (hz : tzero P e = some z) (hzc : z.cells.size = sz + 1)
    (hr : Row A e (sz + 1) lo cs len v) (hlo : lo ≤ A.next) (hsrc : srcCells A (sz + 1) x = some (m, new)) (hnl : new.length = m * (sz + 1)) (hlen : (len + m) * bs ≤ 140737488355328) (hcap : len + m ≤ 9223372036854775807) (hnew : new.all cell1 = true) :
    ∃ v' A', aappend P A sT xT v x = some (v', A') ∧ Row A' e (sz + 1) lo (cs ++ new) (len + m) v' ∧ A.next ≤ A'.next ∧ (∀ b, b < A.next → rowB v ≠ some b → A'.get b = A.get b) ∧ (∀ b, rowB v' = some b → rowB v = some b ∨ A.next ≤ b) ∧ (m = 0 → v' = v) := by
  by_cases hm : m = 0
  · subst hm
    obtain rfl : new = [] := List.eq_nil_of_length_eq_zero (by rw [hnl]; simp)
    refine ⟨v, A, ?_, by rw [List.append_nil]; exact hr, Nat.le_refl _, fun b _ _ => rfl, fun b hb => .inl hb, fun _ => rfl⟩
    have h2 : ¬ (sz + 1 = 0 ∨ z.cells.size ≠ sz + 1) := by omega
    rcases hr.2 with ⟨rfl, rfl⟩ | ⟨b, sp, rfl, _⟩
    · unfold aappend
      cases ux with
      | int k => exact absurd rfl (hux k)
      | _ => simp only [hel, hx, hsz, hb, hz, hsrc, if_neg h2, Nat.add_zero, Nat.le_refl, if_true]
    · unfold aappend
      cases ux with
      | int k => exact absurd rfl (hux k)
      | _ => simp only [hel, hx, hsz, hb, hz, hsrc, if_neg h2, Nat.add_zero, Nat.le_refl, if_true]
  · obtain ⟨v', A', h1, h2, h3, h4, h5⟩ := row_append hel hx hux hsz hb hz hzc hr hlo hsrc (by omega) hlen hcap hnew hnl
    exact ⟨v', A', h1, h2, by omega, h5, fun b hb => .inr (by rw [h4] at hb; cases hb; exact Nat.le_refl _), fun h => absurd h hm⟩
end
end Go.Fw
