import Derived.Test.YtphfkbagjpcmpaaFw29
/-! Slices that may be sliced again; texts as elements. -/
set_option linter.unusedSimpArgs false
set_option linter.unusedVariables false
namespace Go.Fw
open Go.RowKit
section
variable {w : World} {φ : Nat → Option Loc} {A : St}
/-- What a slice must be to be sliced again. -/
def SlOk (sz : Nat) (v : Value) : Prop := ∃ ad n c, v = .slice ad n c ∧ n ≤ c ∧ (ad = none ∨ ∃ b off sp, ad = some ⟨b, off, sp⟩ ∧ (sp = none ∨ sp = some 0 ∨ sp = some sz))
/-- A slice's cells are there, by index. -/
theorem Start.slice2 (h : Start w φ A) {a : Addr} {len cap sz : Nat} {cs : List Value} (hsz : 0 < sz) (hlen : cs.length = cap * sz) (hle : len ≤ cap) (hcells : ∀ (i : Nat) (v : Value), cs[i]? = some v → w.cell? (a.add i) = some v) (hpl : cs.all plainV = true) :
    ∃ φ' A' v', Start w φ' A' ∧ Ext A.next φ φ' ∧ Over A A' ∧ VR φ' A'.next v' (.slice (some a) len cap) ∧ View A' sz (cs.take (len * sz)) len v' ∧ SlOk sz v' := by
  have hcl : (cs.take (len * sz)).length = len * sz := by rw [List.length_take, hlen, Nat.min_eq_left (Nat.mul_le_mul_right _ hle)]
  by_cases hc : cap = 0
  · have hl0 : len = 0 := by omega
    subst hc; subst hl0
    refine ⟨φ, (A.alloc (.dfr false)).upd A.next none, .slice (some ⟨A.next, 0, none⟩) 0 0, h.dead _, Ext.refl _ _, ((Over.refl A).alloc _).upd (Nat.le_refl _) _, ?_, ⟨hcl, .inl ⟨rfl, _, _, rfl⟩⟩, ⟨_, _, _, rfl, Nat.le_refl _, .inr ⟨_, _, _, rfl, .inl rfl⟩⟩⟩
    exact .slice A.next 0 none 0 0 a 0 (by simp) (Nat.le_refl _) (Nat.le_refl _) fun l _ => .inr ⟨rfl, rfl⟩
  · have hpos : 0 < cap * sz := Nat.mul_pos (by omega) hsz
    have h0 := hcells 0 cs[0] (List.getElem?_eq_getElem (by omega))
    have hspot : a.spot = none := by
      unfold World.cell? at h0
      split at h0
      · split at h0
        · cases h0
        · rename_i hs
          cases hs' : a.spot with
          | none => rfl
          | some x =>
            exfalso
            simp [Addr.add, hs'] at hs
      · cases h0
    obtain ⟨bl, off, spt⟩ := a
    simp only at hspot
    subst hspot
    have hadd : ∀ i, (Addr.add ⟨bl, off, none⟩ i) = ⟨bl, off + i, none⟩ := fun i => by simp [Addr.add]
    have hob : ∃ C e fr, w.heap[bl]? = some (.cells C e fr) := by
      rw [hadd] at h0
      unfold World.cell? at h0
      split at h0
      · rename_i C e fr hC; exact ⟨C, e, fr, hC⟩
      · cases h0
    obtain ⟨C, e, fr, hC⟩ := hob
    have hcell : ∀ (i : Nat) (v : Value), cs[i]? = some v → C[off + i]? = some v := fun i v hv => by
      have := hcells i v hv
      rw [hadd] at this
      unfold World.cell? at this
      rw [hC] at this
      simpa using this
    have hbd : off + cs.length ≤ C.size := by
      have hl : cs.length - 1 < cs.length := by omega
      have := hcell (cs.length - 1) _ (List.getElem?_eq_getElem hl)
      have := (Array.getElem?_eq_some_iff.1 this).1
      omega
    obtain ⟨φ', hs, hx, hn⟩ := h.window hC hbd (fun i v hv => ⟨v, hcell i v hv, VR.plain (List.all_eq_true.1 hpl v (List.mem_of_getElem? hv))⟩)
    refine ⟨φ', _, .slice (some ⟨A.next, 0, none⟩) len cap, hs, hx, (Over.refl A).alloc _, ?_, ⟨hcl, .inr ⟨A.next, 0, none, cap, cs, e, none, rfl, by simp, get_alloc_same .., by rw [hlen, Nat.zero_add]; exact Nat.mul_le_mul_right _ hle, by rw [List.drop_zero]⟩⟩, ⟨_, _, _, rfl, hle, .inr ⟨_, _, _, rfl, .inl rfl⟩⟩⟩
    refine .slice A.next 0 none len cap _ cap (by simp) hle (Nat.le_refl _) fun l hl => .inl ?_
    rw [hn] at hl; cases hl
    exact ⟨rfl, rfl⟩
/-- A slice of plain elements, as an argument. -/
theorem Start.arg2 (h : Start w φ A) {H : Type} {enc : TypeId × Value → H} {P : Program} {held : Bool} {α : Type} {t e : TypeId} {fuel sz : Nat} {v : Value} {x : DataW H × List MemPlace} (encE : α → List Value) (ok : α → Prop) (hsz : P.cellsOf e = sz) (hsz0 : 0 < sz) (ht : P.underlying t = some (.slice e))
    (hlen : ∀ y, (encE y).length = sz) (hpl : ∀ y, (encE y).all plainV = true)
    (hdec : ∀ n cs y, DataW.trod enc P w 0 (fun _ => true) held n e cs = some y → ∃ a, cs = encE a ∧ ok a) (ht' : DataW.trod enc P w 0 (fun _ => true) held fuel t [v] = some x) :
    ∃ (φ' : Nat → Option Loc) (A' : St) (v' : Value) (l : List α), Start w φ' A' ∧ Ext A.next φ φ' ∧ Over A A' ∧ VR φ' A'.next v' v ∧ View A' sz (l.flatMap encE) l.length v' ∧ (∀ y ∈ l, ok y) ∧ l.length ≤ maxLen ∧ SlOk sz v' := by
  rcases read_slice encE ok hsz ht hdec ht' with rfl | ⟨a, len, cap, l, rfl, hle, hm, hl, hok, hc⟩
  · exact ⟨φ, A, .slice none 0 0, [], h, Ext.refl _ _, Over.refl _, .slice0, ⟨by simp, .inl ⟨rfl, _, _, rfl⟩⟩, (fun y hy => by cases hy), by simp, ⟨_, _, _, rfl, Nat.le_refl _, .inl rfl⟩⟩
  · obtain ⟨φ', A', v', h1, h2, h3, h4, h5, h6⟩ := h.slice2 (a := a) (len := len) (cap := cap) (sz := sz) (cs := l.flatMap encE) hsz0 (by rw [flatMap_len l hlen, hl]) hle (fun i v hv => by
        have hi : i < cap * sz := by have := (List.getElem?_eq_some_iff.1 hv).1; rwa [flatMap_len l hlen, hl] at this
        have hj : i % sz < sz := Nat.mod_lt _ hsz0
        have e1 : i = i / sz * sz + i % sz := (Nat.div_add_mod' i sz).symm
        rw [e1, flatMap_at l (fun y _ => hlen y) _ _ hj] at hv
        obtain ⟨y, hy, hv⟩ := Option.bind_eq_some_iff.1 hv
        have := (World.cells?_some (hc _ y hy)).2.2 (i % sz) hj
        rw [hv, Go.Deep.add_add, ← e1] at this
        exact this) (by rw [List.all_eq_true]; intro z hz; obtain ⟨y, _, hy⟩ := List.mem_flatMap.1 hz; exact List.all_eq_true.1 (hpl y) z hy)
    have htk : (l.flatMap encE).take (len * sz) = (l.take len).flatMap encE := by
      conv => lhs; rw [← List.take_append_drop len l, List.flatMap_append]
      have : ((l.take len).flatMap encE).length = len * sz := by rw [flatMap_len _ hlen, List.length_take, hl, Nat.min_eq_left hle]
      rw [List.take_append, this, Nat.sub_self, List.take_zero, List.append_nil, List.take_of_length_le (by omega)]
    have hll : (l.take len).length = len := by rw [List.length_take, hl, Nat.min_eq_left hle]
    refine ⟨φ', A', v', l.take len, h1, h2, h3, h4, ?_, fun y hy => hok y (List.mem_of_mem_take hy), by omega, h6⟩
    rw [hll, ← htk]; exact h5
/-- The first so many elements. -/
theorem View.pre {P : Program} {sz len k e : Nat} {ik : IntKind} {cs : List Value} {v : Value} (h : View A sz cs len v) (hs : SlOk sz v) (hsz : tsz P e = some sz) (h0 : 0 < sz) (hk : k ≤ len) : ∃ v', sliceU (some (.slice e)) (tsz P) v none (some (.int ik (k : Int))) none = some v' ∧ View A sz (cs.take (k * sz)) k v' ∧ SlOk sz v' ∧ (rowB v' = none ∨ rowB v' = rowB v) := by
  obtain ⟨ad, n, c, rfl, hnc, had⟩ := hs
  have hn : n = len := by
    rcases h.2 with ⟨rfl, _, _, hv⟩ | ⟨b, off, sp, c', cells, e', m, hv, _⟩
    · cases hv; rfl
    · cases hv; rfl
  subst hn
  have hb : abounds n c none (some (.int ik (k : Int))) none = some (0, k, c) := by
    have : (k : Int) ≤ c := by omega
    simp [abounds, abound1, this, show k ≤ c by omega]
  have hcl : (cs.take (k * sz)).length = k * sz := by rw [List.length_take, h.1, Nat.min_eq_left (Nat.mul_le_mul_right _ hk)]
  have hle : k * sz ≤ n * sz := Nat.mul_le_mul_right _ hk
  rcases had with rfl | ⟨b, off, sp, rfl, hsp⟩
  · refine ⟨.slice none k c, ?_, ⟨hcl, ?_⟩, ⟨_, _, _, rfl, by omega, .inl rfl⟩, .inl rfl⟩
    · rw [sliceU_slice, hsz]
      rw [Option.bind_some, sliceL_eq, hb]; rfl
    · rcases h.2 with ⟨hl, _⟩ | ⟨_, _, _, _, _, _, _, hv, _⟩
      · exact .inl ⟨by omega, _, _, by rw [show k = 0 by omega]⟩
      · cases hv
  · refine ⟨.slice (some ⟨b, off, sp⟩) k c, ?_, ⟨hcl, ?_⟩, ⟨_, _, _, rfl, by omega, .inr ⟨_, _, _, rfl, hsp⟩⟩, .inr rfl⟩
    · rw [sliceU_slice, hsz]
      rw [Option.bind_some, sliceL_eq, hb]
      rcases hsp with rfl | rfl | rfl
      · rw [boundsL_exact]; simp
      · rw [show (none : Option Value).isSome = false from rfl, boundsL_least]; simp
      · obtain ⟨j, rfl⟩ : ∃ j, sz = j + 1 := ⟨sz - 1, by omega⟩
        rw [show (none : Option Value).isSome = false from rfl, boundsL_ownN]; simp
    · rcases h.2 with ⟨hl, _⟩ | ⟨b', off', sp', c', cells, e', m, hv, h1, h2, h3, h4⟩
      · exact .inl ⟨by omega, _, _, by rw [show k = 0 by omega]⟩
      · cases hv
        refine .inr ⟨b, off, sp, c, cells, e', m, rfl, h1, h2, by omega, ?_⟩
        rw [← h4, List.take_take, Nat.min_eq_left hle]
theorem Row.sl {e sz lo len : Nat} {cs : List Value} {v : Value} (h : Row A e sz lo cs len v) : SlOk sz v := by
  rcases h.2 with ⟨rfl, rfl⟩ | ⟨b, sp, rfl, hsp, _⟩
  · exact ⟨_, _, _, rfl, Nat.le_refl _, .inl rfl⟩
  · refine ⟨_, _, _, rfl, Nat.le_refl _, .inr ⟨_, _, _, rfl, ?_⟩⟩
    rcases hsp with h | h
    · exact .inl h
    · exact .inr (.inr h)
/-- Texts as an argument's elements. -/
def strE (s : ByteArray) : List Value := [.string s]
theorem strE_len (s : ByteArray) : (strE s).length = 1 := rfl
theorem strE_pl (s : ByteArray) : (strE s).all plainV = true := rfl
def strOk (s : ByteArray) : Prop := s.size ≤ 9223372036854775807
theorem str_dec {H : Type} {enc : TypeId × Value → H} {P : Program} {held : Bool} {e : TypeId} (hu : P.underlying e = some .string) (n : Nat) (cs : List Value) (y : DataW H × List MemPlace) (h : DataW.trod enc P w 0 (fun _ => true) held n e cs = some y) : ∃ a, cs = strE a ∧ strOk a := by
  obtain ⟨s, hs, _, h1⟩ := DataW.trod_string hu h
  refine ⟨s, hs, ?_⟩
  unfold strOk
  have : maxLen = 9223372036854775807 := by decide +kernel
  omega
theorem strE_at (l : List ByteArray) (i : Nat) (x : ByteArray) (h : l[i]? = some x) : (l.flatMap strE)[i]? = some (.string x) := by
  have := flatMap_at (encE := strE) (sz := 1) l (fun y _ => rfl) i 0 (by decide)
  rw [Nat.mul_one, Nat.add_zero, h] at this
  exact this
end
end Go.Fw
