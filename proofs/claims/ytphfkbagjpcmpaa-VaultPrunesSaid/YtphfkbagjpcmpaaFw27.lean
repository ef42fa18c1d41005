import Derived.Test.YtphfkbagjpcmpaaFw26
import Derived.Deep.Slices
import Derived.Carry
/-! Where a law's arguments are slices: the first abstract heap, windows upon the machine's blocks that are only read. -/
set_option linter.unusedSimpArgs false
set_option linter.unusedVariables false
namespace Go.Fw
open Go.RowKit
section
/-- A heap at the beginning: what is in it is only read. -/
structure Start (w : World) (φ : Nat → Option Loc) (A : St) : Prop where
  sim : Sim w φ A w
  ro : ∀ b B, A.get b = some B → roBlk (some B)
theorem start_empty (w : World) : Start w (fun _ => none) St.empty := ⟨sim_empty w, fun b B e => by cases e⟩
variable {w : World} {φ : Nat → Option Loc} {A : St}
theorem Start.window (h : Start w φ A) {bl base : Nat} {C : Array Value} {e : TypeId} {fr : Nat × Nat} (hb : w.heap[bl]? = some (.cells C e fr)) {cs : List Value} (hl : base + cs.length ≤ C.size)
    (hcs : ∀ (i : Nat) (v : Value), cs[i]? = some v → ∃ v', C[base + i]? = some v' ∧ VR φ A.next v v') :
    ∃ φ', Start w φ' (A.alloc (.cells cs e none)) ∧ Ext A.next φ φ' ∧ φ' A.next = some ⟨bl, base, C.size⟩ := by
  have hx : Ext A.next φ (fun b => if b = A.next then some ⟨bl, base, C.size⟩ else φ b) := fun b hb => .inl (by simp [show b ≠ A.next by omega])
  refine ⟨fun b => if b = A.next then some ⟨bl, base, C.size⟩ else φ b, ⟨⟨h.sim.below, ?_, ?_, ?_⟩, ?_⟩, hx, by simp⟩
  · intro b B hB
    rw [St.get_alloc] at hB
    by_cases hbn : b = A.next
    · subst hbn
      rw [if_pos rfl] at hB
      cases hB
      refine ⟨by simp, _, if_pos rfl, C, fr, hb, rfl, hl, fun i v hv => ?_, fun k hk => by cases hk⟩
      obtain ⟨v', h1, h2⟩ := hcs i v hv
      exact ⟨v', h1, h2.mono (by simp) hx⟩
    · rw [if_neg hbn] at hB
      obtain ⟨h1, l, h2, h3⟩ := h.sim.blk b B hB
      exact ⟨by simp; omega, l, by simp [hbn, h2], h3.mono rfl (by simp) hx⟩
  · intro b hB
    rw [St.get_alloc] at hB
    by_cases hbn : b = A.next
    · subst hbn; rw [if_pos rfl] at hB; cases hB
    · rw [if_neg hbn] at hB
      simp [hbn, h.sim.dead b hB]
  · intro b b' l l' hne hl1 hl2 heq
    rw [St.get_alloc]
    by_cases hbn : b = A.next
    · rw [if_pos hbn]; trivial
    · rw [if_neg hbn]
      simp only [if_neg hbn] at hl1
      obtain ⟨B, hB, _⟩ := h.sim.loc hl1
      rw [hB]; exact h.ro b B hB
  · intro b B hB
    rw [St.get_alloc] at hB
    by_cases hbn : b = A.next
    · rw [if_pos hbn] at hB; cases hB; trivial
    · rw [if_neg hbn] at hB; exact h.ro b B hB
/-- A name for nothing. -/
theorem Start.dead (h : Start w φ A) (B : Blk) : Start w φ ((A.alloc B).upd A.next none) := by
  have hg : ∀ b, ((A.alloc B).upd A.next none).get b = A.get b := fun b => by
    rw [St.get_upd]
    by_cases hb : b = A.next
    · rw [if_pos hb, hb, h.sim.get_next]
    · rw [if_neg hb, St.get_alloc, if_neg hb]
  refine ⟨⟨h.sim.below, fun b B hB => ?_, fun b hB => h.sim.dead b (by rw [← hg]; exact hB), fun b b' l l' hne h1 h2 h3 => by rw [hg]; exact h.sim.inj b b' l l' hne h1 h2 h3⟩, fun b B hB => h.ro b B (by rw [← hg]; exact hB)⟩
  rw [hg] at hB
  obtain ⟨h1, l, h2, h3⟩ := h.sim.blk b B hB
  exact ⟨by simp; omega, l, h2, h3.mono rfl (by simp) (Ext.refl _ _)⟩
/-- A slice's cells are there, by index. -/
theorem Start.slice (h : Start w φ A) {a : Addr} {len cap sz : Nat} {cs : List Value} (hsz : 0 < sz) (hlen : cs.length = cap * sz) (hle : len ≤ cap) (hcells : ∀ (i : Nat) (v : Value), cs[i]? = some v → w.cell? (a.add i) = some v) (hpl : cs.all plainV = true) :
    ∃ φ' A' v', Start w φ' A' ∧ Ext A.next φ φ' ∧ Over A A' ∧ VR φ' A'.next v' (.slice (some a) len cap) ∧ View A' sz (cs.take (len * sz)) len v' ∧ plainV v' = plainV v' := by
  have hcl : (cs.take (len * sz)).length = len * sz := by rw [List.length_take, hlen, Nat.min_eq_left (Nat.mul_le_mul_right _ hle)]
  by_cases hc : cap = 0
  · have hl0 : len = 0 := by omega
    subst hc; subst hl0
    refine ⟨φ, (A.alloc (.dfr false)).upd A.next none, .slice (some ⟨A.next, 0, none⟩) 0 0, h.dead _, Ext.refl _ _, ((Over.refl A).alloc _).upd (Nat.le_refl _) _, ?_, ⟨hcl, .inl ⟨rfl, _, _, rfl⟩⟩, rfl⟩
    exact .slice A.next 0 none 0 0 a 0 (by simp) (Nat.le_refl _) (Nat.le_refl _) fun l _ => .inr ⟨rfl, rfl⟩
  · have hpos : 0 < cap * sz := Nat.mul_pos (by omega) hsz
    have h0 := hcells 0 cs[0] (List.getElem?_eq_getElem (by omega))
    have hspot : a.spot = none := by
      unfold World.cell? at h0
      split at h0
      · split at h0
        · cases h0
        · rename_i hs
          cases hs' : a.spot with
          | none => rfl
          | some x =>
            exfalso
            simp [Addr.add, hs'] at hs
      · cases h0
    obtain ⟨bl, off, spt⟩ := a
    simp only at hspot
    subst hspot
    have hadd : ∀ i, (Addr.add ⟨bl, off, none⟩ i) = ⟨bl, off + i, none⟩ := fun i => by simp [Addr.add]
    have hob : ∃ C e fr, w.heap[bl]? = some (.cells C e fr) := by
      rw [hadd] at h0
      unfold World.cell? at h0
      split at h0
      · rename_i C e fr hC; exact ⟨C, e, fr, hC⟩
      · cases h0
    obtain ⟨C, e, fr, hC⟩ := hob
    have hcell : ∀ (i : Nat) (v : Value), cs[i]? = some v → C[off + i]? = some v := fun i v hv => by
      have := hcells i v hv
      rw [hadd] at this
      unfold World.cell? at this
      rw [hC] at this
      simpa using this
    have hbd : off + cs.length ≤ C.size := by
      have hl : cs.length - 1 < cs.length := by omega
      have := hcell (cs.length - 1) _ (List.getElem?_eq_getElem hl)
      have := (Array.getElem?_eq_some_iff.1 this).1
      omega
    obtain ⟨φ', hs, hx, hn⟩ := h.window hC hbd (fun i v hv => ⟨v, hcell i v hv, VR.plain (List.all_eq_true.1 hpl v (List.mem_of_getElem? hv))⟩)
    refine ⟨φ', _, .slice (some ⟨A.next, 0, none⟩) len cap, hs, hx, (Over.refl A).alloc _, ?_, ⟨hcl, .inr ⟨A.next, 0, none, cap, cs, e, none, rfl, by simp, get_alloc_same .., by rw [hlen, Nat.zero_add]; exact Nat.mul_le_mul_right _ hle, by rw [List.drop_zero]⟩⟩, rfl⟩
    refine .slice A.next 0 none len cap _ cap (by simp) hle (Nat.le_refl _) fun l hl => .inl ?_
    rw [hn] at hl; cases hl
    exact ⟨rfl, rfl⟩
/-- A law whose arguments have been read. -/
theorem calls_start {P : Program} {f : Nat} {args args' : Array Value} (hs : Start w φ A) (ha : CR φ A.next args' args) (h : ACalls P w f args' A fun e _ => e = .returned (.bool true)) : Calls P f args w fun e w' => e = .returned (.bool true) ∧ Below w.heap.size w w' := by
  refine (callsIn_wide.1 (h.2 _ w args hs.sim ha)).mono ?_
  rintro ce w' ⟨e, φ', A', rfl, h2, h3, _⟩
  cases h2 with
  | returned hv => exact ⟨by rw [hv.bool_inv], h3.below⟩
/-- A slice that is read, element by element, by what each element's cells are. -/
theorem read_slice {H : Type} {enc : TypeId × Value → H} {P : Program} {held : Bool} {α : Type} {t e : TypeId} {fuel sz : Nat} {v : Value} {x : DataW H × List MemPlace} (encE : α → List Value) (ok : α → Prop) (hsz : P.cellsOf e = sz) (ht : P.underlying t = some (.slice e))
    (hdec : ∀ n cs y, DataW.trod enc P w 0 (fun _ => true) held n e cs = some y → ∃ a, cs = encE a ∧ ok a) (h : DataW.trod enc P w 0 (fun _ => true) held fuel t [v] = some x) :
    (v = .slice none 0 0) ∨ ∃ (a : Addr) (len cap : Nat) (l : List α), v = .slice (some a) len cap ∧ len ≤ cap ∧ cap ≤ maxLen ∧ l.length = cap ∧ (∀ y ∈ l, ok y) ∧ ∀ (i : Nat) (y : α), l[i]? = some y → w.cells? 0 (a.add (i * sz)) sz = some (encE y) := by
  rcases Go.Deep.open_slice ht h with ⟨h0, _⟩ | ⟨a, len, cap, m, n, D, Pl, hv, hb, hl, hm, hmm, rfl, hx⟩
  · cases h0; exact .inl rfl
  · cases hv
    right
    simp only [if_true] at hmm
    subst hmm
    have : ∀ k, k ≤ m → ∃ l : List α, l.length = k ∧ (∀ y ∈ l, ok y) ∧ ∀ (i : Nat) (y : α), l[i]? = some y → w.cells? 0 (a.add (i * sz)) sz = some (encE y) := by
      intro k
      induction k with
      | zero => exact fun _ => ⟨[], rfl, (fun y hy => by cases hy), (fun i y hy => by simp at hy)⟩
      | succ k ih =>
        intro hk
        obtain ⟨l, h1, h2, h3⟩ := ih (by omega)
        obtain ⟨cs', h4, h5⟩ := hx k (by omega)
        obtain ⟨y, rfl, hy⟩ := hdec _ _ _ h5
        refine ⟨l ++ [y], by simp [h1], fun z hz => ?_, fun i z hz => ?_⟩
        · rcases List.mem_append.1 hz with hz | hz
          · exact h2 z hz
          · rw [List.mem_singleton.1 hz]; exact hy
        · by_cases hi : i < l.length
          · rw [List.getElem?_append_left hi] at hz
            exact h3 i z hz
          · rw [List.getElem?_append_right (by omega)] at hz
            have hik : i = l.length := by
              have := (List.getElem?_eq_some_iff.1 hz).1
              simp at this; omega
            subst hik
            simp at hz
            subst hz
            rw [h1, ← hsz]; exact h4
    obtain ⟨l, h1, h2, h3⟩ := this m (Nat.le_refl _)
    exact ⟨a, len, m, l, rfl, hl, hm, h1, h2, h3⟩
theorem flatMap_at {α : Type} {encE : α → List Value} {sz : Nat} : ∀ (l : List α), (∀ y ∈ l, (encE y).length = sz) → ∀ (i j : Nat), j < sz → (l.flatMap encE)[i * sz + j]? = (l[i]?).bind fun y => (encE y)[j]?
  | [], _, i, j, _ => by simp
  | y :: l, h, 0, j, hj => by
    rw [List.flatMap_cons, Nat.zero_mul, Nat.zero_add, List.getElem?_append_left (by rw [h y (List.mem_cons_self ..)]; exact hj)]; rfl
  | y :: l, h, i + 1, j, hj => by
    have hy := h y (List.mem_cons_self ..)
    rw [List.flatMap_cons, List.getElem?_append_right (by rw [hy, Nat.add_mul]; omega), hy, show (i + 1) * sz + j - sz = i * sz + j by rw [Nat.add_mul]; omega, flatMap_at l (fun z hz => h z (List.mem_cons_of_mem _ hz)) i j hj]; rfl
theorem flatMap_len {α : Type} {encE : α → List Value} {sz : Nat} : ∀ (l : List α), (∀ y, (encE y).length = sz) → (l.flatMap encE).length = l.length * sz
  | [], _ => by simp
  | y :: l, h => by rw [List.flatMap_cons, List.length_append, h, flatMap_len l h, List.length_cons, Nat.add_mul]; omega
/-- A slice of plain elements, as an argument. -/
theorem Start.arg (h : Start w φ A) {H : Type} {enc : TypeId × Value → H} {P : Program} {held : Bool} {α : Type} {t e : TypeId} {fuel sz : Nat} {v : Value} {x : DataW H × List MemPlace} (encE : α → List Value) (ok : α → Prop) (hsz : P.cellsOf e = sz) (hsz0 : 0 < sz) (ht : P.underlying t = some (.slice e))
    (hlen : ∀ y, (encE y).length = sz) (hpl : ∀ y, (encE y).all plainV = true)
    (hdec : ∀ n cs y, DataW.trod enc P w 0 (fun _ => true) held n e cs = some y → ∃ a, cs = encE a ∧ ok a) (ht' : DataW.trod enc P w 0 (fun _ => true) held fuel t [v] = some x) :
    ∃ (φ' : Nat → Option Loc) (A' : St) (v' : Value) (l : List α), Start w φ' A' ∧ Ext A.next φ φ' ∧ Over A A' ∧ VR φ' A'.next v' v ∧ View A' sz (l.flatMap encE) l.length v' ∧ (∀ y ∈ l, ok y) ∧ l.length ≤ maxLen := by
  rcases read_slice encE ok hsz ht hdec ht' with rfl | ⟨a, len, cap, l, rfl, hle, hm, hl, hok, hc⟩
  · exact ⟨φ, A, .slice none 0 0, [], h, Ext.refl _ _, Over.refl _, .slice0, ⟨by simp, .inl ⟨rfl, _, _, rfl⟩⟩, (fun y hy => by cases hy), by simp⟩
  · obtain ⟨φ', A', v', h1, h2, h3, h4, h5, _⟩ := h.slice (a := a) (len := len) (cap := cap) (sz := sz) (cs := l.flatMap encE) hsz0 (by rw [flatMap_len l hlen, hl]) hle (fun i v hv => by
        have hi : i < cap * sz := by have := (List.getElem?_eq_some_iff.1 hv).1; rwa [flatMap_len l hlen, hl] at this
        have hj : i % sz < sz := Nat.mod_lt _ hsz0
        have e1 : i = i / sz * sz + i % sz := (Nat.div_add_mod' i sz).symm
        rw [e1, flatMap_at l (fun y _ => hlen y) _ _ hj] at hv
        obtain ⟨y, hy, hv⟩ := Option.bind_eq_some_iff.1 hv
        have := (World.cells?_some (hc _ y hy)).2.2 (i % sz) hj
        rw [hv, Go.Deep.add_add, ← e1] at this
        exact this) (by rw [List.all_eq_true]; intro z hz; obtain ⟨y, _, hy⟩ := List.mem_flatMap.1 hz; exact List.all_eq_true.1 (hpl y) z hy)
    have htk : (l.flatMap encE).take (len * sz) = (l.take len).flatMap encE := by
      conv => lhs; rw [← List.take_append_drop len l, List.flatMap_append]
      have : ((l.take len).flatMap encE).length = len * sz := by rw [flatMap_len _ hlen, List.length_take, hl, Nat.min_eq_left hle]
      rw [List.take_append, this, Nat.sub_self, List.take_zero, List.append_nil, List.take_of_length_le (by omega)]
    have hll : (l.take len).length = len := by rw [List.length_take, hl, Nat.min_eq_left hle]
    refine ⟨φ', A', v', l.take len, h1, h2, h3, h4, ?_, fun y hy => hok y (List.mem_of_mem_take hy), by omega⟩
    rw [hll, ← htk]; exact h5
theorem Start.cr_nil (h : Start w φ A) : CR φ A.next #[] #[] := ⟨rfl, fun i v v' h => by simp at h⟩
/-- A struct that is read: its fields. -/
theorem read_struct {H : Type} {enc : TypeId × Value → H} {P : Program} {held : Bool} {t : TypeId} {fs : Array Field} {fuel : Nat} {cs : List Value} {y : DataW H × List MemPlace} {sp : Nat → Bool} (ht : P.underlying t = some (.struct fs)) (h : DataW.trod enc P w 0 sp held fuel t cs = some y) :
    cs.length = P.cellsOf t ∧ ∃ n, ∀ (i : Nat) (f : Field), fs[i]? = some f → ∃ z, DataW.trod enc P w 0 sp held n f.type ((cs.drop f.offset).take (P.cellsOf f.type)) = some z := by
  obtain ⟨xs, m, _, _, hl, hx, hf⟩ := DataW.trod_struct ht h
  refine ⟨hl, m, fun i f hi => ?_⟩
  rw [hf i f hi]
  have : i < xs.length := by rw [hx]; exact (Array.getElem?_eq_some_iff.1 hi).1
  exact ⟨_, List.getElem?_eq_getElem this⟩
/-- Arguments, one by one. -/
inductive CRL (φ : Nat → Option Loc) (n : Nat) : List Value → List Value → Prop
  | nil : CRL φ n [] []
  | cons {v v' : Value} {l l' : List Value} (h : VR φ n v v') (t : CRL φ n l l') : CRL φ n (v :: l) (v' :: l')
theorem CRL.at {φ : Nat → Option Loc} {n : Nat} {l l' : List Value} (h : CRL φ n l l') : l.length = l'.length ∧ ∀ (i : Nat) (v v' : Value), l[i]? = some v → l'[i]? = some v' → VR φ n v v' := by
  induction h with
  | nil => exact ⟨rfl, fun i v v' h => by simp at h⟩
  | cons h t ih =>
    refine ⟨by simp [ih.1], fun i v v' h1 h2 => ?_⟩
    cases i with
    | zero => simp at h1 h2; subst h1; subst h2; exact h
    | succ i => exact ih.2 i v v' (by simpa using h1) (by simpa using h2)
theorem CRL.cr {φ : Nat → Option Loc} {n : Nat} {l l' : List Value} (h : CRL φ n l l') : CR φ n l.toArray l'.toArray := ⟨by simpa using h.at.1, fun i v v' h1 h2 => h.at.2 i v v' (by simpa using h1) (by simpa using h2)⟩
end
end Go.Fw
