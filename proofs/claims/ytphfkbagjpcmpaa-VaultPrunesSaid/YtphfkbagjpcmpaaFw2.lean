import Derived.Test.YtphfkbagjpcmpaaFw1
/-! How an abstract heap stands to a world; what the steps on it keep. -/
namespace Go.Fw
open Go.RowKit

def BlkR (w0 : World) (φ : Nat → Option Loc) (n : Nat) (l : Loc) (w : World) : Blk → Prop
  | .cells cs e m => ∃ C fr, w.heap[l.block]? = some (.cells C e fr) ∧ C.size = l.size ∧ l.base + cs.length ≤ C.size ∧
      (∀ (i : Nat) (v : Value), cs[i]? = some v → ∃ v', C[l.base + i]? = some v' ∧ VR φ n v v') ∧
      (∀ k, m = some k → (w0.heap.size ≤ l.block ∧ (e = btype → l.base = 0)) ∧ ∀ i, l.base + k ≤ i → i < C.size → ¬ (fr.1 ≤ i ∧ i < fr.2))
  | .loop st pe tmps ps asg body => w0.heap.size ≤ l.block ∧ ∃ tmps' fn df, w.heap[l.block]? = some (.loop { state := st, pending := pe, fn, tmps := tmps', params := ps, assign := asg, body, defers := df }) ∧ CR φ n tmps tmps'
  | .dfr taken => w0.heap.size ≤ l.block ∧ w.heap[l.block]? = some (.deferred (if taken then none else some []))
  | .smap L => w0.heap.size ≤ l.block ∧ (∀ p ∈ L, plainV p.2 = true) ∧ ∃ (es : Array MapEntry) (clock : Nat), w.heap[l.block]? = some (.map es clock) ∧ es.toList.map (fun e => (e.key, e.val)) = L.map (fun p => (Value.string p.1, p.2))

def roBlk : Option Blk → Prop
  | some (.cells _ _ none) => True
  | _ => False

theorem heap_alloc_new (w : World) (o : Obj) : (w.alloc o).heap[w.heap.size]? = some o := by
  show (w.heap.push o)[w.heap.size]? = _
  simp

structure Sim (w0 : World) (φ : Nat → Option Loc) (A : St) (w : World) : Prop where
  below : Below w0.heap.size w0 w
  blk : ∀ b B, A.get b = some B → b < A.next ∧ ∃ l, φ b = some l ∧ BlkR w0 φ A.next l w B
  dead : ∀ b, A.get b = none → φ b = none
  inj : ∀ b b' l l', b ≠ b' → φ b = some l → φ b' = some l' → l.block = l'.block → roBlk (A.get b)

theorem BlkR.mono {w0 : World} {φ φ' : Nat → Option Loc} {n n' : Nat} {l : Loc} {w w' : World} {B : Blk} (h : BlkR w0 φ n l w B) (hw : w'.heap[l.block]? = w.heap[l.block]?) (hn : n ≤ n') (he : Ext n φ φ') :
    BlkR w0 φ' n' l w' B := by
  cases B with
  | cells cs e m =>
    obtain ⟨C, fr, h1, h2, h3, h4, h5⟩ := h
    exact ⟨C, fr, hw.trans h1, h2, h3, fun i v e => let ⟨v', a, b⟩ := h4 i v e; ⟨v', a, b.mono hn he⟩, h5⟩
  | loop st pe tmps ps asg body =>
    obtain ⟨h0, tmps', fn, df, h1, h2⟩ := h
    exact ⟨h0, tmps', fn, df, hw.trans h1, h2.mono hn he⟩
  | dfr taken => exact ⟨h.1, hw.trans h.2⟩
  | smap L => obtain ⟨h0, hp, es, c, h1, h2⟩ := h; exact ⟨h0, hp, es, c, hw.trans h1, h2⟩
theorem BlkR.lt {w0 : World} {φ : Nat → Option Loc} {n : Nat} {l : Loc} {w : World} {B : Blk} (h : BlkR w0 φ n l w B) : l.block < w.heap.size := by
  have key : ∀ o, w.heap[l.block]? = some o → l.block < w.heap.size := fun o e => (Array.getElem?_eq_some_iff.1 e).1
  cases B with
  | cells cs e m => obtain ⟨C, fr, h1, _⟩ := h; exact key _ h1
  | loop st pe tmps ps asg body => obtain ⟨_, _, _, _, h1, _⟩ := h; exact key _ h1
  | dfr taken => exact key _ h.2
  | smap L => obtain ⟨_, _, _, _, h1, _⟩ := h; exact key _ h1

section
variable {w0 : World} {φ : Nat → Option Loc} {A : St} {w : World}

theorem Sim.loc (h : Sim w0 φ A w) {b : Nat} {l : Loc} (e : φ b = some l) : ∃ B, A.get b = some B ∧ b < A.next ∧ BlkR w0 φ A.next l w B := by
  cases hB : A.get b with
  | none => rw [h.dead b hB] at e; cases e
  | some B =>
    obtain ⟨h1, l', h2, h3⟩ := h.blk b B hB
    rw [e] at h2; cases h2
    exact ⟨B, rfl, h1, h3⟩
theorem Sim.fresh (h : Sim w0 φ A w) : φ A.next = none := by
  cases hB : A.get A.next with
  | none => exact h.dead _ hB
  | some B => exact absurd (h.blk _ _ hB).1 (by omega)
theorem Sim.get_next (h : Sim w0 φ A w) : A.get A.next = none := by
  cases hB : A.get A.next with
  | none => rfl
  | some B => exact absurd (h.blk _ _ hB).1 (by omega)
theorem Sim.old (h : Sim w0 φ A w) : w0.heap.size ≤ w.heap.size := h.below.size

/-- A new block. -/
theorem Sim.new (h : Sim w0 φ A w) (B : Blk) (o : Obj) (l : Loc) (hl : l.block = w.heap.size)
    (hB : BlkR w0 (fun m => if m = A.next then some l else φ m) (A.next + 1) l (w.alloc o) B) :
    Sim w0 (fun m => if m = A.next then some l else φ m) (A.alloc B) (w.alloc o) ∧ Ext A.next φ (fun m => if m = A.next then some l else φ m) := by
  have he : Ext A.next φ (fun m => if m = A.next then some l else φ m) := fun b hb => .inl (if_neg (by omega))
  refine ⟨⟨h.below.alloc h.old o, fun b B' e => ?_, fun b e => ?_, fun b b' m m' hne e e' hb => ?_⟩, he⟩
  · rw [St.get_alloc] at e
    by_cases hb : b = A.next
    · rw [if_pos hb] at e; cases e
      exact ⟨by simp [hb], l, by simp [hb], hB⟩
    · rw [if_neg hb] at e
      obtain ⟨h1, m, h2, h3⟩ := h.blk b B' e
      refine ⟨by simp; omega, m, by simp [hb, h2], h3.mono ?_ (by simp) he⟩
      exact Below.heap_alloc _ _ _ h3.lt
  · rw [St.get_alloc] at e
    by_cases hb : b = A.next
    · rw [if_pos hb] at e; cases e
    · rw [if_neg hb] at e; simp [hb, h.dead b e]
  · replace e : (if b = A.next then some l else φ b) = some m := e
    replace e' : (if b' = A.next then some l else φ b') = some m' := e'
    rw [St.get_alloc]
    by_cases h1 : b = A.next
    · rw [if_pos h1] at e
      cases e
      rw [if_neg (by omega)] at e'
      obtain ⟨_, _, _, h3⟩ := h.loc e'
      have := h3.lt; omega
    · rw [if_neg h1] at e
      obtain ⟨_, _, _, h3⟩ := h.loc e
      by_cases h2 : b' = A.next
      · rw [if_pos h2] at e'; cases e'; have := h3.lt; omega
      · rw [if_neg h2] at e'; rw [if_neg h1]
        exact h.inj b b' m m' hne e e' hb

theorem Sim.newCells (h : Sim w0 φ A w) (cs C : Array Value) (e : TypeId) (hc : CR φ A.next cs C) :
    ∃ φ', Sim w0 φ' (A.alloc (.cells cs.toList e (some 0))) (w.alloc (.cells C e)) ∧ Ext A.next φ φ' ∧ φ' A.next = some ⟨w.heap.size, 0, C.size⟩ := by
  refine ⟨_, (h.new (.cells cs.toList e (some 0)) (.cells C e) ⟨w.heap.size, 0, C.size⟩ rfl ?_).1, (h.new (.cells cs.toList e (some 0)) (.cells C e) ⟨w.heap.size, 0, C.size⟩ rfl ?_).2, by simp⟩
  all_goals
    refine ⟨C, (0, 0), heap_alloc_new w _, rfl, by simp [hc.1], fun i v e => ?_, fun k hk => ⟨⟨h.old, fun _ => rfl⟩, fun i _ _ hf => by omega⟩⟩
    simp only [Array.getElem?_toList] at e
    obtain ⟨v', a, r⟩ := hc.at i v e
    exact ⟨v', by simpa using a, r.mono (by omega) (fun b hb => .inl (if_neg (by omega)))⟩

/-- A new block that is filled in part by what is told: a slice whose spare room is the machine's own. -/
theorem Sim.newRow (h : Sim w0 φ A w) (cs : List Value) (C : Array Value) (e : TypeId) (fr : Nat × Nat) (hlen : cs.length ≤ C.size)
    (hc : ∀ (i : Nat) (v : Value), cs[i]? = some v → ∃ v', C[i]? = some v' ∧ VR φ A.next v v') (hf : ∀ i, i < C.size → ¬ (fr.1 ≤ i ∧ i < fr.2)) :
    ∃ φ', Sim w0 φ' (A.alloc (.cells cs e (some 0))) (w.alloc (.cells C e fr)) ∧ Ext A.next φ φ' ∧ φ' A.next = some ⟨w.heap.size, 0, C.size⟩ := by
  refine ⟨_, (h.new (.cells cs e (some 0)) (.cells C e fr) ⟨w.heap.size, 0, C.size⟩ rfl ?_).1, (h.new (.cells cs e (some 0)) (.cells C e fr) ⟨w.heap.size, 0, C.size⟩ rfl ?_).2, by simp⟩
  all_goals
    refine ⟨C, fr, heap_alloc_new w _, rfl, by simpa using hlen, fun i v e => ?_, fun k hk => ⟨⟨h.old, fun _ => rfl⟩, fun i _ hi => hf i hi⟩⟩
    obtain ⟨v', a, r⟩ := hc i v e
    exact ⟨v', by simpa using a, r.mono (by omega) (fun b hb => .inl (if_neg (by omega)))⟩

theorem cell?_of {w : World} {b : Nat} {C : Array Value} {e : TypeId} {fr : Nat × Nat} (h : w.heap[b]? = some (.cells C e fr)) (o : Nat) : w.cell? ⟨b, o, none⟩ = C[o]? := by
  simp [World.cell?, h]
theorem frozen?_of {w : World} {b : Nat} {C : Array Value} {e : TypeId} {fr : Nat × Nat} (h : w.heap[b]? = some (.cells C e fr)) (o : Nat) : w.frozen? ⟨b, o, none⟩ = (fr.1 ≤ o && o < fr.2) := by
  simp [World.frozen?, h]
theorem heap_setCell_same {w : World} {b : Nat} {C : Array Value} {e : TypeId} {fr : Nat × Nat} (h : w.heap[b]? = some (.cells C e fr)) (o : Nat) (v : Value) :
    (w.setCell ⟨b, o, none⟩ v).heap[b]? = some (.cells (C.setIfInBounds o v) e fr) := by
  simp [World.setCell, Array.getElem?_modify, h]

theorem Sim.cell (h : Sim w0 φ A w) {b : Nat} {cs : List Value} {e : TypeId} {m : Option Nat} (hb : A.get b = some (.cells cs e m)) {i : Nat} {v : Value} (hi : cs[i]? = some v) :
    ∃ l v', φ b = some l ∧ w.cell? ⟨l.block, l.base + i, none⟩ = some v' ∧ VR φ A.next v v' := by
  obtain ⟨_, l, hl, C, fr, h1, _, _, h4, _⟩ := h.blk b _ hb
  obtain ⟨v', a, r⟩ := h4 i v hi
  exact ⟨l, v', hl, by rw [cell?_of h1]; exact a, r⟩

/-- What is told of a block is turned; so is the machine's. -/
theorem Sim.turn (h : Sim w0 φ A w) {b : Nat} {B B' : Blk} (hb : A.get b = some B) {l : Loc} (hl : φ b = some l) (hnr : ¬ roBlk (some B)) {w' : World} (hbel : Below w0.heap.size w0 w')
    (hoth : ∀ k, k ≠ l.block → k < w.heap.size → w'.heap[k]? = w.heap[k]?) (hB : BlkR w0 φ A.next l w' B') : Sim w0 φ (A.upd b (some B')) w' := by
  have hinj : ∀ b' l', b' ≠ b → φ b' = some l' → l'.block ≠ l.block := fun b' l' hne e he => hnr (hb ▸ h.inj b b' l l' (by omega) hl e he.symm)
  refine ⟨hbel, fun c B2 e => ?_, fun c e => ?_, fun c c' m m' hne e e' hm => ?_⟩
  · rw [St.get_upd] at e
    by_cases hc : c = b
    · rw [if_pos hc] at e; cases e
      subst hc
      exact ⟨(h.blk c B hb).1, l, hl, hB⟩
    · rw [if_neg hc] at e
      obtain ⟨h1, m, h2, h3⟩ := h.blk c B2 e
      exact ⟨h1, m, h2, h3.mono (hoth _ (hinj c m hc h2) h3.lt) (Nat.le_refl _) (Ext.refl _ _)⟩
  · rw [St.get_upd] at e
    by_cases hc : c = b
    · rw [if_pos hc] at e; cases e
    · rw [if_neg hc] at e; exact h.dead c e
  · by_cases h1 : c = b
    · subst h1; rw [hl] at e; cases e; exact absurd hm.symm (hinj c' m' (by omega) e')
    · by_cases h2 : c' = b
      · subst h2; rw [hl] at e'; cases e'; exact absurd hm (hinj c m h1 e)
      · rw [St.get_upd, if_neg h1]; exact h.inj c c' m m' hne e e' hm

theorem Sim.set (h : Sim w0 φ A w) {b : Nat} {cs : List Value} {e : TypeId} {k : Nat} (hb : A.get b = some (.cells cs e (some k))) {i : Nat} (hk : k ≤ i) (hi : i < cs.length) {v v' : Value} (hv : VR φ A.next v v') :
    ∃ l, φ b = some l ∧ (∃ u, w.cell? ⟨l.block, l.base + i, none⟩ = some u) ∧ w.frozen? ⟨l.block, l.base + i, none⟩ = false ∧
      Sim w0 φ (A.upd b (some (.cells (cs.set i v) e (some k)))) (w.setCell ⟨l.block, l.base + i, none⟩ v') := by
  obtain ⟨_, l, hl, C, fr, h1, h2, h3, h4, h5⟩ := h.blk b _ hb
  obtain ⟨h50, h5⟩ := h5 k rfl
  have hlt : l.base + i < C.size := by omega
  refine ⟨l, hl, ⟨C[l.base + i], by rw [cell?_of h1]; exact Array.getElem?_eq_getElem hlt⟩, ?_, ?_⟩
  · rw [frozen?_of h1]; have := h5 (l.base + i) (by omega) hlt; simp; omega
  · refine h.turn hb hl (by simp [roBlk]) (h.below.setCell h50.1 _) (fun j hj _ => Below.heap_setCell _ _ _ _ hj) ?_
    refine ⟨_, fr, heap_setCell_same h1 _ _, by simpa using h2, by simpa using h3, fun j u e => ?_, fun k' e => by cases e; exact ⟨h50, fun i a b => h5 i a (by simpa using b)⟩⟩
    rw [List.getElem?_set] at e
    by_cases hj : i = j
    · subst hj; rw [if_pos rfl, if_pos hi] at e; cases e
      exact ⟨v', by rw [Array.getElem?_setIfInBounds, if_pos rfl, if_pos hlt], hv⟩
    · rw [if_neg hj] at e
      obtain ⟨u', a, r⟩ := h4 j u e
      exact ⟨u', by rw [Array.getElem?_setIfInBounds, if_neg (by omega)]; exact a, r⟩

theorem Sim.drew (h : Sim w0 φ A w) : Sim w0 φ A w.drew := ⟨h.below.drew, h.blk, h.dead, h.inj⟩

/-- A part of the heap, as it was. -/
structure Sub (B A : St) : Prop where
  next : B.next ≤ A.next
  get : ∀ b, b < B.next → A.get b = B.get b
  out : ∀ b, B.next ≤ b → B.get b = none

/-- Names below n alone. -/
def cut (n : Nat) (φ : Nat → Option Loc) : Nat → Option Loc := fun b => if b < n then φ b else none
end

/-- A value whose names are below n. -/
inductive Bnd (n : Nat) : Value → Prop
  | bool (b : Bool) : Bnd n (.bool b)
  | int (k : IntKind) (i : Int) : Bnd n (.int k i)
  | string (s : ByteArray) : Bnd n (.string s)
  | ptr0 : Bnd n (.pointer none)
  | ptr (a : Addr) (h : a.block < n) : Bnd n (.pointer (some a))
  | slice0 (l c : Nat) : Bnd n (.slice none l c)
  | slice (a : Addr) (l c : Nat) (h : a.block < n) : Bnd n (.slice (some a) l c)
  | map0 : Bnd n (.map none)
  | map (b : Nat) (h : b < n) : Bnd n (.map (some b))
  | func (fn : Fn) (f c : Array Value) (hfn : ∀ l, fn = .yield l → l < n) (hf : ∀ (i : Nat) (v : Value), f[i]? = some v → Bnd n v) (hc : ∀ (i : Nat) (v : Value), c[i]? = some v → Bnd n v) : Bnd n (.func fn f c)
  | nilFunc : Bnd n .nilFunc
  | nilIface : Bnd n .nilIface
  | iface (t : TypeId) (v : Value) (h : Bnd n v) : Bnd n (.iface t v)
  | agg (c : Array Value) (hc : ∀ (i : Nat) (v : Value), c[i]? = some v → Bnd n v) : Bnd n (.agg c)
  | tuple (c : Array Value) (hc : ∀ (i : Nat) (v : Value), c[i]? = some v → Bnd n v) : Bnd n (.tuple c)
def BndA (n : Nat) (c : Array Value) : Prop := ∀ (i : Nat) (v : Value), c[i]? = some v → Bnd n v

theorem Bnd.le {n n' : Nat} (hn : n ≤ n') {v : Value} (h : Bnd n v) : Bnd n' v := by
  induction h with
  | bool => exact .bool _
  | int => exact .int _ _
  | string => exact .string _
  | ptr0 => exact .ptr0
  | ptr a h => exact .ptr a (by omega)
  | slice0 => exact .slice0 _ _
  | slice a l c h => exact .slice a l c (by omega)
  | map0 => exact .map0
  | map b h => exact .map b (by omega)
  | func fn f c hfn _ _ hf hc => exact .func fn f c (fun l e => by have := hfn l e; omega) hf hc
  | nilFunc => exact .nilFunc
  | nilIface => exact .nilIface
  | iface t v _ h => exact .iface t v h
  | agg c _ h => exact .agg c h
  | tuple c _ h => exact .tuple c h

theorem VR.bnd {φ : Nat → Option Loc} {n : Nat} {v c : Value} (h : VR φ n v c) : Bnd n v := by
  induction h with
  | bool => exact .bool _
  | int => exact .int _ _
  | string => exact .string _
  | ptr0 => exact .ptr0
  | ptr b off ca hb h => exact .ptr _ hb
  | slice0 => exact .slice0 _ _
  | slice b off sp len cap ca ccap hb hle hcc h => exact .slice _ _ _ hb
  | map0 => exact .map0
  | map b b' hb h => exact .map _ hb
  | func fn f f' c c' hfn hf hc _ _ ihf ihc =>
    refine .func fn f c (fun l e => absurd e (hfn l)) (fun i v e => ?_) (fun i v e => ?_)
    · have hi : i < f'.size := hf ▸ (Array.getElem?_eq_some_iff.1 e).1
      exact ihf i v f'[i] e (Array.getElem?_eq_getElem hi)
    · have hi : i < c'.size := hc ▸ (Array.getElem?_eq_some_iff.1 e).1
      exact ihc i v c'[i] e (Array.getElem?_eq_getElem hi)
  | yield b b' hb h => exact .func _ _ _ (fun l e => by cases e; exact hb) (fun i v e => by simp at e) (fun i v e => by simp at e)
  | nilFunc => exact .nilFunc
  | nilIface => exact .nilIface
  | iface t v v' _ ih => exact .iface t v ih
  | agg c c' hc _ ih =>
    refine .agg c fun i v e => ?_
    have hi : i < c'.size := hc ▸ (Array.getElem?_eq_some_iff.1 e).1
    exact ih i v c'[i] e (Array.getElem?_eq_getElem hi)
  | tuple c c' hc _ ih =>
    refine .tuple c fun i v e => ?_
    have hi : i < c'.size := hc ▸ (Array.getElem?_eq_some_iff.1 e).1
    exact ih i v c'[i] e (Array.getElem?_eq_getElem hi)

theorem VR.cut {φ : Nat → Option Loc} {n n' : Nat} {v c : Value} (h : VR φ n v c) (hb : Bnd n' v) : VR (Fw.cut n' φ) n' v c := by
  have key : ∀ b l, Fw.cut n' φ b = some l → φ b = some l := fun b l e => by unfold Fw.cut at e; split at e; exact e; cases e
  induction h with
  | bool => exact .bool _
  | int => exact .int _ _
  | string => exact .string _
  | ptr0 => exact .ptr0
  | ptr b off ca _ h => cases hb with | ptr _ hb => exact .ptr b off ca hb fun l e => h l (key _ _ e)
  | slice0 => exact .slice0
  | slice b off sp len cap ca ccap _ hle hcc h => cases hb with | slice _ _ _ hb => exact .slice b off sp len cap ca ccap hb hle hcc fun l e => h l (key _ _ e)
  | map0 => exact .map0
  | map b b' _ h => cases hb with | map _ hb => exact .map b b' hb fun l e => h l (key _ _ e)
  | func fn f f' c c' hfn hf hc _ _ ihf ihc =>
    cases hb with
    | func _ _ _ _ h1 h2 => exact .func fn f f' c c' hfn hf hc (fun i v v' a b => ihf i v v' a b (h1 i v a)) (fun i v v' a b => ihc i v v' a b (h2 i v a))
  | yield b b' _ h =>
    cases hb with
    | func _ _ _ h0 _ _ => exact .yield b b' (h0 b rfl) fun l e => h l (key _ _ e)
  | nilFunc => exact .nilFunc
  | nilIface => exact .nilIface
  | iface t v v' _ ih => cases hb with | iface _ _ hb => exact .iface t v v' (ih hb)
  | agg c c' hc _ ih => cases hb with | agg _ h1 => exact .agg c c' hc fun i v v' a b => ih i v v' a b (h1 i v a)
  | tuple c c' hc _ ih => cases hb with | tuple _ h1 => exact .tuple c c' hc fun i v v' a b => ih i v v' a b (h1 i v a)
theorem CR.cut {φ : Nat → Option Loc} {n n' : Nat} {c c' : Array Value} (h : CR φ n c c') (hb : BndA n' c) : CR (Fw.cut n' φ) n' c c' :=
  ⟨h.1, fun i v v' a b => (h.2 i v v' a b).cut (hb i v a)⟩
theorem CR.bnd {φ : Nat → Option Loc} {n : Nat} {c c' : Array Value} (h : CR φ n c c') : BndA n c := fun i v e => let ⟨_, _, r⟩ := h.at i v e; r.bnd

def BndB (n : Nat) : Blk → Prop
  | .cells cs _ _ => ∀ v ∈ cs, Bnd n v
  | .loop _ _ tmps _ _ _ => BndA n tmps
  | .dfr _ => True
  | .smap _ => True
/-- All names of a heap are its own. -/
def WF (A : St) : Prop := ∀ b B, A.get b = some B → b < A.next ∧ BndB A.next B

section
variable {w0 : World} {φ : Nat → Option Loc} {A : St} {w : World}
theorem Sim.wf (h : Sim w0 φ A w) : WF A := fun b B e => by
  obtain ⟨h1, l, h2, h3⟩ := h.blk b B e
  refine ⟨h1, ?_⟩
  cases B with
  | cells cs e m =>
    obtain ⟨C, fr, _, _, _, h4, _⟩ := h3
    intro v hv
    obtain ⟨i, hi⟩ := List.getElem?_of_mem hv
    obtain ⟨_, _, r⟩ := h4 i v hi
    exact r.bnd
  | loop st pe tmps ps asg body => obtain ⟨_, _, _, _, _, h4⟩ := h3; exact h4.bnd
  | dfr t => trivial
  | smap L => trivial

theorem Sub.refl (h : WF A) : Sub A A := ⟨Nat.le_refl _, fun _ _ => rfl, fun b hb => by
  cases e : A.get b with
  | none => rfl
  | some B => have := (h b B e).1; omega⟩

/-- What nobody speaks of is let go. -/
theorem Sim.gc (h : Sim w0 φ A w) {B : St} (hs : Sub B A) (hw : WF B) : Sim w0 (cut B.next φ) B w := by
  have hc : ∀ b l, cut B.next φ b = some l → b < B.next ∧ φ b = some l := fun b l e => by unfold cut at e; split at e; exact ⟨‹_›, e⟩; cases e
  have hc' : ∀ b, b < B.next → cut B.next φ b = φ b := fun b hb => if_pos hb
  refine ⟨h.below, fun b X e => ?_, fun b e => ?_, fun b b' l l' hne e e' hb => ?_⟩
  · obtain ⟨h1, h2⟩ := hw b X e
    obtain ⟨_, l, h3, h4⟩ := h.blk b X ((hs.get b h1).trans e)
    refine ⟨h1, l, (hc' b h1).trans h3, ?_⟩
    cases X with
    | cells cs e m =>
      obtain ⟨C, fr, a1, a2, a3, a4, a5⟩ := h4
      exact ⟨C, fr, a1, a2, a3, fun i v e => let ⟨v', q, r⟩ := a4 i v e; ⟨v', q, r.cut (h2 v (List.mem_of_getElem? e))⟩, a5⟩
    | loop st pe tmps ps asg body => obtain ⟨a0, t', fn, df, a1, a2⟩ := h4; exact ⟨a0, t', fn, df, a1, a2.cut h2⟩
    | dfr t => exact h4
    | smap L => exact h4
  · by_cases hb : b < B.next
    · rw [hc' b hb]; exact h.dead b ((hs.get b hb).trans e)
    · exact if_neg hb
  · obtain ⟨h1, h2⟩ := hc b l e
    obtain ⟨h3, h4⟩ := hc b' l' e'
    rw [← hs.get b h1]
    exact h.inj b b' l l' hne h2 h4 hb
theorem Ext.cut {n m : Nat} {φ φ' : Nat → Option Loc} (h : Ext n φ φ') (hn : n ≤ m) : Ext n φ (Fw.cut m φ') := fun b hb => by
  have : Fw.cut m φ' b = φ' b := if_pos (by omega)
  rw [this]; exact h b hb
end
end Go.Fw
