import Derived.RangeFuncLeaves
import Derived.RecoverIn
import Derived.Below
import Derived.Laws.AppendOwn
import Derived.Laws.Cells
import Derived.Laws.World
import Derived.KernelRfl
import Derived.Laws.Entries
import Derived.Laws.StructEq
import Derived.Laws.Small
import Derived.Laws.Pointers
import Derived.Laws.Cover3
import Derived.Laws.BytesArg
/-! An abstract heap for the walks of this claim: blocks by name, values as the model's own, and how they stand to the machine's world. -/
namespace Go.Fw
open Go.RowKit

/-- Where an abstract block lies: the machine's block, the first cell, how many cells that block has. -/
structure Loc where
  block : Nat
  base : Nat
  size : Nat

/-- An abstract block: cells (mode: none: only read; some k: may be written from cell k on), a loop's record, a loop's block for deferred calls. -/
inductive Blk where
  | cells (cs : List Value) (e : TypeId) (mode : Option Nat)
  | loop (st : LoopState) (pe : Option Code) (tmps : Array Value) (ps : Array Tmp) (asg body : Code)
  | dfr (taken : Bool)
  | smap (l : List (ByteArray × Value))

/-- The type of which single variables are told to begin at their block's head (strings.Builder, where the program has it). -/
def btype : TypeId := 1000000000
/-- The type of pointers to it: of these alone two that are not nil are compared. -/
def bptr : TypeId := 1000000001

structure St where
  get : Nat → Option Blk
  next : Nat

def St.upd (A : St) (n : Nat) (b : Option Blk) : St := { A with get := fun m => if m = n then b else A.get m }
def St.alloc (A : St) (b : Blk) : St := { get := fun m => if m = A.next then some b else A.get m, next := A.next + 1 }
@[simp] theorem St.next_upd (A : St) (n : Nat) (b : Option Blk) : (A.upd n b).next = A.next := rfl
@[simp] theorem St.next_alloc (A : St) (b : Blk) : (A.alloc b).next = A.next + 1 := rfl
theorem St.get_upd (A : St) (n m : Nat) (b : Option Blk) : (A.upd n b).get m = if m = n then b else A.get m := rfl
theorem St.get_alloc (A : St) (m : Nat) (b : Blk) : (A.alloc b).get m = if m = A.next then some b else A.get m := rfl
theorem St.ext {A B : St} (h : ∀ m, A.get m = B.get m) (hn : A.next = B.next) : A = B := by
  cases A; cases B; simp only [mk.injEq] at *; exact ⟨funext h, hn⟩

/-- A slice's capacity in the machine: the one that is told (no mark), at least that (mark 0), or up to its block's end (mark: cells an element). -/
def capOk (sp : Option Nat) (cap ccap off : Nat) (l : Loc) : Prop :=
  match sp with
  | none => ccap = cap
  | some 0 => True
  | some (sz + 1) => l.base + off + ccap * (sz + 1) = l.size

inductive VR (φ : Nat → Option Loc) (n : Nat) : Value → Value → Prop
  | bool (b : Bool) : VR φ n (.bool b) (.bool b)
  | int (k : IntKind) (i : Int) : VR φ n (.int k i) (.int k i)
  | string (s : ByteArray) : VR φ n (.string s) (.string s)
  | ptr0 : VR φ n (.pointer none) (.pointer none)
  | ptr (b off : Nat) (ca : Addr) (hb : b < n) (h : ∀ l, φ b = some l → ca = ⟨l.block, l.base + off, none⟩) : VR φ n (.pointer (some ⟨b, off, none⟩)) (.pointer (some ca))
  | slice0 : VR φ n (.slice none 0 0) (.slice none 0 0)
  | slice (b off : Nat) (sp : Option Nat) (len cap : Nat) (ca : Addr) (ccap : Nat) (hb : b < n) (hle : len ≤ cap) (hcc : cap ≤ ccap)
      (h : ∀ l, φ b = some l → (ca = ⟨l.block, l.base + off, none⟩ ∧ capOk sp cap ccap off l) ∨ (cap = 0 ∧ ccap = 0)) :
      VR φ n (.slice (some ⟨b, off, sp⟩) len cap) (.slice (some ca) len ccap)
  | map0 : VR φ n (.map none) (.map none)
  | map (b b' : Nat) (hb : b < n) (h : ∀ l, φ b = some l → b' = l.block) : VR φ n (.map (some b)) (.map (some b'))
  | func (fn : Fn) (f f' c c' : Array Value) (hfn : ∀ l, fn ≠ .yield l) (hf : f.size = f'.size) (hc : c.size = c'.size)
      (hf' : ∀ (i : Nat) (v v' : Value), f[i]? = some v → f'[i]? = some v' → VR φ n v v') (hc' : ∀ (i : Nat) (v v' : Value), c[i]? = some v → c'[i]? = some v' → VR φ n v v') :
      VR φ n (.func fn f c) (.func fn f' c')
  | yield (b b' : Nat) (hb : b < n) (h : ∀ l, φ b = some l → b' = l.block) : VR φ n (.func (.yield b) #[] #[]) (.func (.yield b') #[] #[])
  | nilFunc : VR φ n .nilFunc .nilFunc
  | nilIface : VR φ n .nilIface .nilIface
  | iface (t : TypeId) (v v' : Value) (h : VR φ n v v') : VR φ n (.iface t v) (.iface t v')
  | agg (c c' : Array Value) (hc : c.size = c'.size) (hc' : ∀ (i : Nat) (v v' : Value), c[i]? = some v → c'[i]? = some v' → VR φ n v v') : VR φ n (.agg c) (.agg c')
  | tuple (c c' : Array Value) (hc : c.size = c'.size) (hc' : ∀ (i : Nat) (v v' : Value), c[i]? = some v → c'[i]? = some v' → VR φ n v v') : VR φ n (.tuple c) (.tuple c')

/-- What is known of old names stays, but that they may have been given up. -/
def Ext (n : Nat) (φ φ' : Nat → Option Loc) : Prop := ∀ b, b < n → φ' b = φ b ∨ φ' b = none
theorem Ext.refl (n : Nat) (φ : Nat → Option Loc) : Ext n φ φ := fun _ _ => .inl rfl
theorem Ext.trans {n n' : Nat} {φ φ' φ'' : Nat → Option Loc} (h : Ext n φ φ') (h' : Ext n' φ' φ'') (hn : n ≤ n') : Ext n φ φ'' := fun b hb => by
  rcases h' b (by omega) with e | e
  · rw [e]; exact h b hb
  · exact .inr e
theorem Ext.le {n n' : Nat} {φ φ' : Nat → Option Loc} (h : Ext n φ φ') (hn : n' ≤ n) : Ext n' φ φ' := fun b hb => h b (by omega)
theorem Ext.some {n : Nat} {φ φ' : Nat → Option Loc} (h : Ext n φ φ') {b : Nat} (hb : b < n) {l : Loc} (e : φ' b = some l) : φ b = some l := by
  rcases h b hb with x | x
  · rw [← x]; exact e
  · rw [x] at e; cases e

theorem VR.mono {φ φ' : Nat → Option Loc} {n n' : Nat} (hn : n ≤ n') (he : Ext n φ φ') {v c : Value} (h : VR φ n v c) : VR φ' n' v c := by
  induction h with
  | bool b => exact .bool b
  | int k i => exact .int k i
  | string s => exact .string s
  | ptr0 => exact .ptr0
  | ptr b off ca hb h => exact .ptr b off ca (by omega) fun l e => h l (he.some hb e)
  | slice0 => exact .slice0
  | slice b off sp len cap ca ccap hb hle hcc h => exact .slice b off sp len cap ca ccap (by omega) hle hcc fun l e => h l (he.some hb e)
  | map0 => exact .map0
  | map b b' hb h => exact .map b b' (by omega) fun l e => h l (he.some hb e)
  | func fn f f' c c' hfn hf hc _ _ ihf ihc => exact .func fn f f' c c' hfn hf hc ihf ihc
  | yield b b' hb h => exact .yield b b' (by omega) fun l e => h l (he.some hb e)
  | nilFunc => exact .nilFunc
  | nilIface => exact .nilIface
  | iface t v v' _ ih => exact .iface t v v' ih
  | agg c c' hc _ ih => exact .agg c c' hc ih
  | tuple c c' hc _ ih => exact .tuple c c' hc ih

/-! Inversions -/
section inv
variable {φ : Nat → Option Loc} {n : Nat} {c : Value}
theorem VR.bool_inv {b : Bool} (h : VR φ n (.bool b) c) : c = .bool b := by cases h; rfl
theorem VR.int_inv {k : IntKind} {i : Int} (h : VR φ n (.int k i) c) : c = .int k i := by cases h; rfl
theorem VR.string_inv {s : ByteArray} (h : VR φ n (.string s) c) : c = .string s := by cases h; rfl
theorem VR.ptr0_inv (h : VR φ n (.pointer none) c) : c = .pointer none := by cases h; rfl
theorem VR.ptr_inv {b off : Nat} {sp : Option Nat} (h : VR φ n (.pointer (some ⟨b, off, sp⟩)) c) :
    ∃ ca, c = .pointer (some ca) ∧ b < n ∧ sp = none ∧ ∀ l, φ b = some l → ca = ⟨l.block, l.base + off, none⟩ := by
  cases h with | ptr _ _ ca hb h => exact ⟨ca, rfl, hb, rfl, h⟩
theorem VR.slice_inv {a : Option Addr} {len cap : Nat} (h : VR φ n (.slice a len cap) c) :
    (a = none ∧ len = 0 ∧ cap = 0 ∧ c = .slice none 0 0) ∨
    (∃ b off sp ca ccap, a = some ⟨b, off, sp⟩ ∧ c = .slice (some ca) len ccap ∧ b < n ∧ len ≤ cap ∧ cap ≤ ccap ∧
      ∀ l, φ b = some l → (ca = ⟨l.block, l.base + off, none⟩ ∧ capOk sp cap ccap off l) ∨ (cap = 0 ∧ ccap = 0)) := by
  cases h with
  | slice0 => exact .inl ⟨rfl, rfl, rfl, rfl⟩
  | slice b off sp len cap ca ccap hb hle hcc h => exact .inr ⟨b, off, sp, ca, ccap, rfl, rfl, hb, hle, hcc, h⟩
theorem VR.agg_inv {cs : Array Value} (h : VR φ n (.agg cs) c) : ∃ cs', c = .agg cs' ∧ cs.size = cs'.size ∧ ∀ (i : Nat) (v v' : Value), cs[i]? = some v → cs'[i]? = some v' → VR φ n v v' := by
  cases h with | agg _ c' hc h => exact ⟨c', rfl, hc, h⟩
theorem VR.tuple_inv {cs : Array Value} (h : VR φ n (.tuple cs) c) : ∃ cs', c = .tuple cs' ∧ cs.size = cs'.size ∧ ∀ (i : Nat) (v v' : Value), cs[i]? = some v → cs'[i]? = some v' → VR φ n v v' := by
  cases h with | tuple _ c' hc h => exact ⟨c', rfl, hc, h⟩
theorem VR.iface_inv {t : TypeId} {v : Value} (h : VR φ n (.iface t v) c) : ∃ v', c = .iface t v' ∧ VR φ n v v' := by
  cases h with | iface _ _ v' h => exact ⟨v', rfl, h⟩
theorem VR.nilIface_inv (h : VR φ n .nilIface c) : c = .nilIface := by cases h; rfl
theorem VR.nilFunc_inv (h : VR φ n .nilFunc c) : c = .nilFunc := by cases h; rfl
theorem VR.undef : VR φ n undef undef := .tuple _ _ rfl (by intro i v v' h; simp at h)
end inv

/-- Cells of a value, one by one. -/
def CR (φ : Nat → Option Loc) (n : Nat) (c c' : Array Value) : Prop := c.size = c'.size ∧ ∀ (i : Nat) (v v' : Value), c[i]? = some v → c'[i]? = some v' → VR φ n v v'
theorem CR.mono {φ φ' : Nat → Option Loc} {n n' : Nat} (hn : n ≤ n') (he : Ext n φ φ') {c c' : Array Value} (h : CR φ n c c') : CR φ' n' c c' :=
  ⟨h.1, fun i v v' a b => (h.2 i v v' a b).mono hn he⟩
theorem CR.at {φ : Nat → Option Loc} {n : Nat} {c c' : Array Value} (h : CR φ n c c') (i : Nat) (v : Value) (e : c[i]? = some v) : ∃ v', c'[i]? = some v' ∧ VR φ n v v' := by
  have hi : i < c.size := by
    rcases Nat.lt_or_ge i c.size with h | h
    · exact h
    · simp [Array.getElem?_eq_none h] at e
  have hi' : i < c'.size := h.1 ▸ hi
  exact ⟨c'[i], Array.getElem?_eq_getElem hi', h.2 i v _ e (Array.getElem?_eq_getElem hi')⟩
theorem CR.none {φ : Nat → Option Loc} {n : Nat} {c c' : Array Value} (h : CR φ n c c') (i : Nat) (e : c[i]? = Option.none) : c'[i]? = Option.none := by
  simp only [Array.getElem?_eq_none_iff] at *; have := h.1; omega
theorem CR.empty {φ : Nat → Option Loc} {n : Nat} : CR φ n #[] #[] := ⟨rfl, by intro i v v' h; simp at h⟩
theorem CR.push {φ : Nat → Option Loc} {n : Nat} {c c' : Array Value} {v v' : Value} (h : CR φ n c c') (hv : VR φ n v v') : CR φ n (c.push v) (c'.push v') := by
  refine ⟨by simp [h.1], fun i x x' a b => ?_⟩
  rw [Array.getElem?_push] at a b
  have h1 := h.1
  by_cases e : i = c.size
  · rw [if_pos e] at a; rw [if_pos (by omega)] at b
    cases a; cases b; exact hv
  · rw [if_neg e] at a; rw [if_neg (by omega)] at b
    exact h.2 i x x' a b
theorem CR.one {φ : Nat → Option Loc} {n : Nat} {v v' : Value} (h : VR φ n v v') : CR φ n #[v] #[v'] := CR.push CR.empty h
theorem CR.append {φ : Nat → Option Loc} {n : Nat} {c c' d d' : Array Value} (h : CR φ n c c') (k : CR φ n d d') : CR φ n (c ++ d) (c' ++ d') := by
  refine ⟨by simp [h.1, k.1], fun i x x' a b => ?_⟩
  rw [Array.getElem?_append] at a b
  have h1 := h.1
  by_cases e : i < c.size
  · rw [if_pos e] at a; rw [if_pos (by omega)] at b; exact h.2 i x x' a b
  · rw [if_neg e] at a; rw [if_neg (by omega)] at b; rw [← h1] at b; exact k.2 _ x x' a b
theorem CR.set {φ : Nat → Option Loc} {n : Nat} {c c' : Array Value} {v v' : Value} (h : CR φ n c c') (hv : VR φ n v v') (j : Nat) : CR φ n (c.setIfInBounds j v) (c'.setIfInBounds j v') := by
  refine ⟨by simp [h.1], fun i x x' a b => ?_⟩
  rw [Array.getElem?_setIfInBounds] at a b
  by_cases e : j = i
  · rw [if_pos e] at a b
    have h1 := h.1
    by_cases e2 : j < c.size
    · rw [if_pos e2] at a; rw [if_pos (by omega)] at b; cases a; cases b; exact hv
    · rw [if_neg e2] at a; cases a
  · rw [if_neg e] at a b; exact h.2 i x x' a b
theorem CR.map {φ : Nat → Option Loc} {n : Nat} {α : Type} (xs : Array α) (f g : α → Value) (h : ∀ x ∈ xs, VR φ n (f x) (g x)) : CR φ n (xs.map f) (xs.map g) := by
  refine ⟨by simp, fun i v v' a b => ?_⟩
  simp only [Array.getElem?_map, Option.map_eq_some_iff] at a b
  obtain ⟨x, hx, rfl⟩ := a
  obtain ⟨y, hy, rfl⟩ := b
  rw [hx] at hy; cases hy
  exact h x (Array.mem_of_getElem? hx)
theorem CR.replicate {φ : Nat → Option Loc} {n : Nat} (k : Nat) {v v' : Value} (h : VR φ n v v') : CR φ n (Array.replicate k v) (Array.replicate k v') := by
  refine ⟨by simp, fun i x x' a b => ?_⟩
  simp only [Array.getElem?_replicate] at a b
  split at a
  · rename_i hi; rw [if_pos hi] at b; cases a; cases b; exact h
  · cases a
theorem CR.extract {φ : Nat → Option Loc} {n : Nat} {c c' : Array Value} (h : CR φ n c c') (i j : Nat) : CR φ n (c.extract i j) (c'.extract i j) := by
  refine ⟨by simp [h.1], fun k x x' a b => ?_⟩
  simp only [Array.getElem?_extract] at a b
  have h1 := h.1
  split at a
  · rw [if_pos (by omega)] at b; exact h.2 _ x x' a b
  · cases a
theorem CR.of_cells {φ : Nat → Option Loc} {n : Nat} {v v' : Value} (h : VR φ n v v') : CR φ n v.cells v'.cells := by
  cases h with
  | agg c c' hc h => exact ⟨hc, h⟩
  | bool b => exact CR.one (.bool b)
  | int k i => exact CR.one (.int k i)
  | string s => exact CR.one (.string s)
  | ptr0 => exact CR.one .ptr0
  | ptr b off ca hb h => exact CR.one (.ptr b off ca hb h)
  | slice0 => exact CR.one .slice0
  | slice b off sp len cap ca ccap hb hle hcc h => exact CR.one (.slice b off sp len cap ca ccap hb hle hcc h)
  | map0 => exact CR.one .map0
  | map b b' hb h => exact CR.one (.map b b' hb h)
  | func fn f f' c c' hfn hf hc h1 h2 => exact CR.one (.func fn f f' c c' hfn hf hc h1 h2)
  | yield b b' hb h => exact CR.one (.yield b b' hb h)
  | nilFunc => exact CR.one .nilFunc
  | nilIface => exact CR.one .nilIface
  | iface t v v' h => exact CR.one (.iface t v v' h)
  | tuple c c' hc h => exact CR.one (.tuple c c' hc h)
/-- A value that fits one cell. -/
def cell1 : Value → Bool
  | .agg _ | .tuple _ => false
  | _ => true
theorem VR.cell1 {φ : Nat → Option Loc} {n : Nat} {v v' : Value} (h : VR φ n v v') : Fw.cell1 v' = Fw.cell1 v := by
  cases h <;> rfl

/-- A value without references: it stands for itself. -/
def plain1 : Value → Bool
  | .bool _ | .int _ _ | .string _ | .pointer none | .slice none 0 0 | .nilFunc | .nilIface | .map none => true
  | _ => false
def plainV : Value → Bool
  | .agg cs => cs.all plain1
  | v => plain1 v
theorem VR.plain1 {φ : Nat → Option Loc} {n : Nat} {v : Value} (h : plain1 v = true) : VR φ n v v := by
  unfold Fw.plain1 at h
  split at h <;> first | constructor | cases h
theorem VR.plain1_eq {φ : Nat → Option Loc} {n : Nat} {v c : Value} (h : Fw.plain1 v = true) (r : VR φ n v c) : c = v := by
  unfold Fw.plain1 at h
  split at h
  all_goals first | (cases h; done) | skip
  · exact r.bool_inv
  · exact r.int_inv
  · exact r.string_inv
  · exact r.ptr0_inv
  · rcases r.slice_inv with ⟨_, _, _, e⟩ | ⟨b, off, sp, ca, ccap, e, _⟩
    · exact e
    · cases e
  · exact r.nilFunc_inv
  · exact r.nilIface_inv
  · cases r; rfl
theorem VR.plain {φ : Nat → Option Loc} {n : Nat} {v : Value} (h : plainV v = true) : VR φ n v v := by
  unfold plainV at h
  split at h
  · rename_i cs
    refine .agg _ _ rfl fun i v v' a b => ?_
    rw [a] at b; cases b
    rw [Array.all_eq_true'] at h
    exact VR.plain1 (h v (Array.mem_of_getElem? a))
  · exact VR.plain1 h
theorem VR.plain_eq {φ : Nat → Option Loc} {n : Nat} {v c : Value} (h : plainV v = true) (r : VR φ n v c) : c = v := by
  unfold plainV at h
  split at h
  · rename_i cs
    obtain ⟨cs', rfl, hs, hv⟩ := r.agg_inv
    congr 1
    apply Array.ext hs.symm
    intro i h1 h2
    rw [Array.all_eq_true'] at h
    exact VR.plain1_eq (h _ (Array.getElem_mem h2)) (hv i _ _ (Array.getElem?_eq_getElem h2) (Array.getElem?_eq_getElem h1))
  · exact VR.plain1_eq h r
end Go.Fw

/-! How an abstract heap stands to a world; what the steps on it keep. -/
namespace Go.Fw
open Go.RowKit

def BlkR (w0 : World) (φ : Nat → Option Loc) (n : Nat) (l : Loc) (w : World) : Blk → Prop
  | .cells cs e m => ∃ C fr, w.heap[l.block]? = some (.cells C e fr) ∧ C.size = l.size ∧ l.base + cs.length ≤ C.size ∧
      (∀ (i : Nat) (v : Value), cs[i]? = some v → ∃ v', C[l.base + i]? = some v' ∧ VR φ n v v') ∧
      (∀ k, m = some k → (w0.heap.size ≤ l.block ∧ (e = btype → l.base = 0)) ∧ ∀ i, l.base + k ≤ i → i < C.size → ¬ (fr.1 ≤ i ∧ i < fr.2))
  | .loop st pe tmps ps asg body => w0.heap.size ≤ l.block ∧ ∃ tmps' fn df, w.heap[l.block]? = some (.loop { state := st, pending := pe, fn, tmps := tmps', params := ps, assign := asg, body, defers := df }) ∧ CR φ n tmps tmps'
  | .dfr taken => w0.heap.size ≤ l.block ∧ w.heap[l.block]? = some (.deferred (if taken then none else some []))
  | .smap L => w0.heap.size ≤ l.block ∧ (∀ p ∈ L, plainV p.2 = true) ∧ ∃ (es : Array MapEntry) (clock : Nat), w.heap[l.block]? = some (.map es clock) ∧ es.toList.map (fun e => (e.key, e.val)) = L.map (fun p => (Value.string p.1, p.2))

def roBlk : Option Blk → Prop
  | some (.cells _ _ none) => True
  | _ => False

theorem heap_alloc_new (w : World) (o : Obj) : (w.alloc o).heap[w.heap.size]? = some o := by
  show (w.heap.push o)[w.heap.size]? = _
  simp

structure Sim (w0 : World) (φ : Nat → Option Loc) (A : St) (w : World) : Prop where
  below : Below w0.heap.size w0 w
  blk : ∀ b B, A.get b = some B → b < A.next ∧ ∃ l, φ b = some l ∧ BlkR w0 φ A.next l w B
  dead : ∀ b, A.get b = none → φ b = none
  inj : ∀ b b' l l', b ≠ b' → φ b = some l → φ b' = some l' → l.block = l'.block → roBlk (A.get b)

theorem BlkR.mono {w0 : World} {φ φ' : Nat → Option Loc} {n n' : Nat} {l : Loc} {w w' : World} {B : Blk} (h : BlkR w0 φ n l w B) (hw : w'.heap[l.block]? = w.heap[l.block]?) (hn : n ≤ n') (he : Ext n φ φ') :
    BlkR w0 φ' n' l w' B := by
  cases B with
  | cells cs e m =>
    obtain ⟨C, fr, h1, h2, h3, h4, h5⟩ := h
    exact ⟨C, fr, hw.trans h1, h2, h3, fun i v e => let ⟨v', a, b⟩ := h4 i v e; ⟨v', a, b.mono hn he⟩, h5⟩
  | loop st pe tmps ps asg body =>
    obtain ⟨h0, tmps', fn, df, h1, h2⟩ := h
    exact ⟨h0, tmps', fn, df, hw.trans h1, h2.mono hn he⟩
  | dfr taken => exact ⟨h.1, hw.trans h.2⟩
  | smap L => obtain ⟨h0, hp, es, c, h1, h2⟩ := h; exact ⟨h0, hp, es, c, hw.trans h1, h2⟩
theorem BlkR.lt {w0 : World} {φ : Nat → Option Loc} {n : Nat} {l : Loc} {w : World} {B : Blk} (h : BlkR w0 φ n l w B) : l.block < w.heap.size := by
  have key : ∀ o, w.heap[l.block]? = some o → l.block < w.heap.size := fun o e => (Array.getElem?_eq_some_iff.1 e).1
  cases B with
  | cells cs e m => obtain ⟨C, fr, h1, _⟩ := h; exact key _ h1
  | loop st pe tmps ps asg body => obtain ⟨_, _, _, _, h1, _⟩ := h; exact key _ h1
  | dfr taken => exact key _ h.2
  | smap L => obtain ⟨_, _, _, _, h1, _⟩ := h; exact key _ h1

section
variable {w0 : World} {φ : Nat → Option Loc} {A : St} {w : World}

theorem Sim.loc (h : Sim w0 φ A w) {b : Nat} {l : Loc} (e : φ b = some l) : ∃ B, A.get b = some B ∧ b < A.next ∧ BlkR w0 φ A.next l w B := by
  cases hB : A.get b with
  | none => rw [h.dead b hB] at e; cases e
  | some B =>
    obtain ⟨h1, l', h2, h3⟩ := h.blk b B hB
    rw [e] at h2; cases h2
    exact ⟨B, rfl, h1, h3⟩
theorem Sim.get_next (h : Sim w0 φ A w) : A.get A.next = none := by
  cases hB : A.get A.next with
  | none => rfl
  | some B => exact absurd (h.blk _ _ hB).1 (by omega)
theorem Sim.old (h : Sim w0 φ A w) : w0.heap.size ≤ w.heap.size := h.below.size

/-- A new block. -/
theorem Sim.new (h : Sim w0 φ A w) (B : Blk) (o : Obj) (l : Loc) (hl : l.block = w.heap.size)
    (hB : BlkR w0 (fun m => if m = A.next then some l else φ m) (A.next + 1) l (w.alloc o) B) :
    Sim w0 (fun m => if m = A.next then some l else φ m) (A.alloc B) (w.alloc o) ∧ Ext A.next φ (fun m => if m = A.next then some l else φ m) := by
  have he : Ext A.next φ (fun m => if m = A.next then some l else φ m) := fun b hb => .inl (if_neg (by omega))
  refine ⟨⟨h.below.alloc h.old o, fun b B' e => ?_, fun b e => ?_, fun b b' m m' hne e e' hb => ?_⟩, he⟩
  · rw [St.get_alloc] at e
    by_cases hb : b = A.next
    · rw [if_pos hb] at e; cases e
      exact ⟨by simp [hb], l, by simp [hb], hB⟩
    · rw [if_neg hb] at e
      obtain ⟨h1, m, h2, h3⟩ := h.blk b B' e
      refine ⟨by simp; omega, m, by simp [hb, h2], h3.mono ?_ (by simp) he⟩
      exact Below.heap_alloc _ _ _ h3.lt
  · rw [St.get_alloc] at e
    by_cases hb : b = A.next
    · rw [if_pos hb] at e; cases e
    · rw [if_neg hb] at e; simp [hb, h.dead b e]
  · replace e : (if b = A.next then some l else φ b) = some m := e
    replace e' : (if b' = A.next then some l else φ b') = some m' := e'
    rw [St.get_alloc]
    by_cases h1 : b = A.next
    · rw [if_pos h1] at e
      cases e
      rw [if_neg (by omega)] at e'
      obtain ⟨_, _, _, h3⟩ := h.loc e'
      have := h3.lt; omega
    · rw [if_neg h1] at e
      obtain ⟨_, _, _, h3⟩ := h.loc e
      by_cases h2 : b' = A.next
      · rw [if_pos h2] at e'; cases e'; have := h3.lt; omega
      · rw [if_neg h2] at e'; rw [if_neg h1]
        exact h.inj b b' m m' hne e e' hb

theorem Sim.newCells (h : Sim w0 φ A w) (cs C : Array Value) (e : TypeId) (hc : CR φ A.next cs C) :
    ∃ φ', Sim w0 φ' (A.alloc (.cells cs.toList e (some 0))) (w.alloc (.cells C e)) ∧ Ext A.next φ φ' ∧ φ' A.next = some ⟨w.heap.size, 0, C.size⟩ := by
  refine ⟨_, (h.new (.cells cs.toList e (some 0)) (.cells C e) ⟨w.heap.size, 0, C.size⟩ rfl ?_).1, (h.new (.cells cs.toList e (some 0)) (.cells C e) ⟨w.heap.size, 0, C.size⟩ rfl ?_).2, by simp⟩
  all_goals
    refine ⟨C, (0, 0), heap_alloc_new w _, rfl, by simp [hc.1], fun i v e => ?_, fun k hk => ⟨⟨h.old, fun _ => rfl⟩, fun i _ _ hf => by omega⟩⟩
    simp only [Array.getElem?_toList] at e
    obtain ⟨v', a, r⟩ := hc.at i v e
    exact ⟨v', by simpa using a, r.mono (by omega) (fun b hb => .inl (if_neg (by omega)))⟩

/-- A new block that is filled in part by what is told: a slice whose spare room is the machine's own. -/
theorem Sim.newRow (h : Sim w0 φ A w) (cs : List Value) (C : Array Value) (e : TypeId) (fr : Nat × Nat) (hlen : cs.length ≤ C.size)
    (hc : ∀ (i : Nat) (v : Value), cs[i]? = some v → ∃ v', C[i]? = some v' ∧ VR φ A.next v v') (hf : ∀ i, i < C.size → ¬ (fr.1 ≤ i ∧ i < fr.2)) :
    ∃ φ', Sim w0 φ' (A.alloc (.cells cs e (some 0))) (w.alloc (.cells C e fr)) ∧ Ext A.next φ φ' ∧ φ' A.next = some ⟨w.heap.size, 0, C.size⟩ := by
  refine ⟨_, (h.new (.cells cs e (some 0)) (.cells C e fr) ⟨w.heap.size, 0, C.size⟩ rfl ?_).1, (h.new (.cells cs e (some 0)) (.cells C e fr) ⟨w.heap.size, 0, C.size⟩ rfl ?_).2, by simp⟩
  all_goals
    refine ⟨C, fr, heap_alloc_new w _, rfl, by simpa using hlen, fun i v e => ?_, fun k hk => ⟨⟨h.old, fun _ => rfl⟩, fun i _ hi => hf i hi⟩⟩
    obtain ⟨v', a, r⟩ := hc i v e
    exact ⟨v', by simpa using a, r.mono (by omega) (fun b hb => .inl (if_neg (by omega)))⟩

theorem cell?_of {w : World} {b : Nat} {C : Array Value} {e : TypeId} {fr : Nat × Nat} (h : w.heap[b]? = some (.cells C e fr)) (o : Nat) : w.cell? ⟨b, o, none⟩ = C[o]? := by
  simp [World.cell?, h]
theorem frozen?_of {w : World} {b : Nat} {C : Array Value} {e : TypeId} {fr : Nat × Nat} (h : w.heap[b]? = some (.cells C e fr)) (o : Nat) : w.frozen? ⟨b, o, none⟩ = (fr.1 ≤ o && o < fr.2) := by
  simp [World.frozen?, h]
theorem heap_setCell_same {w : World} {b : Nat} {C : Array Value} {e : TypeId} {fr : Nat × Nat} (h : w.heap[b]? = some (.cells C e fr)) (o : Nat) (v : Value) :
    (w.setCell ⟨b, o, none⟩ v).heap[b]? = some (.cells (C.setIfInBounds o v) e fr) := by
  simp [World.setCell, Array.getElem?_modify, h]

theorem Sim.cell (h : Sim w0 φ A w) {b : Nat} {cs : List Value} {e : TypeId} {m : Option Nat} (hb : A.get b = some (.cells cs e m)) {i : Nat} {v : Value} (hi : cs[i]? = some v) :
    ∃ l v', φ b = some l ∧ w.cell? ⟨l.block, l.base + i, none⟩ = some v' ∧ VR φ A.next v v' := by
  obtain ⟨_, l, hl, C, fr, h1, _, _, h4, _⟩ := h.blk b _ hb
  obtain ⟨v', a, r⟩ := h4 i v hi
  exact ⟨l, v', hl, by rw [cell?_of h1]; exact a, r⟩

/-- What is told of a block is turned; so is the machine's. -/
theorem Sim.turn (h : Sim w0 φ A w) {b : Nat} {B B' : Blk} (hb : A.get b = some B) {l : Loc} (hl : φ b = some l) (hnr : ¬ roBlk (some B)) {w' : World} (hbel : Below w0.heap.size w0 w')
    (hoth : ∀ k, k ≠ l.block → k < w.heap.size → w'.heap[k]? = w.heap[k]?) (hB : BlkR w0 φ A.next l w' B') : Sim w0 φ (A.upd b (some B')) w' := by
  have hinj : ∀ b' l', b' ≠ b → φ b' = some l' → l'.block ≠ l.block := fun b' l' hne e he => hnr (hb ▸ h.inj b b' l l' (by omega) hl e he.symm)
  refine ⟨hbel, fun c B2 e => ?_, fun c e => ?_, fun c c' m m' hne e e' hm => ?_⟩
  · rw [St.get_upd] at e
    by_cases hc : c = b
    · rw [if_pos hc] at e; cases e
      subst hc
      exact ⟨(h.blk c B hb).1, l, hl, hB⟩
    · rw [if_neg hc] at e
      obtain ⟨h1, m, h2, h3⟩ := h.blk c B2 e
      exact ⟨h1, m, h2, h3.mono (hoth _ (hinj c m hc h2) h3.lt) (Nat.le_refl _) (Ext.refl _ _)⟩
  · rw [St.get_upd] at e
    by_cases hc : c = b
    · rw [if_pos hc] at e; cases e
    · rw [if_neg hc] at e; exact h.dead c e
  · by_cases h1 : c = b
    · subst h1; rw [hl] at e; cases e; exact absurd hm.symm (hinj c' m' (by omega) e')
    · by_cases h2 : c' = b
      · subst h2; rw [hl] at e'; cases e'; exact absurd hm (hinj c m h1 e)
      · rw [St.get_upd, if_neg h1]; exact h.inj c c' m m' hne e e' hm

theorem Sim.set (h : Sim w0 φ A w) {b : Nat} {cs : List Value} {e : TypeId} {k : Nat} (hb : A.get b = some (.cells cs e (some k))) {i : Nat} (hk : k ≤ i) (hi : i < cs.length) {v v' : Value} (hv : VR φ A.next v v') :
    ∃ l, φ b = some l ∧ (∃ u, w.cell? ⟨l.block, l.base + i, none⟩ = some u) ∧ w.frozen? ⟨l.block, l.base + i, none⟩ = false ∧
      Sim w0 φ (A.upd b (some (.cells (cs.set i v) e (some k)))) (w.setCell ⟨l.block, l.base + i, none⟩ v') := by
  obtain ⟨_, l, hl, C, fr, h1, h2, h3, h4, h5⟩ := h.blk b _ hb
  obtain ⟨h50, h5⟩ := h5 k rfl
  have hlt : l.base + i < C.size := by omega
  refine ⟨l, hl, ⟨C[l.base + i], by rw [cell?_of h1]; exact Array.getElem?_eq_getElem hlt⟩, ?_, ?_⟩
  · rw [frozen?_of h1]; have := h5 (l.base + i) (by omega) hlt; simp; omega
  · refine h.turn hb hl (by simp [roBlk]) (h.below.setCell h50.1 _) (fun j hj _ => Below.heap_setCell _ _ _ _ hj) ?_
    refine ⟨_, fr, heap_setCell_same h1 _ _, by simpa using h2, by simpa using h3, fun j u e => ?_, fun k' e => by cases e; exact ⟨h50, fun i a b => h5 i a (by simpa using b)⟩⟩
    rw [List.getElem?_set] at e
    by_cases hj : i = j
    · subst hj; rw [if_pos rfl, if_pos hi] at e; cases e
      exact ⟨v', by rw [Array.getElem?_setIfInBounds, if_pos rfl, if_pos hlt], hv⟩
    · rw [if_neg hj] at e
      obtain ⟨u', a, r⟩ := h4 j u e
      exact ⟨u', by rw [Array.getElem?_setIfInBounds, if_neg (by omega)]; exact a, r⟩

theorem Sim.drew (h : Sim w0 φ A w) : Sim w0 φ A w.drew := ⟨h.below.drew, h.blk, h.dead, h.inj⟩

/-- A part of the heap, as it was. -/
structure Sub (B A : St) : Prop where
  next : B.next ≤ A.next
  get : ∀ b, b < B.next → A.get b = B.get b
  out : ∀ b, B.next ≤ b → B.get b = none

/-- Names below n alone. -/
def cut (n : Nat) (φ : Nat → Option Loc) : Nat → Option Loc := fun b => if b < n then φ b else none
end

/-- A value whose names are below n. -/
inductive Bnd (n : Nat) : Value → Prop
  | bool (b : Bool) : Bnd n (.bool b)
  | int (k : IntKind) (i : Int) : Bnd n (.int k i)
  | string (s : ByteArray) : Bnd n (.string s)
  | ptr0 : Bnd n (.pointer none)
  | ptr (a : Addr) (h : a.block < n) : Bnd n (.pointer (some a))
  | slice0 (l c : Nat) : Bnd n (.slice none l c)
  | slice (a : Addr) (l c : Nat) (h : a.block < n) : Bnd n (.slice (some a) l c)
  | map0 : Bnd n (.map none)
  | map (b : Nat) (h : b < n) : Bnd n (.map (some b))
  | func (fn : Fn) (f c : Array Value) (hfn : ∀ l, fn = .yield l → l < n) (hf : ∀ (i : Nat) (v : Value), f[i]? = some v → Bnd n v) (hc : ∀ (i : Nat) (v : Value), c[i]? = some v → Bnd n v) : Bnd n (.func fn f c)
  | nilFunc : Bnd n .nilFunc
  | nilIface : Bnd n .nilIface
  | iface (t : TypeId) (v : Value) (h : Bnd n v) : Bnd n (.iface t v)
  | agg (c : Array Value) (hc : ∀ (i : Nat) (v : Value), c[i]? = some v → Bnd n v) : Bnd n (.agg c)
  | tuple (c : Array Value) (hc : ∀ (i : Nat) (v : Value), c[i]? = some v → Bnd n v) : Bnd n (.tuple c)
def BndA (n : Nat) (c : Array Value) : Prop := ∀ (i : Nat) (v : Value), c[i]? = some v → Bnd n v

theorem Bnd.le {n n' : Nat} (hn : n ≤ n') {v : Value} (h : Bnd n v) : Bnd n' v := by
  induction h with
  | bool => exact .bool _
  | int => exact .int _ _
  | string => exact .string _
  | ptr0 => exact .ptr0
  | ptr a h => exact .ptr a (by omega)
  | slice0 => exact .slice0 _ _
  | slice a l c h => exact .slice a l c (by omega)
  | map0 => exact .map0
  | map b h => exact .map b (by omega)
  | func fn f c hfn _ _ hf hc => exact .func fn f c (fun l e => by have := hfn l e; omega) hf hc
  | nilFunc => exact .nilFunc
  | nilIface => exact .nilIface
  | iface t v _ h => exact .iface t v h
  | agg c _ h => exact .agg c h
  | tuple c _ h => exact .tuple c h

theorem VR.bnd {φ : Nat → Option Loc} {n : Nat} {v c : Value} (h : VR φ n v c) : Bnd n v := by
  induction h with
  | bool => exact .bool _
  | int => exact .int _ _
  | string => exact .string _
  | ptr0 => exact .ptr0
  | ptr b off ca hb h => exact .ptr _ hb
  | slice0 => exact .slice0 _ _
  | slice b off sp len cap ca ccap hb hle hcc h => exact .slice _ _ _ hb
  | map0 => exact .map0
  | map b b' hb h => exact .map _ hb
  | func fn f f' c c' hfn hf hc _ _ ihf ihc =>
    refine .func fn f c (fun l e => absurd e (hfn l)) (fun i v e => ?_) (fun i v e => ?_)
    · have hi : i < f'.size := hf ▸ (Array.getElem?_eq_some_iff.1 e).1
      exact ihf i v f'[i] e (Array.getElem?_eq_getElem hi)
    · have hi : i < c'.size := hc ▸ (Array.getElem?_eq_some_iff.1 e).1
      exact ihc i v c'[i] e (Array.getElem?_eq_getElem hi)
  | yield b b' hb h => exact .func _ _ _ (fun l e => by cases e; exact hb) (fun i v e => by simp at e) (fun i v e => by simp at e)
  | nilFunc => exact .nilFunc
  | nilIface => exact .nilIface
  | iface t v v' _ ih => exact .iface t v ih
  | agg c c' hc _ ih =>
    refine .agg c fun i v e => ?_
    have hi : i < c'.size := hc ▸ (Array.getElem?_eq_some_iff.1 e).1
    exact ih i v c'[i] e (Array.getElem?_eq_getElem hi)
  | tuple c c' hc _ ih =>
    refine .tuple c fun i v e => ?_
    have hi : i < c'.size := hc ▸ (Array.getElem?_eq_some_iff.1 e).1
    exact ih i v c'[i] e (Array.getElem?_eq_getElem hi)

theorem VR.cut {φ : Nat → Option Loc} {n n' : Nat} {v c : Value} (h : VR φ n v c) (hb : Bnd n' v) : VR (Fw.cut n' φ) n' v c := by
  have key : ∀ b l, Fw.cut n' φ b = some l → φ b = some l := fun b l e => by unfold Fw.cut at e; split at e; exact e; cases e
  induction h with
  | bool => exact .bool _
  | int => exact .int _ _
  | string => exact .string _
  | ptr0 => exact .ptr0
  | ptr b off ca _ h => cases hb with | ptr _ hb => exact .ptr b off ca hb fun l e => h l (key _ _ e)
  | slice0 => exact .slice0
  | slice b off sp len cap ca ccap _ hle hcc h => cases hb with | slice _ _ _ hb => exact .slice b off sp len cap ca ccap hb hle hcc fun l e => h l (key _ _ e)
  | map0 => exact .map0
  | map b b' _ h => cases hb with | map _ hb => exact .map b b' hb fun l e => h l (key _ _ e)
  | func fn f f' c c' hfn hf hc _ _ ihf ihc =>
    cases hb with
    | func _ _ _ _ h1 h2 => exact .func fn f f' c c' hfn hf hc (fun i v v' a b => ihf i v v' a b (h1 i v a)) (fun i v v' a b => ihc i v v' a b (h2 i v a))
  | yield b b' _ h =>
    cases hb with
    | func _ _ _ h0 _ _ => exact .yield b b' (h0 b rfl) fun l e => h l (key _ _ e)
  | nilFunc => exact .nilFunc
  | nilIface => exact .nilIface
  | iface t v v' _ ih => cases hb with | iface _ _ hb => exact .iface t v v' (ih hb)
  | agg c c' hc _ ih => cases hb with | agg _ h1 => exact .agg c c' hc fun i v v' a b => ih i v v' a b (h1 i v a)
  | tuple c c' hc _ ih => cases hb with | tuple _ h1 => exact .tuple c c' hc fun i v v' a b => ih i v v' a b (h1 i v a)
theorem CR.cut {φ : Nat → Option Loc} {n n' : Nat} {c c' : Array Value} (h : CR φ n c c') (hb : BndA n' c) : CR (Fw.cut n' φ) n' c c' :=
  ⟨h.1, fun i v v' a b => (h.2 i v v' a b).cut (hb i v a)⟩
theorem CR.bnd {φ : Nat → Option Loc} {n : Nat} {c c' : Array Value} (h : CR φ n c c') : BndA n c := fun i v e => let ⟨_, _, r⟩ := h.at i v e; r.bnd

def BndB (n : Nat) : Blk → Prop
  | .cells cs _ _ => ∀ v ∈ cs, Bnd n v
  | .loop _ _ tmps _ _ _ => BndA n tmps
  | .dfr _ => True
  | .smap _ => True
/-- All names of a heap are its own. -/
def WF (A : St) : Prop := ∀ b B, A.get b = some B → b < A.next ∧ BndB A.next B

section
variable {w0 : World} {φ : Nat → Option Loc} {A : St} {w : World}
theorem Sim.wf (h : Sim w0 φ A w) : WF A := fun b B e => by
  obtain ⟨h1, l, h2, h3⟩ := h.blk b B e
  refine ⟨h1, ?_⟩
  cases B with
  | cells cs e m =>
    obtain ⟨C, fr, _, _, _, h4, _⟩ := h3
    intro v hv
    obtain ⟨i, hi⟩ := List.getElem?_of_mem hv
    obtain ⟨_, _, r⟩ := h4 i v hi
    exact r.bnd
  | loop st pe tmps ps asg body => obtain ⟨_, _, _, _, _, h4⟩ := h3; exact h4.bnd
  | dfr t => trivial
  | smap L => trivial

theorem Sub.refl (h : WF A) : Sub A A := ⟨Nat.le_refl _, fun _ _ => rfl, fun b hb => by
  cases e : A.get b with
  | none => rfl
  | some B => have := (h b B e).1; omega⟩

/-- What nobody speaks of is let go. -/
theorem Sim.gc (h : Sim w0 φ A w) {B : St} (hs : Sub B A) (hw : WF B) : Sim w0 (cut B.next φ) B w := by
  have hc : ∀ b l, cut B.next φ b = some l → b < B.next ∧ φ b = some l := fun b l e => by unfold cut at e; split at e; exact ⟨‹_›, e⟩; cases e
  have hc' : ∀ b, b < B.next → cut B.next φ b = φ b := fun b hb => if_pos hb
  refine ⟨h.below, fun b X e => ?_, fun b e => ?_, fun b b' l l' hne e e' hb => ?_⟩
  · obtain ⟨h1, h2⟩ := hw b X e
    obtain ⟨_, l, h3, h4⟩ := h.blk b X ((hs.get b h1).trans e)
    refine ⟨h1, l, (hc' b h1).trans h3, ?_⟩
    cases X with
    | cells cs e m =>
      obtain ⟨C, fr, a1, a2, a3, a4, a5⟩ := h4
      exact ⟨C, fr, a1, a2, a3, fun i v e => let ⟨v', q, r⟩ := a4 i v e; ⟨v', q, r.cut (h2 v (List.mem_of_getElem? e))⟩, a5⟩
    | loop st pe tmps ps asg body => obtain ⟨a0, t', fn, df, a1, a2⟩ := h4; exact ⟨a0, t', fn, df, a1, a2.cut h2⟩
    | dfr t => exact h4
    | smap L => exact h4
  · by_cases hb : b < B.next
    · rw [hc' b hb]; exact h.dead b ((hs.get b hb).trans e)
    · exact if_neg hb
  · obtain ⟨h1, h2⟩ := hc b l e
    obtain ⟨h3, h4⟩ := hc b' l' e'
    rw [← hs.get b h1]
    exact h.inj b b' l l' hne h2 h4 hb
theorem Ext.cut {n m : Nat} {φ φ' : Nat → Option Loc} (h : Ext n φ φ') (hn : n ≤ m) : Ext n φ (Fw.cut m φ') := fun b hb => by
  have : Fw.cut m φ' b = φ' b := if_pos (by omega)
  rw [this]; exact h b hb
end
end Go.Fw

/-! What single operations do on the abstract heap, and that the machine's operations do so. -/
namespace Go.Fw
open Go.RowKit

def tsz (P : Program) (t : TypeId) : Option Nat := (P.info? t).map (·.size)
def tbytes (P : Program) (t : TypeId) : Option Nat := (P.info? t).map (·.bytes)
/-- A type's zero value, where it holds no reference. -/
def tzero (P : Program) (t : TypeId) : Option Value := ((P.info? t).bind (·.zero)).bind fun z => if plainV z then some z else none
def tagg (P : Program) (t : TypeId) : Option Bool := (P.underlying t).map fun | .struct _ | .array _ _ => true | _ => false
def telem (P : Program) (t : TypeId) : Option TypeId := match P.underlying t with | some (.slice e) => if e = btype then none else some e | _ => none

section runs
variable {P : Program} {w : World}
theorem run_und {t : TypeId} {d : TypeDesc} (h : P.underlying t = some d) : (underlying t).run P w = .ok d w := run_underlying h w
theorem run_tsz {t : TypeId} {n : Nat} (h : tsz P t = some n) : (sizeOf t).run P w = .ok n w := by
  unfold tsz at h
  cases hi : P.info? t with
  | none => rw [hi] at h; cases h
  | some i => rw [hi] at h; cases h; simp [sizeOf, typeInfo, hi]
theorem run_tinfo {t : TypeId} {n : Nat} (h : tbytes P t = some n) : ∃ i, (typeInfo t).run P w = .ok i w ∧ i.bytes = n := by
  unfold tbytes at h
  cases hi : P.info? t with
  | none => rw [hi] at h; cases h
  | some i => rw [hi] at h; cases h; exact ⟨i, by simp [typeInfo, hi], rfl⟩
theorem run_tzero {t : TypeId} {z : Value} (h : tzero P t = some z) : (zeroValue t).run P w = .ok z w ∧ plainV z = true := by
  unfold tzero at h
  cases hi : P.info? t with
  | none => rw [hi] at h; cases h
  | some i =>
    rw [hi] at h
    cases hz : i.zero with
    | none => simp [hz] at h
    | some z' =>
      simp only [hz, Option.bind_some] at h
      split at h
      · cases h; exact ⟨by simp [zeroValue, typeInfo, hi, hz], ‹_›⟩
      · cases h
theorem run_tagg {t : TypeId} {b : Bool} (h : tagg P t = some b) : (isAgg t).run P w = .ok b w := by
  unfold tagg at h
  cases hi : P.underlying t with
  | none => rw [hi] at h; cases h
  | some d =>
    rw [hi] at h
    cases h
    simp only [isAgg, Sem.run_bind, run_und hi, Result.andThen_ok]
    cases d <;> rfl
end runs

/-! ### Cells read and written -/
section
variable {P : Program} {w0 : World} {φ : Nat → Option Loc} {A : St} {w : World}

theorem Sim.load (h : Sim w0 φ A w) {b : Nat} {cs : List Value} {e : TypeId} {m : Option Nat} (hb : A.get b = some (.cells cs e m)) {l : Loc} (hl : φ b = some l) (off sz : Nat) (hs : off + sz ≤ cs.length) :
    ∃ ds : Array Value, (loadCells ⟨l.block, l.base + off, none⟩ sz).run P w = .ok ds w ∧ CR φ A.next ((cs.drop off).take sz).toArray ds := by
  obtain ⟨_, l', hl', C, fr, h1, h2, h3, h4, h5⟩ := h.blk b _ hb
  rw [hl] at hl'; cases hl'
  have hlen : ((C.extract (l.base + off) (l.base + off + sz)).toList).length = sz := by simp; omega
  refine ⟨C.extract (l.base + off) (l.base + off + sz), ?_, by simp; omega, fun i v v' a b' => ?_⟩
  · have := run_loadCells_list (P := P) (w := w) ⟨l.block, l.base + off, none⟩ (C.extract (l.base + off) (l.base + off + sz)).toList (fun j v e => by
      rw [Addr.add_lit, cell?_of h1]
      simp only [Array.getElem?_toList, Array.getElem?_extract] at e
      split at e
      · rw [← e]
      · cases e)
    rw [hlen, Array.toArray_toList] at this
    exact this
  · simp only [List.getElem?_toArray, List.getElem?_take, List.getElem?_drop] at a
    simp only [Array.getElem?_extract] at b'
    split at a
    · obtain ⟨u, q, r⟩ := h4 _ v a
      split at b'
      · rw [show l.base + off + i = l.base + (off + i) by omega, q] at b'; cases b'; exact r
      · cases b'
    · cases a

def setList (cs : List Value) (off : Nat) : List Value → List Value
  | [] => cs
  | v :: r => setList (cs.set off v) (off + 1) r
theorem St.upd_upd (A : St) (b : Nat) (x y : Option Blk) : (A.upd b x).upd b y = A.upd b y := St.ext (fun m => by simp only [St.get_upd]; split <;> rfl) rfl

theorem run_store_one {a : Addr} {v u : Value} (hv : cell1 v = true) (hc : w.cell? a = some u) (hf : w.frozen? a = false) : (store a v).run P w = .ok () (w.setCell a v) := by
  cases v <;> first | (simp [cell1] at hv; done) | (simp only [store, Sem.run, hc, hf]; rfl)

theorem Sim.store {b : Nat} {e : TypeId} {k : Nat} {l : Loc} (hl : φ b = some l) (off : Nat) : ∀ (vs vs' : List Value) (i : Nat) (A : St) (w : World) (cs : List Value), Sim w0 φ A w → A.get b = some (.cells cs e (some k)) →
    vs.length = vs'.length → (∀ (j : Nat) (v v' : Value), vs[j]? = some v → vs'[j]? = some v' → VR φ A.next v v' ∧ cell1 v = true) → k ≤ off + i → off + i + vs.length ≤ cs.length →
    ∃ w', (storeCells ⟨l.block, l.base + off, none⟩ vs' i).run P w = .ok () w' ∧ Sim w0 φ (A.upd b (some (.cells (setList cs (off + i) vs) e (some k)))) w' := by
  intro vs
  induction vs with
  | nil =>
    intro vs' i A w cs h hb hlen _ _ _
    obtain rfl : vs' = [] := List.eq_nil_of_length_eq_zero (by simpa using hlen.symm)
    refine ⟨w, rfl, ?_⟩
    have : A.upd b (some (.cells (setList cs (off + i) []) e (some k))) = A := St.ext (fun m => by
      by_cases hm : m = b
      · subst hm; rw [St.get_upd, if_pos rfl]; exact hb.symm
      · rw [St.get_upd, if_neg hm]) rfl
    rw [this]; exact h
  | cons v r ih =>
    intro vs' i A w cs h hb hlen hv hk hs
    match vs', hlen with
    | v' :: r', hlen =>
      simp only [List.length_cons, Nat.add_right_cancel_iff] at hlen hs
      obtain ⟨hv1, hv2⟩ := hv 0 v v' rfl rfl
      obtain ⟨l', hl', ⟨u, hu⟩, hf, hsim⟩ := h.set hb hk (by omega) hv1
      rw [hl] at hl'; cases hl'
      obtain ⟨w', hr, hs'⟩ := ih r' (i + 1) _ _ (cs.set (off + i) v) hsim (by rw [St.get_upd, if_pos rfl]) hlen (fun j x x' a b => hv (j + 1) x x' (by simpa using a) (by simpa using b)) (by omega) (by simp; omega)
      refine ⟨w', ?_, ?_⟩
      · show (do _root_.Go.store ((⟨l.block, l.base + off, none⟩ : Addr).add i) v'; storeCells ⟨l.block, l.base + off, none⟩ r' (i + 1)).run P w = _
        rw [Addr.add_lit, Sem.run_bind, show l.base + off + i = l.base + (off + i) by omega, run_store_one (by rw [hv1.cell1]; exact hv2) hu hf]
        exact hr
      · rw [St.upd_upd] at hs'
        exact hs'
end

/-! ### The operations -/
def aload (P : Program) (A : St) (t : TypeId) : Value → Option Value
  | .pointer (some ⟨b, off, none⟩) =>
    match tagg P t, tsz P t, A.get b with
    | some true, some sz, some (.cells cs _ _) => if off + sz ≤ cs.length then some (.agg ((cs.drop off).take sz).toArray) else none
    | some false, _, some (.cells cs _ _) => cs[off]?
    | _, _, _ => none
  | _ => none
def astore (P : Program) (A : St) (t : TypeId) (a v : Value) : Option St :=
  match a with
  | .pointer (some ⟨b, off, none⟩) =>
    match A.get b with
    | some (.cells cs e (some k)) =>
      if tsz P t = some v.cells.size ∧ k ≤ off ∧ off + v.cells.size ≤ cs.length ∧ v.cells.all cell1 = true then some (A.upd b (some (.cells (setList cs off v.cells.toList) e (some k)))) else none
    | _ => none
  | _ => none

section
variable {P : Program} {w0 : World} {φ : Nat → Option Loc} {A : St} {w : World}
theorem aload_sound (h : Sim w0 φ A w) {t : TypeId} {a v ca : Value} (e : aload P A t a = some v) (ha : VR φ A.next a ca) : ∃ v', (Instr.loadAt t ca).run P w = .ok v' w ∧ VR φ A.next v v' := by
  unfold aload at e
  split at e
  · rename_i b off
    obtain ⟨ca, rfl, hb, _, hloc⟩ := ha.ptr_inv
    split at e
    · rename_i sz cs _ _ ht hz hg
      split at e
      · cases e
        obtain ⟨_, l, hl, _⟩ := h.blk b _ hg
        obtain ⟨ds, hr, hc⟩ := h.load (P := P) hg hl off sz ‹_›
        rw [hloc l hl]
        refine ⟨.agg ds, ?_, .agg _ _ hc.1 hc.2⟩
        simp only [Instr.loadAt, Instr.sureAddr, loadVar, Sem.run_bind, Sem.run_pure, Result.andThen_ok, run_tagg ht, run_tsz hz, hr, if_true]
      · cases e
    · rename_i cs _ _ ht hg
      obtain ⟨l, v', hl, hc, hv⟩ := h.cell hg e
      rw [hloc l hl]
      refine ⟨v', ?_, hv⟩
      simp only [Instr.loadAt, Instr.sureAddr, loadVar, Sem.run_bind, Sem.run_pure, Result.andThen_ok, run_tagg ht, Bool.false_eq_true, if_false, run_load, hc]
    · cases e
  · cases e

theorem astore_sound (h : Sim w0 φ A w) {t : TypeId} {a v ca cv : Value} {A' : St} (e : astore P A t a v = some A') (ha : VR φ A.next a ca) (hv : VR φ A.next v cv) :
    ∃ w', (Instr.storeAt t ca cv).run P w = .ok () w' ∧ Sim w0 φ A' w' ∧ A'.next = A.next := by
  unfold astore at e
  split at e
  · rename_i b off
    obtain ⟨ca, rfl, hb, _, hloc⟩ := ha.ptr_inv
    split at e
    · rename_i cs e0 k hg
      split at e
      · rename_i hcond
        obtain ⟨h1, h2, h3, h4⟩ := hcond
        cases e
        obtain ⟨_, l, hl, _⟩ := h.blk b _ hg
        have hc := CR.of_cells hv
        obtain ⟨w', hr, hs⟩ := Sim.store (P := P) hl off v.cells.toList cv.cells.toList 0 A w cs h hg (by simpa using hc.1) (fun j x x' a b => ⟨hc.2 j x x' (by simpa using a) (by simpa using b), by
          rw [Array.all_eq_true'] at h4
          exact h4 x (by simpa using List.mem_of_getElem? a)⟩) (by omega) (by simpa using h3)
        refine ⟨w', ?_, hs, rfl⟩
        rw [hloc l hl]
        simp only [Instr.storeAt, Instr.sureAddr, storeVar, Sem.run_bind, Sem.run_pure, Result.andThen_ok, run_tsz h1, ← hc.1, ne_eq, not_true_eq_false, if_false]
        exact hr
      · cases e
    · cases e
  · cases e
end
end Go.Fw

/-! Operations that touch no memory. -/
namespace Go.Fw
open Go.RowKit

def isC : Operand → Bool
  | .const _ => true
  | _ => false

def ibits (op : BinOp) (k : IntKind) (a b : Int) : Int :=
  let x := BitVec.ofInt k.bits a
  let y := BitVec.ofInt k.bits b
  match op with
  | .and => k.wrap (x &&& y).toNat
  | .or => k.wrap (x ||| y).toNat
  | .xor => k.wrap (x ^^^ y).toNat
  | _ => k.wrap (x &&& ~~~y).toNat

def ibin (op : BinOp) (k : IntKind) (a b : Int) : Option Value :=
  match op with
  | .add => some (.int k (k.wrap (a + b)))
  | .sub => some (.int k (k.wrap (a - b)))
  | .mul => some (.int k (k.wrap (a * b)))
  | .quo => if b = 0 then none else some (.int k (k.wrap (a.tdiv b)))
  | .rem => if b = 0 then none else some (.int k (a.tmod b))
  | .and => some (.int k (ibits .and k a b))
  | .or => some (.int k (ibits .or k a b))
  | .xor => some (.int k (ibits .xor k a b))
  | .andNot => some (.int k (ibits .andNot k a b))
  | .eql => some (.bool (a == b))
  | .neq => some (.bool (a != b))
  | .lss => some (.bool (decide (a < b)))
  | .leq => some (.bool (decide (a ≤ b)))
  | .gtr => some (.bool (decide (a > b)))
  | .geq => some (.bool (decide (a ≥ b)))
  | _ => none
def ishl (k : IntKind) (a b : Int) : Int := k.wrap (a * 2 ^ (min b.toNat k.bits))
def ishr (k : IntKind) (a b : Int) : Int := a.fdiv (2 ^ (min b.toNat k.bits))

def sbin (op : BinOp) (a b : ByteArray) : Option Value :=
  match op with
  | .add => if a.size + b.size ≤ 9223372036854775807 then some (.string (a ++ b)) else none
  | .eql => some (.bool (a == b))
  | .neq => some (.bool (!(a == b)))
  | .lss => some (.bool (Op.bytesLess a.toList b.toList))
  | .leq => some (.bool (Op.bytesLess a.toList b.toList || a == b))
  | .gtr => some (.bool (!(Op.bytesLess a.toList b.toList || a == b)))
  | .geq => some (.bool (!(Op.bytesLess a.toList b.toList)))
  | _ => none

def apart (P : Program) (t : TypeId) (cs : Array Value) (off : Nat) : Option Value :=
  match tagg P t with
  | some true => (tsz P t).map fun n => .agg (cs.extract off (off + n))
  | some false => cs[off]?
  | none => none
def intsOf (k : IntKind) : List Value → Option (List Int)
  | [] => some []
  | .int k' i :: r => if k' = k then (intsOf k r).map (i :: ·) else none
  | _ => none

/-- '==' of values that hold no reference. -/
def aeqFields (eq : TypeId → Value → Value → Option Bool) (P : Program) (xs ys : Array Value) : List Field → Option Bool
  | [] => some true
  | f :: fs =>
    if f.name ≠ "_" then
      match apart P f.type xs f.offset, apart P f.type ys f.offset with
      | some a, some b =>
        match eq f.type a b with
        | some true => aeqFields eq P xs ys fs
        | some false => some false
        | none => none
      | _, _ => none
    else aeqFields eq P xs ys fs
def aeqIn (P : Program) : Nat → TypeId → Value → Value → Option Bool
  | 0, _, _, _ => none
  | d + 1, t, x, y =>
    match P.underlying t, x, y with
    | some .bool, .bool a, .bool b => some (a == b)
    | some (.int _), .int k a, .int k' b => if k = k' then some (a == b) else none
    | some .string, .string a, .string b => some (a == b)
    | some (.struct fs), .agg xs, .agg ys => if P.stoodInHeld t then none else aeqFields (aeqIn P d) P xs ys fs.toList
    | some (.array n e), .agg xs, .agg ys =>
      match P.underlying e, tsz P e with
      | some (.int k), some 1 =>
        if xs.size = n ∧ ys.size = n ∧ d ≠ 0 then
          match intsOf k xs.toList, intsOf k ys.toList with
          | some a, some b => some (a == b)
          | _, _ => none
        else none
      | _, _ => none
    | _, _, _ => none

def abin (P : Program) (op : BinOp) (t : TypeId) (xo yo : Operand) (x y : Value) : Option Value :=
  match x, y with
  | .int k a, .int k' b =>
    match op with
    | .shl => if b < 0 then none else some (.int k (ishl k a b))
    | .shr => if b < 0 then none else some (.int k (ishr k a b))
    | op => if k = k' then ibin op k a b else none
  | .string a, .string b => sbin op a b
  | .bool a, .bool b =>
    match P.underlying t, op with
    | some .bool, .eql => some (.bool (a == b))
    | some .bool, .neq => some (.bool (!(a == b)))
    | _, _ => none
  | .pointer p, .pointer none =>
    match P.underlying t, op with
    | some (.pointer _), .eql => some (.bool p.isNone)
    | some (.pointer _), .neq => some (.bool (!p.isNone))
    | _, _ => none
  | .slice p _ _, .slice none _ _ =>
    match P.underlying t, op with
    | some (.slice _), .eql => some (.bool p.isNone)
    | some (.slice _), .neq => some (.bool (!p.isNone))
    | _, _ => none
  | .iface _ _, .nilIface =>
    match P.underlying t, op with
    | some (.interface _), .eql => some (.bool false)
    | some (.interface _), .neq => some (.bool true)
    | _, _ => none
  | .nilIface, .nilIface =>
    match P.underlying t, op, isC xo || isC yo with
    | some (.interface _), .eql, true => some (.bool true)
    | some (.interface _), .neq, true => some (.bool false)
    | _, _, _ => none
  | .func _ _ _, .nilFunc =>
    match P.underlying t, op with
    | some (.func _ _ _), .eql => some (.bool false)
    | some (.func _ _ _), .neq => some (.bool true)
    | _, _ => none
  | .nilFunc, .nilFunc =>
    match P.underlying t, op with
    | some (.func _ _ _), .eql => some (.bool true)
    | some (.func _ _ _), .neq => some (.bool false)
    | _, _ => none
  | .agg xs, .agg ys =>
    if P.eqGuardType P.depth t then none else
    match op with
    | .eql => (aeqIn P 5 t (.agg xs) (.agg ys)).map .bool
    | .neq => (aeqIn P 5 t (.agg xs) (.agg ys)).map fun b => .bool (!b)
    | _ => none
  | _, _ => none

section
variable {P : Program} {φ : Nat → Option Loc} {n : Nat} {w : World}

theorem ibin_sound {op : BinOp} {t : TypeId} {k : IntKind} {a b : Int} {v : Value} (e : ibin op k a b = some v) (h1 : op ≠ .shl) (h2 : op ≠ .shr) : (binOp op t (.int k a) (.int k b)).run P w = .ok v w := by
  unfold ibin at e
  split at e
  all_goals first
    | (cases e; done)
    | (cases e; rfl)
    | (cases e; simp [binOp, Op.intArith]; done)
    | (cases e; simp [binOp, Op.intBits, ibits]; done)
    | (cases e; simp [binOp, Op.intCmp]; done)
    | (split at e; · cases e
       cases e
       rename_i hb
       simp [binOp, Op.intDiv, hb]; done)
theorem sbin_sound {op : BinOp} {t : TypeId} {a b : ByteArray} {v : Value} (e : sbin op a b = some v) : (binOp op t (.string a) (.string b)).run P w = .ok v w := by
  unfold sbin at e
  have hmax : (IntKind.i64.max : Int) = 9223372036854775807 := by decide
  split at e
  all_goals first
    | (cases e; done)
    | (cases e; simp [binOp, Op.stringOp, beq_toListBytes]; done)
    | (split at e
       · cases e
         simp only [binOp, Op.stringOp, hmax]
         rw [if_neg (by omega)]; rfl
       · cases e)

theorem apart_sound {t : TypeId} {cs : Array Value} {off : Nat} {v : Value} (e : apart P t cs off = some v) : (part t cs off).run P w = .ok v w := by
  unfold apart at e
  split at e
  · rename_i h
    simp only [Option.map_eq_some_iff] at e
    obtain ⟨m, hm, rfl⟩ := e
    simp only [part, Sem.run_bind, run_tagg h, Result.andThen_ok, if_true, run_tsz hm, Sem.run_pure]
  · rename_i h
    simp only [part, Sem.run_bind, run_tagg h, Result.andThen_ok, Bool.false_eq_true, if_false, e, Sem.run_pure]
  · cases e

theorem aeqFields_sound {d : Nat} {eq : TypeId → Value → Value → Option Bool} (heq : ∀ t x y r, eq t x y = some r → (Op.equalIn d t x y).run P w = .ok r w) {xs ys : Array Value} : ∀ {fs : List Field} {r : Bool}, aeqFields eq P xs ys fs = some r →
    (Op.eqFields d xs ys fs).run P w = .ok r w
  | [], r, e => by cases e; rfl
  | f :: fs, r, e => by
    unfold aeqFields at e
    unfold Op.eqFields
    split at e
    · rename_i hf
      rw [if_pos hf]
      split at e
      · rename_i a b ha hb
        simp only [Sem.run_bind, apart_sound ha, apart_sound hb, Result.andThen_ok]
        split at e
        · rename_i hr; rw [heq _ _ _ _ hr]; simp only [Result.andThen_ok, Bool.not_true, Bool.false_eq_true, if_false]; exact aeqFields_sound heq e
        · rename_i hr; cases e; rw [heq _ _ _ _ hr]; rfl
        · cases e
      · cases e
    · rename_i hf
      rw [if_neg hf]; exact aeqFields_sound heq e

end
end Go.Fw

/-! '==' and the operators of two operands. -/
namespace Go.Fw
open Go.RowKit
section
variable {P : Program} {φ : Nat → Option Loc} {n : Nat} {w : World}

def eqElems (d : Nat) (e sz : Nat) (xs ys : Array Value) : List Nat → Sem Bool
  | [] => pure true
  | i :: is => do
    let a ← part e xs (i * sz)
    let b ← part e ys (i * sz)
    let r ← Op.equalIn d e a b
    if (!r) = true then pure false else eqElems d e sz xs ys is

theorem run_equalIn_array (d : Nat) (t e len sz : Nat) (xs ys : Array Value) (ht : P.underlying t = some (.array len e)) (hz : tsz P e = some sz) :
    (Op.equalIn (d + 1) t (.agg xs) (.agg ys)).run P w = (eqElems d e sz xs ys (List.range' 0 len)).run P w := by
  simp only [Op.equalIn, Sem.run_bind, run_und ht, Result.andThen_ok, run_tsz hz, Std.Legacy.Range.forIn_eq_forIn_range', Std.Legacy.Range.size, Nat.sub_zero, Nat.add_sub_cancel, Nat.div_one]
  generalize List.range' 0 len = fs
  induction fs generalizing w with
  | nil => simp [eqElems]
  | cons f fs ih =>
    simp only [List.forIn_cons, eqElems, Sem.run_bind, Sem.run_ite]
    generalize (part e xs (f * sz)).run P w = r1
    cases r1 with
    | ok a w1 =>
      simp only [Result.andThen_ok]
      generalize (part e ys (f * sz)).run P w1 = r2
      cases r2 with
      | ok b w2 =>
        simp only [Result.andThen_ok]
        generalize (Op.equalIn d e a b).run P w2 = r3
        cases r3 with
        | ok r w3 =>
          cases r
          · simp only [Result.andThen_ok, Bool.not_false, if_true, Sem.run_pure]
          · simp only [Result.andThen_ok, Bool.not_true, Bool.false_eq_true, if_false, Sem.run_pure]
            exact ih
        | halt x w3 => simp [Result.andThen]
      | halt x w2 => simp [Result.andThen]
    | halt x w1 => simp [Result.andThen]

theorem intsOf_at {k : IntKind} : ∀ {l : List Value} {a : List Int}, intsOf k l = some a → l = a.map (.int k)
  | [], a, h => by cases h; rfl
  | .int k' i :: r, a, h => by
    simp only [intsOf] at h
    split at h
    · rename_i hk
      simp only [Option.map_eq_some_iff] at h
      obtain ⟨b, hb, rfl⟩ := h
      rw [intsOf_at hb, hk]; rfl
    · cases h
  | .bool _ :: r, a, h => by cases h
  | .float _ _ :: r, a, h => by cases h
  | .complex _ _ _ :: r, a, h => by cases h
  | .string _ :: r, a, h => by cases h
  | .pointer _ :: r, a, h => by cases h
  | .slice _ _ _ :: r, a, h => by cases h
  | .map _ :: r, a, h => by cases h
  | .chan _ :: r, a, h => by cases h
  | .func _ _ _ :: r, a, h => by cases h
  | .nilFunc :: r, a, h => by cases h
  | .iface _ _ :: r, a, h => by cases h
  | .nilIface :: r, a, h => by cases h
  | .agg _ :: r, a, h => by cases h
  | .tuple _ :: r, a, h => by cases h
theorem intsOf_map (k : IntKind) : ∀ a : List Int, intsOf k (a.map (.int k)) = some a
  | [] => rfl
  | i :: r => by simp [intsOf, intsOf_map k r]

theorem eqElems_ints {d e : Nat} {k : IntKind} (he : P.underlying e = some (.int k)) (xs ys : Array Value) (a b : List Int) (hx : xs.toList = a.map (.int k)) (hy : ys.toList = b.map (.int k)) :
    ∀ (m i : Nat), i + m = a.length → i + m = b.length → (eqElems (d + 1) e 1 xs ys (List.range' i m)).run P w = .ok (a.drop i == b.drop i) w
  | 0, i, h1, h2 => by
    rw [List.drop_of_length_le (by omega), List.drop_of_length_le (by omega)]; rfl
  | m + 1, i, h1, h2 => by
    have hp : ∀ (zs : Array Value) (c : List Int), zs.toList = c.map (.int k) → i < c.length → (part e zs (i * 1)).run P w = .ok (.int k (c.getD i 0)) w := by
      intro zs c hz hi
      refine apart_sound ?_
      have : tagg P e = some false := by simp [tagg, he]
      simp only [apart, this, Nat.mul_one]
      rw [← Array.getElem?_toList, hz]
      simp [List.getD_eq_getElem?_getD, List.getElem?_eq_getElem hi]
    simp only [List.range'_succ, eqElems, Sem.run_bind, hp xs a hx (by omega), hp ys b hy (by omega), Result.andThen_ok, run_equalIn_int w d e k k _ _ he]
    rw [List.drop_eq_getElem_cons (show i < a.length by omega), List.drop_eq_getElem_cons (show i < b.length by omega)]
    have g1 : a.getD i 0 = a[i]'(by omega) := by simp [List.getD_eq_getElem?_getD, List.getElem?_eq_getElem (show i < a.length by omega)]
    have g2 : b.getD i 0 = b[i]'(by omega) := by simp [List.getD_eq_getElem?_getD, List.getElem?_eq_getElem (show i < b.length by omega)]
    rw [g1, g2]
    by_cases hq : a[i]'(by omega) = b[i]'(by omega)
    · simp only [hq, BEq.rfl, Bool.not_true, Bool.false_eq_true, if_false]
      rw [eqElems_ints he xs ys a b hx hy m (i + 1) (by omega) (by omega), List.cons_beq_cons]
      simp only [BEq.rfl, Bool.true_and]
    · have : (a[i]'(by omega) == b[i]'(by omega)) = false := beq_eq_false_iff_ne.2 hq
      simp only [this, Bool.not_false, if_true, Sem.run_pure]
      rw [List.cons_beq_cons, this, Bool.false_and]

theorem aeqIn_sound : ∀ {d : Nat} {t : TypeId} {x y : Value} {r : Bool} (j : Nat), aeqIn P d t x y = some r → (Op.equalIn (d + j) t x y).run P w = .ok r w
  | 0, t, x, y, r, j, e => by cases e
  | d + 1, t, x, y, r, j, e => by
    rw [show d + 1 + j = (d + j) + 1 by omega]
    unfold aeqIn at e
    split at e
    · rename_i a b h; cases e; exact run_equalIn_bool w _ _ _ _ h
    · rename_i k' k a k2 b h
      split at e
      · rename_i hk; subst hk; cases e; exact run_equalIn_int w _ _ _ _ _ _ h
      · cases e
    · rename_i a b h; cases e; rw [run_equalIn_string w _ _ _ _ h, beq_toListBytes]
    · rename_i fs xs ys h
      split at e
      · cases e
      · rename_i hh
        have hf : P.fieldsOf t = fs := by simp [Program.fieldsOf, h]
        rw [run_equalIn_struct w _ t xs ys (by rw [hf]; exact h) (by simpa using hh), hf]
        exact aeqFields_sound (fun t x y r q => aeqIn_sound j q) e
    · rename_i len e0 xs ys h
      split at e
      · rename_i k he hz
        split at e
        · rename_i hc
          obtain ⟨h1, h2, h3⟩ := hc
          split at e
          · rename_i a b ha hb
            cases e
            have hx := intsOf_at ha
            have hy := intsOf_at hb
            have l1 : a.length = len := by have := congrArg List.length hx; simp at this; omega
            have l2 : b.length = len := by have := congrArg List.length hy; simp at this; omega
            obtain ⟨d', rfl⟩ : ∃ d', d = d' + 1 := ⟨d - 1, by omega⟩
            rw [run_equalIn_array _ t e0 len 1 xs ys h hz, show d' + 1 + j = (d' + j) + 1 by omega, eqElems_ints he xs ys a b hx hy len 0 (by omega) (by omega)]
            simp
          · cases e
        · cases e
      · cases e
    · cases e

/-- What is compared by 'aeqIn' holds no reference (in what is told). -/
theorem aeqIn_plain : ∀ {d : Nat} {t : TypeId} {x y cx cy : Value} {r : Bool}, aeqIn P d t x y = some r → VR φ n x cx → VR φ n y cy → aeqIn P d t cx cy = some r
  | 0, t, x, y, cx, cy, r, e, _, _ => by cases e
  | d + 1, t, x, y, cx, cy, r, e, hx, hy => by
    have e' := e
    unfold aeqIn at e
    split at e
    · obtain rfl := hx.bool_inv; obtain rfl := hy.bool_inv; exact e'
    · obtain rfl := hx.int_inv; obtain rfl := hy.int_inv; exact e'
    · obtain rfl := hx.string_inv; obtain rfl := hy.string_inv; exact e'
    · rename_i fs xs ys h
      obtain ⟨xs', rfl, hx1, hx2⟩ := hx.agg_inv
      obtain ⟨ys', rfl, hy1, hy2⟩ := hy.agg_inv
      unfold aeqIn
      simp only [h]
      split at e
      · cases e
      · rename_i hh
        rw [if_neg hh]
        have hpart : ∀ (t : TypeId) (zs zs' : Array Value) (off : Nat) (v : Value), CR φ n zs zs' → apart P t zs off = some v → ∃ v', apart P t zs' off = some v' ∧ VR φ n v v' := by
          intro t zs zs' off v hc hv
          unfold apart at hv ⊢
          split at hv
          · rename_i ht
            simp only [Option.map_eq_some_iff] at hv
            obtain ⟨m, hm, rfl⟩ := hv
            have := hc.extract off (off + m)
            exact ⟨.agg (zs'.extract off (off + m)), by simp [hm], .agg _ _ this.1 this.2⟩
          · rename_i ht
            obtain ⟨v', hv', q⟩ := hc.at off v hv
            exact ⟨v', by simpa using hv', q⟩
          · cases hv
        have key : ∀ (fs : List Field) (r : Bool), aeqFields (aeqIn P d) P xs ys fs = some r → aeqFields (aeqIn P d) P xs' ys' fs = some r := by
          intro fs
          induction fs with
          | nil => intro r h; exact h
          | cons f fs ih =>
            intro r h
            unfold aeqFields at h ⊢
            split at h
            · rename_i hf
              rw [if_pos hf]
              split at h
              · rename_i a b ha hb
                obtain ⟨a', ha', qa⟩ := hpart _ _ _ _ _ ⟨hx1, hx2⟩ ha
                obtain ⟨b', hb', qb⟩ := hpart _ _ _ _ _ ⟨hy1, hy2⟩ hb
                simp only [ha', hb']
                split at h
                · rename_i hr; rw [aeqIn_plain hr qa qb]; exact ih r h
                · rename_i hr; rw [aeqIn_plain hr qa qb]; exact h
                · cases h
              · cases h
            · rename_i hf
              rw [if_neg hf]; exact ih r h
        exact key _ r e
    · rename_i len e0 xs ys h
      split at e
      · rename_i k he hz
        split at e
        · split at e
          · rename_i a b ha hb
            have p1 : plainV (.agg xs) = true := by
              simp only [plainV, ← Array.all_toList, intsOf_at ha]; simp [plain1]
            have p2 : plainV (.agg ys) = true := by
              simp only [plainV, ← Array.all_toList, intsOf_at hb]; simp [plain1]
            rw [hx.plain_eq p1, hy.plain_eq p2]; exact e'
          · cases e
        · cases e
      · cases e
    · cases e

theorem equal_run {t : TypeId} {x y : Value} {r : Bool} (h : (Op.equalIn (9999 + 1) t x y).run P w = .ok r w) : (Op.equal t x y).run P w = .ok r w := h
theorem eql_run {t : TypeId} {x y : Value} {r : Bool} (hs : binOp .eql t x y = (do pure (.bool (← Op.equal t x y)))) (h : (Op.equal t x y).run P w = .ok r w) : (binOp .eql t x y).run P w = .ok (.bool r) w := by
  rw [hs]; simp only [Sem.run_bind, h, Result.andThen_ok, Sem.run_pure]
theorem neq_run {t : TypeId} {x y : Value} {r : Bool} (hs : binOp .neq t x y = (do pure (.bool (!(← Op.equal t x y))))) (h : (Op.equal t x y).run P w = .ok r w) : (binOp .neq t x y).run P w = .ok (.bool (!r)) w := by
  rw [hs]; simp only [Sem.run_bind, h, Result.andThen_ok, Sem.run_pure]
theorem equalIn_ptr (j : Nat) {t el : TypeId} (h : P.underlying t = some (.pointer el)) (p : Option Addr) : (Op.equalIn (j + 1) t (.pointer p) (.pointer none)).run P w = .ok p.isNone w := by
  cases p <;> simp only [Op.equalIn, Sem.run_bind, run_und h, Result.andThen_ok] <;> rfl
theorem equal_ptr {t el : TypeId} (h : P.underlying t = some (.pointer el)) (p : Option Addr) : (Op.equal t (.pointer p) (.pointer none)).run P w = .ok p.isNone w := equal_run (equalIn_ptr 9999 h p)
theorem equalIn_slice (j : Nat) {t el : TypeId} (h : P.underlying t = some (.slice el)) (p : Option Addr) (a b c d : Nat) : (Op.equalIn (j + 1) t (.slice p a b) (.slice none c d)).run P w = .ok p.isNone w := by
  cases p <;> simp only [Op.equalIn, Sem.run_bind, run_und h, Result.andThen_ok] <;> rfl
theorem equal_slice {t el : TypeId} (h : P.underlying t = some (.slice el)) (p : Option Addr) (a b c d : Nat) : (Op.equal t (.slice p a b) (.slice none c d)).run P w = .ok p.isNone w := equal_run (equalIn_slice 9999 h p a b c d)
theorem equalIn_iface (j : Nat) {t : TypeId} {ms : Array (String × TypeId)} (h : P.underlying t = some (.interface ms)) (d : TypeId) (v : Value) : (Op.equalIn (j + 1) t (.iface d v) .nilIface).run P w = .ok false w := by
  simp only [Op.equalIn, Sem.run_bind, run_und h, Result.andThen_ok]; rfl
theorem equal_iface {t : TypeId} {ms : Array (String × TypeId)} (h : P.underlying t = some (.interface ms)) (d : TypeId) (v : Value) : (Op.equal t (.iface d v) .nilIface).run P w = .ok false w := equal_run (equalIn_iface 9999 h d v)
theorem equalIn_niface (j : Nat) {t : TypeId} {ms : Array (String × TypeId)} (h : P.underlying t = some (.interface ms)) : (Op.equalIn (j + 1) t .nilIface .nilIface).run P w = .ok true w := by
  simp only [Op.equalIn, Sem.run_bind, run_und h, Result.andThen_ok]; rfl
theorem equal_niface {t : TypeId} {ms : Array (String × TypeId)} (h : P.underlying t = some (.interface ms)) : (Op.equal t .nilIface .nilIface).run P w = .ok true w := equal_run (equalIn_niface 9999 h )
theorem equalIn_func (j : Nat) {t : TypeId} {a b : Array TypeId} {c : Bool} (h : P.underlying t = some (.func a b c)) (fn : Fn) (x y : Array Value) : (Op.equalIn (j + 1) t (.func fn x y) .nilFunc).run P w = .ok false w := by
  simp only [Op.equalIn, Sem.run_bind, run_und h, Result.andThen_ok]; rfl
theorem equal_func {t : TypeId} {a b : Array TypeId} {c : Bool} (h : P.underlying t = some (.func a b c)) (fn : Fn) (x y : Array Value) : (Op.equal t (.func fn x y) .nilFunc).run P w = .ok false w := equal_run (equalIn_func 9999 h fn x y)
theorem equalIn_nfunc (j : Nat) {t : TypeId} {a b : Array TypeId} {c : Bool} (h : P.underlying t = some (.func a b c)) : (Op.equalIn (j + 1) t .nilFunc .nilFunc).run P w = .ok true w := by
  simp only [Op.equalIn, Sem.run_bind, run_und h, Result.andThen_ok]; rfl
theorem equal_nfunc {t : TypeId} {a b : Array TypeId} {c : Bool} (h : P.underlying t = some (.func a b c)) : (Op.equal t .nilFunc .nilFunc).run P w = .ok true w := equal_run (equalIn_nfunc 9999 h )
theorem equal_bool {t : TypeId} (h : P.underlying t = some .bool) (a b : Bool) : (Op.equal t (.bool a) (.bool b)).run P w = .ok (a == b) w := equal_run (run_equalIn_bool w 9999 t a b h)

theorem abin_sound {op : BinOp} {t : TypeId} {xo yo xo' yo' : Operand} {x y cx cy v : Value} (hc : isC xo = isC xo') (hc' : isC yo = isC yo') (e : abin P op t xo yo x y = some v) (hx : VR φ n x cx) (hy : VR φ n y cy) :
    (do eqGuard op t xo' yo' cx cy; binOp op t cx cy).run P w = .ok v w ∧ VR φ n v v := by
  have vb : ∀ b, VR φ n (.bool b) (.bool b) := fun b => .bool b
  unfold abin at e
  split at e
  · rename_i k a k' b
    obtain rfl := hx.int_inv
    obtain rfl := hy.int_inv
    rw [eqGuard_at_int]
    simp only [pure_bind]
    split at e
    · split at e
      · cases e
      · rename_i hb
        cases e
        exact ⟨by simp [binOp, Op.shift, hb, ishl], .int _ _⟩
    · split at e
      · cases e
      · rename_i hb
        cases e
        exact ⟨by simp [binOp, Op.shift, hb, ishr], .int _ _⟩
    · rename_i h1 h2
      split at e
      · rename_i hk
        subst hk
        refine ⟨ibin_sound e h1 h2, ?_⟩
        unfold ibin at e
        split at e
        all_goals first
          | (cases e; done)
          | (cases e; exact .int _ _)
          | (cases e; exact .bool _)
          | (split at e; · cases e
             cases e; exact .int _ _)
      · cases e
  · rename_i a b
    obtain rfl := hx.string_inv
    obtain rfl := hy.string_inv
    rw [eqGuard_at_string]
    simp only [pure_bind]
    refine ⟨sbin_sound e, ?_⟩
    unfold sbin at e
    split at e
    all_goals first
      | (cases e; done)
      | (cases e; exact .bool _)
      | (split at e
         · cases e; exact .string _
         · cases e)
  · rename_i a b
    obtain rfl := hx.bool_inv
    obtain rfl := hy.bool_inv
    rw [eqGuard_at_bool]
    simp only [pure_bind]
    split at e
    · rename_i h; cases e
      exact ⟨eql_run rfl (equal_bool h a b), .bool _⟩
    · rename_i h; cases e
      exact ⟨neq_run rfl (equal_bool h a b), .bool _⟩
    · cases e
  · rename_i p
    obtain rfl := hy.ptr0_inv
    obtain ⟨p', rfl, hp⟩ : ∃ p', cx = .pointer p' ∧ p'.isNone = p.isNone := by
      cases p with
      | none => exact ⟨none, hx.ptr0_inv, rfl⟩
      | some a => obtain ⟨b, off, sp⟩ := a; obtain ⟨ca, rfl, _⟩ := hx.ptr_inv; exact ⟨some ca, rfl, rfl⟩
    rw [eqGuard_at_pointer]
    simp only [pure_bind]
    split at e
    · rename_i h; cases e
      exact ⟨hp ▸ eql_run rfl (equal_ptr h p'), .bool _⟩
    · rename_i h; cases e
      exact ⟨hp ▸ neq_run rfl (equal_ptr h p'), .bool _⟩
    · cases e
  · rename_i p _ _ _ _
    obtain ⟨c0, c1, rfl⟩ : ∃ l c, cy = .slice none l c := by
      rcases hy.slice_inv with ⟨_, _, _, e⟩ | ⟨b, off, sp, ca, ccap, e, _⟩
      · exact ⟨_, _, e⟩
      · cases e
    obtain ⟨p', l', c', rfl, hp⟩ : ∃ p' l' c', cx = .slice p' l' c' ∧ p'.isNone = p.isNone := by
      rcases hx.slice_inv with ⟨rfl, _, _, e⟩ | ⟨b, off, sp, ca, ccap, rfl, e, _⟩
      · exact ⟨none, 0, 0, e, rfl⟩
      · exact ⟨_, _, _, e, rfl⟩
    rw [eqGuard_at_slice]
    simp only [pure_bind]
    split at e
    · rename_i h; cases e
      exact ⟨hp ▸ eql_run rfl (equal_slice h p' _ _ _ _), .bool _⟩
    · rename_i h; cases e
      exact ⟨hp ▸ neq_run rfl (equal_slice h p' _ _ _ _), .bool _⟩
    · cases e
  · obtain ⟨v', rfl, _⟩ := hx.iface_inv
    obtain rfl := hy.nilIface_inv
    rw [eqGuard_at_iface]
    simp only [pure_bind]
    split at e
    · rename_i h; cases e
      exact ⟨eql_run rfl (equal_iface h _ _), .bool _⟩
    · rename_i h; cases e
      exact ⟨neq_run rfl (equal_iface h _ _), .bool _⟩
    · cases e
  · obtain rfl := hx.nilIface_inv
    obtain rfl := hy.nilIface_inv
    have hg : (isC xo || isC yo) = true → eqGuard op t xo' yo' .nilIface .nilIface = pure () := by
      intro h
      rw [hc, hc'] at h
      cases xo' <;> cases yo' <;> simp [isC] at h <;> cases op <;> rfl
    split at e
    · rename_i h hk; cases e
      rw [hg hk]
      simp only [pure_bind]
      exact ⟨eql_run rfl (equal_niface h), .bool _⟩
    · rename_i h hk; cases e
      rw [hg hk]
      simp only [pure_bind]
      exact ⟨neq_run rfl (equal_niface h), .bool _⟩
    · cases e
  · rename_i fn f c
    obtain rfl := hy.nilFunc_inv
    obtain ⟨fn', f', c', rfl⟩ : ∃ fn' f' c', cx = .func fn' f' c' := by cases hx <;> exact ⟨_, _, _, rfl⟩
    rw [eqGuard_at_func]
    simp only [pure_bind]
    split at e
    · rename_i h; cases e
      exact ⟨eql_run rfl (equal_func h _ _ _), .bool _⟩
    · rename_i h; cases e
      exact ⟨neq_run rfl (equal_func h _ _ _), .bool _⟩
    · cases e
  · obtain rfl := hx.nilFunc_inv
    obtain rfl := hy.nilFunc_inv
    rw [eqGuard_at_nilFunc]
    simp only [pure_bind]
    split at e
    · rename_i h; cases e
      exact ⟨eql_run rfl (equal_nfunc h), .bool _⟩
    · rename_i h; cases e
      exact ⟨neq_run rfl (equal_nfunc h), .bool _⟩
    · cases e
  · rename_i xs ys
    obtain ⟨xs', rfl, hx'⟩ := hx.agg_inv
    obtain ⟨ys', rfl, hy'⟩ := hy.agg_inv
    split at e
    · cases e
    · rename_i hg
      simp only [Sem.run_bind]
      rw [run_eqGuard_agg w op t xo' yo' xs' ys' (by simpa using hg)]
      simp only [Result.andThen_ok]
      split at e
      · simp only [Option.map_eq_some_iff] at e
        obtain ⟨r, hr, rfl⟩ := e
        refine ⟨?_, .bool _⟩
        rw [run_eql_struct, show (10000 : Nat) = 5 + 9995 from rfl, aeqIn_sound 9995 (aeqIn_plain hr hx hy)]; rfl
      · simp only [Option.map_eq_some_iff] at e
        obtain ⟨r, hr, rfl⟩ := e
        refine ⟨?_, .bool _⟩
        rw [run_neq_struct, show (10000 : Nat) = 5 + 9995 from rfl, aeqIn_sound 9995 (aeqIn_plain hr hx hy)]; rfl
      · cases e
  · cases e
end
end Go.Fw

/-! Other operations without memory of their own: shapes, parts, places; conversions. -/
set_option linter.unusedSimpArgs false
set_option linter.unusedVariables false
namespace Go.Fw
open Go.RowKit

def aun (op : UnOp) : Value → Option Value
  | .int k i => match op with | .neg => some (.int k (k.wrap (0 - i))) | .xor => some (.int k (ibits .xor k (if k.signed then -1 else k.max) i)) | _ => none
  | .bool b => match op with | .not => some (.bool (!b)) | _ => none
  | _ => none

/-- One bound: at least 0, at most y. -/
def abound1 (y : Nat) : Value → Option Nat
  | .int _ i => if 0 ≤ i ∧ i ≤ y then some i.toNat else none
  | _ => none
/-- The bounds of a slice: low, high, most, as places. -/
def abounds (len cap : Nat) (lo hi mx : Option Value) : Option (Nat × Nat × Nat) :=
  (match mx with | none => some cap | some v => abound1 cap v).bind fun m =>
    (match hi with | none => (if mx.isSome then none else some len) | some v => abound1 m v).bind fun h =>
      (match lo with | none => some 0 | some v => abound1 h v).map fun l => (l, h, m)
def asliceS (s : ByteArray) (lo hi : Option Value) : Option Value := (abounds s.size s.size lo hi none).map fun (l, h, _) => .string (s.extract l h)
def asliceL (sz : Nat) (a : Option Addr) (len cap : Nat) (lo hi mx : Option Value) : Option Value :=
  match abounds len cap lo hi mx with
  | none => none
  | some (l, h, m) =>
    match a with
    | none => some (.slice none (h - l) (m - l))
    | some ⟨b, off, sp⟩ =>
      match sp, mx.isSome with
      | none, _ | some 0, false => some (.slice (some ⟨b, off + l * sz, sp⟩) (h - l) (m - l))
      | some (k + 1), false => if k + 1 = sz then some (.slice (some ⟨b, off + l * sz, sp⟩) (h - l) (m - l)) else none
      | _, true => some (.slice (some ⟨b, off + l * sz, none⟩) (h - l) (m - l))
def aslice (P : Program) (t : TypeId) (x : Value) (lo hi mx : Option Value) : Option Value :=
  match P.underlying t, x with
  | some .string, .string s => if mx.isSome then none else asliceS s lo hi
  | some (.slice e), .slice a len cap => (tsz P e).bind fun sz => asliceL sz a len cap lo hi mx
  | some (.array n e), .pointer (some ⟨b, off, none⟩) => (tsz P e).bind fun sz => asliceL sz (some ⟨b, off, none⟩) n n lo hi mx
  | _, _ => none

def afieldAddr (P : Program) (s : TypeId) (x : Value) (f : Nat) : Option Value :=
  match P.underlying s, x with
  | some (.struct fs), .pointer (some ⟨b, off, none⟩) =>
    match fs[f]? with
    | some fd => match tsz P fd.type with | some (_ + 1) => some (.pointer (some ⟨b, off + fd.offset, none⟩)) | _ => none
    | none => none
  | _, _ => none
def afield (P : Program) (s : TypeId) (x : Value) (f : Nat) : Option Value :=
  match P.underlying s, x with
  | some (.struct fs), .agg cs => match fs[f]? with | some fd => apart P fd.type cs fd.offset | none => none
  | _, _ => none
def aindexAddr (P : Program) (t : TypeId) (x i : Value) : Option Value :=
  match P.underlying t, x, i with
  | some (.array n e), .pointer (some ⟨b, off, none⟩), .int _ j => if 0 ≤ j ∧ j < n then (tsz P e).map fun sz => .pointer (some ⟨b, off + j.toNat * sz, none⟩) else none
  | some (.slice e), .slice (some ⟨b, off, _⟩) len _, .int _ j => if 0 ≤ j ∧ j < len then (tsz P e).map fun sz => .pointer (some ⟨b, off + j.toNat * sz, none⟩) else none
  | _, _, _ => none
/-- A byte of a string. -/
def sbt (s : ByteArray) (i : Nat) : Int := if h : i < s.size then ((s[i]'h).toNat : Int) else 0
def aindex (P : Program) (t : TypeId) (x i : Value) : Option Value :=
  match P.underlying t, x, i with
  | some (.array n e), .agg cs, .int _ j => if 0 ≤ j ∧ j < n then (tsz P e).bind fun sz => apart P e cs (j.toNat * sz) else none
  | some .string, .string s, .int _ j => if 0 ≤ j ∧ j < s.size then some (.int .u8 (sbt s j.toNat)) else none
  | _, _, _ => none
def aextract (x : Value) (i : Nat) : Option Value := match x with | .tuple vs => vs[i]? | _ => none
def aassert (P : Program) (x : Value) (t : TypeId) (ok : Bool) : Option Value :=
  match P.underlying t, x with
  | some (.interface _), _ => none
  | some _, .nilIface => if ok then (tzero P t).map fun z => .tuple #[z, .bool false] else none
  | some _, .iface u v => if u = t then some (if ok then .tuple #[v, .bool true] else v) else if ok then (tzero P t).map fun z => .tuple #[z, .bool false] else none
  | _, _ => none
def amkIface (P : Program) (t : TypeId) (x : Value) : Option Value :=
  match P.underlying t with
  | some (.interface _) | none => none
  | _ => some (.iface t x)
def alen (P : Program) (t : TypeId) (x : Value) : Option Value :=
  match P.underlying t, x with
  | some .string, .string s => some (.int .i64 s.size)
  | some (.array n _), _ => some (.int .i64 n)
  | some (.slice _), .slice _ n _ => some (.int .i64 n)
  | some (.map _ _), .map none => some (.int .i64 0)
  | _, _ => none
def amax2 (mx : Bool) : Value → Value → Option Value
  | .int k x, .int _ y => some (.int k (if mx then (if y > x then y else x) else (if y < x then y else x)))
  | _, _ => none
def amm (mx : Bool) : List Value → Option Value
  | .int k a :: r => r.foldlM (amax2 mx) (.int k a)
  | _ => none
section
variable {P : Program} {φ : Nat → Option Loc} {n : Nat} {w : World}

theorem aun_sound {op : UnOp} {x cx v : Value} (e : aun op x = some v) (hx : VR φ n x cx) : (Op.unary op cx).run P w = .ok v w ∧ VR φ n v v := by
  unfold aun at e
  split at e
  · obtain rfl := hx.int_inv
    split at e
    · cases e; exact ⟨rfl, .int _ _⟩
    · cases e; exact ⟨rfl, .int _ _⟩
    · cases e
  · obtain rfl := hx.bool_inv
    split at e
    · cases e; exact ⟨rfl, .bool _⟩
    · cases e
  · cases e

/-- How an operand that may be absent stands to the machine's. -/
inductive OR (φ : Nat → Option Loc) (n : Nat) : Option Value → Option Value → Prop
  | none : OR φ n none none
  | some {x y : Value} (h : VR φ n x y) : OR φ n (some x) (some y)

theorem abound1_sound {y y' : Nat} {v v' : Value} {l : Nat} {c : BoundsCode} (e : abound1 y v = some l) (hv : VR φ n v v') (hy : y ≤ y') : (Instr.sliceBound v' y' c).run P w = .ok l w ∧ l ≤ y := by
  unfold abound1 at e
  split at e
  · obtain rfl := hv.int_inv
    split at e
    · cases e
      refine ⟨?_, by omega⟩
      simp only [Instr.sliceBound, asIntOf, pure_bind, Sem.run_ite, Sem.run_pure]
      rw [if_pos (by omega)]
    · cases e
  · cases e

theorem abounds_sound {len cap ccap : Nat} {lo hi mx lo' hi' mx' : Option Value} {l h m : Nat} (e : abounds len cap lo hi mx = some (l, h, m)) (hlo : OR φ n lo lo') (hhi : OR φ n hi hi') (hmx : OR φ n mx mx') (hcap : cap ≤ ccap) (b : Bool) :
    (Instr.sliceBounds b len ccap lo' hi' mx').run P w = .ok (l, h, if mx.isSome then m else ccap) w ∧ l ≤ h ∧ (h ≤ m ∨ (hi = none ∧ h = len)) ∧ m ≤ cap ∧ (mx = none → m = cap) := by
  unfold abounds at e
  simp only [Option.bind_eq_some_iff, Option.map_eq_some_iff] at e
  obtain ⟨m0, e1, h0, e2, l0, e3, e4⟩ := e
  cases e4
  cases hmx with
  | none =>
    cases e1
    cases hhi with
    | none =>
      simp only [Option.isSome_none, Bool.false_eq_true, if_false, Option.some.injEq] at e2
      subst e2
      cases hlo with
      | none => cases e3; exact ⟨rfl, by omega, .inr ⟨rfl, rfl⟩, Nat.le_refl _, fun _ => rfl⟩
      | some q3 =>
        obtain ⟨r3, i3⟩ := abound1_sound (P := P) (w := w) (c := .sliceB) e3 q3 (Nat.le_refl _)
        exact ⟨by simp only [Instr.sliceBounds, pure_bind, Option.isSome_none, Bool.false_eq_true, if_false, Sem.run_bind, r3, Result.andThen_ok, Sem.run_pure], i3, .inr ⟨rfl, rfl⟩, Nat.le_refl _, fun _ => rfl⟩
    | some q2 =>
      obtain ⟨r2, i2⟩ := abound1_sound (P := P) (w := w) (c := if b then .sliceAcap else .sliceAlen) e2 q2 hcap
      cases hlo with
      | none => cases e3; exact ⟨by simp only [Instr.sliceBounds, pure_bind, Option.isSome_none, Bool.false_eq_true, if_false, Sem.run_bind, r2, Result.andThen_ok, Sem.run_pure], by omega, .inl i2, Nat.le_refl _, fun _ => rfl⟩
      | some q3 =>
        obtain ⟨r3, i3⟩ := abound1_sound (P := P) (w := w) (c := .sliceB) e3 q3 (Nat.le_refl _)
        exact ⟨by simp only [Instr.sliceBounds, pure_bind, Option.isSome_none, Bool.false_eq_true, if_false, Sem.run_bind, r2, r3, Result.andThen_ok, Sem.run_pure], i3, .inl i2, Nat.le_refl _, fun _ => rfl⟩
  | some q1 =>
    obtain ⟨r1, i1⟩ := abound1_sound (P := P) (w := w) (c := if b then .slice3Acap else .slice3Alen) e1 q1 hcap
    cases hhi with
    | none => simp at e2
    | some q2 =>
      obtain ⟨r2, i2⟩ := abound1_sound (P := P) (w := w) (c := .slice3B) e2 q2 (Nat.le_refl _)
      cases hlo with
      | none => cases e3; exact ⟨by simp only [Instr.sliceBounds, pure_bind, Option.isSome_some, if_true, Sem.run_bind, r1, r2, Result.andThen_ok, Sem.run_pure], by omega, .inl i2, i1, by simp⟩
      | some q3 =>
        obtain ⟨r3, i3⟩ := abound1_sound (P := P) (w := w) (c := .slice3C) e3 q3 (Nat.le_refl _)
        exact ⟨by simp only [Instr.sliceBounds, pure_bind, Option.isSome_some, if_true, Sem.run_bind, r1, r2, r3, Result.andThen_ok, Sem.run_pure], i3, .inl i2, i1, by simp⟩
end
end Go.Fw

/-! That the machine's operations without memory of their own do what is told. -/
set_option linter.unusedSimpArgs false
set_option linter.unusedVariables false
namespace Go.Fw
open Go.RowKit
section
variable {P : Program} {φ : Nat → Option Loc} {n : Nat} {w : World}

theorem asliceS_sound {s : ByteArray} {lo hi lo' hi' : Option Value} {v : Value} {t : TypeId} (ht : P.underlying t = some .string) (e : asliceS s lo hi = some v) (hlo : OR φ n lo lo') (hhi : OR φ n hi hi') :
    (Instr.sliceAt t (.string s) lo' hi' none).run P w = .ok v w ∧ VR φ n v v := by
  unfold asliceS at e
  simp only [Option.map_eq_some_iff, Prod.exists] at e
  obtain ⟨l, h, m, e1, rfl⟩ := e
  obtain ⟨hr, _⟩ := abounds_sound (P := P) (w := w) e1 hlo hhi OR.none (Nat.le_refl _) false
  refine ⟨?_, .string _⟩
  simp only [Instr.sliceAt, Instr.slice, Sem.run_bind, run_und ht, Result.andThen_ok, Option.isSome_none, Bool.false_eq_true, if_false, hr, Sem.run_pure, pure_bind]

theorem asliceL_sound {sz : Nat} {a : Option Addr} {len cap : Nat} {x : Value} {lo hi mx lo' hi' mx' : Option Value} {v : Value} (e : asliceL sz a len cap lo hi mx = some v) (hx : VR φ n (.slice a len cap) x) (hlo : OR φ n lo lo') (hhi : OR φ n hi hi') (hmx : OR φ n mx mx') :
    ∃ a' ccap l h m v', x = .slice a' len ccap ∧ (∀ b, (Instr.sliceBounds b len ccap lo' hi' mx').run P w = .ok (l, h, m) w) ∧
      v' = .slice (if m = l then a' else a'.map (·.add (l * sz))) (h - l) (m - l) ∧ VR φ n v v' := by
  unfold asliceL at e
  split at e
  · cases e
  · rename_i l h m e1
    rcases hx.slice_inv with ⟨rfl, rfl, rfl, rfl⟩ | ⟨b, off, sp, ca, ccap, rfl, rfl, hb, hle, hcc, hloc⟩
    · have hb := fun c => abounds_sound (P := P) (w := w) e1 hlo hhi hmx (Nat.le_refl _) c
      obtain ⟨_, h1, h2, h3, h4⟩ := hb true
      cases e
      refine ⟨none, 0, l, h, _, _, rfl, fun c => (hb c).1, rfl, ?_⟩
      have hm : m = 0 := by omega
      have hl : l = 0 := by omega
      have hh : h = 0 := by rcases h2 with h2 | ⟨_, h2⟩ <;> omega
      subst hm hl hh
      simp only [ite_self, Option.map_none, Nat.sub_self]
      exact .slice0
    · have hb' := fun c => abounds_sound (P := P) (w := w) e1 hlo hhi hmx hcc c
      obtain ⟨_, h1, h2, h3, h4⟩ := hb' true
      have hhm : h ≤ m := by
        rcases h2 with h2 | ⟨h5, h6⟩
        · exact h2
        · cases hmx with
          | none => have := h4 rfl; omega
          | some q => subst h5; cases hhi; unfold abounds at e1; simp at e1
      refine ⟨some ca, ccap, l, h, _, _, rfl, fun c => (hb' c).1, rfl, ?_⟩
      -- what the new slice is, in either way
      have key : ∀ (sp' : Option Nat) (mm : Nat), l ≤ mm → m ≤ mm → (∀ lc, φ b = some lc → ca = ⟨lc.block, lc.base + off, none⟩ → mm ≠ l → capOk sp' (m - l) (mm - l) (off + l * sz) lc) → (mm = ccap ∨ ccap ≠ 0 ∨ mm = 0) → m ≤ cap → (cap = 0 → ccap = 0 → mm = 0) →
          VR φ n (.slice (some ⟨b, off + l * sz, sp'⟩) (h - l) (m - l)) (.slice (if mm = l then some ca else (some ca).map (·.add (l * sz))) (h - l) (mm - l)) := by
        intro sp' mm hlm hmm hcap _ hmc hz
        by_cases hq : mm = l
        · rw [if_pos hq]
          exact .slice b _ sp' _ _ ca _ hb (by omega) (by omega) fun lc _ => .inr ⟨by omega, by omega⟩
        · rw [if_neg hq]
          refine .slice b _ sp' _ _ _ _ hb (by omega) (by omega) fun lc hlc => ?_
          rcases hloc lc hlc with ⟨rfl, _⟩ | ⟨c1, c2⟩
          · left
            refine ⟨?_, hcap lc hlc rfl hq⟩
            show (⟨lc.block, lc.base + off, none⟩ : Addr).add (l * sz) = _
            rw [Addr.add_lit, Nat.add_assoc]
          · have := hz c1 c2; exact absurd (show mm = l by omega) hq
      have hsize : ∀ lc, φ b = some lc → ca = ⟨lc.block, lc.base + off, none⟩ → ccap ≠ l → capOk sp cap ccap off lc := by
        intro lc hlc hca hne
        rcases hloc lc hlc with ⟨_, hc⟩ | ⟨c1, c2⟩
        · exact hc
        · exact absurd (show ccap = l by omega) hne
      cases hmx with
      | none =>
        have hm := h4 rfl
        simp only [Option.isSome_none, Bool.false_eq_true, if_false] at e ⊢
        cases sp with
        | none =>
          cases e
          refine key none ccap (by omega) (by omega) (fun lc hlc hca hne => ?_) (.inl rfl) h3 (fun _ c => c)
          have := hsize lc hlc hca hne
          simp only [capOk] at this ⊢
          omega
        | some k =>
          cases k with
          | zero =>
            cases e
            exact key (some 0) ccap (by omega) (by omega) (fun lc hlc hca hne => by simp [capOk]) (.inl rfl) h3 (fun _ c => c)
          | succ k =>
            simp only at e
            split at e
            · rename_i hk
              cases e
              refine key (some (k + 1)) ccap (by omega) (by omega) (fun lc hlc hca hne => ?_) (.inl rfl) h3 (fun _ c => c)
              have := hsize lc hlc hca hne
              simp only [capOk] at this ⊢
              rw [← this, hk]
              have h9 : l + (ccap - l) = ccap := by omega
              calc lc.base + (off + l * sz) + (ccap - l) * sz = lc.base + off + (l + (ccap - l)) * sz := by rw [Nat.add_mul]; omega
                _ = lc.base + off + ccap * sz := by rw [h9]
            · cases e
      | some q =>
        simp only [Option.isSome_some, if_true] at e ⊢
        have e2 : v = .slice (some ⟨b, off + l * sz, none⟩) (h - l) (m - l) := by
          cases sp with
          | none => cases e; rfl
          | some k => cases k <;> (cases e; rfl)
        subst e2
        exact key none m (by omega) (Nat.le_refl _) (fun lc hlc hca hne => by simp [capOk]) (by omega) h3 (fun c _ => by omega)

theorem aslice_sound {t : TypeId} {x cx : Value} {lo hi mx lo' hi' mx' : Option Value} {v : Value} (e : aslice P t x lo hi mx = some v) (hx : VR φ n x cx) (hlo : OR φ n lo lo') (hhi : OR φ n hi hi') (hmx : OR φ n mx mx') :
    ∃ v', (Instr.sliceAt t cx lo' hi' mx').run P w = .ok v' w ∧ VR φ n v v' := by
  unfold aslice at e
  split at e
  · rename_i s ht
    obtain rfl := hx.string_inv
    split at e
    · cases e
    · rename_i hm
      cases hmx with
      | none =>
        obtain ⟨h1, h2⟩ := asliceS_sound (P := P) (w := w) ht e hlo hhi
        exact ⟨v, h1, h2⟩
      | some q => simp at hm
  · rename_i el a len cap ht
    simp only [Option.bind_eq_some_iff] at e
    obtain ⟨sz, hz, e⟩ := e
    obtain ⟨a', ccap, l, h, m, v', rfl, hb, rfl, hv⟩ := asliceL_sound (P := P) (w := w) e hx hlo hhi hmx
    refine ⟨_, ?_, hv⟩
    simp only [Instr.sliceAt, Instr.slice, Sem.run_bind, run_und ht, Result.andThen_ok, hb true, run_tsz hz, Sem.run_pure]
  · rename_i k el b off ht
    simp only [Option.bind_eq_some_iff] at e
    obtain ⟨sz, hz, e⟩ := e
    obtain ⟨ca, rfl, hb, _, hloc⟩ := hx.ptr_inv
    have hx' : VR φ n (.slice (some ⟨b, off, none⟩) k k) (.slice (some ca) k k) := .slice b off none k k ca k hb (Nat.le_refl _) (Nat.le_refl _) fun l hl => .inl ⟨hloc l hl, rfl⟩
    obtain ⟨a', ccap, l, h, m, v', e1, hb, rfl, hv⟩ := asliceL_sound (P := P) (w := w) e hx' hlo hhi hmx
    cases e1
    refine ⟨_, ?_, hv⟩
    simp only [Instr.sliceAt, Instr.sureAddr, Sem.run_bind, run_und ht, Result.andThen_ok, hb false, run_tsz hz, Sem.run_pure, pure_bind]
    split <;> rfl
  · cases e

theorem afieldAddr_sound {s : TypeId} {x cx : Value} {f : Nat} {v : Value} (e : afieldAddr P s x f = some v) (hx : VR φ n x cx) : ∃ v', (Instr.fieldAt s cx f).run P w = .ok v' w ∧ VR φ n v v' := by
  unfold afieldAddr at e
  split at e
  · rename_i fs b off ht
    obtain ⟨ca, rfl, hb, _, hloc⟩ := hx.ptr_inv
    split at e
    · rename_i fd hfd
      split at e
      · rename_i k hz
        cases e
        refine ⟨.pointer (some (ca.add fd.offset)), ?_, .ptr _ _ _ hb fun l hl => by rw [hloc l hl, Addr.add_lit, Nat.add_assoc]⟩
        simp only [Instr.fieldAt, Instr.sureAddr, fieldPlace, Sem.run_bind, run_und ht, hfd, Result.andThen_ok, Sem.run_pure, pure_bind, run_tsz hz, Sem.run_ite]
        rw [if_neg (Nat.succ_ne_zero k)]; rfl
      · cases e
    · cases e
  · cases e
theorem afield_sound {s : TypeId} {x cx : Value} {f : Nat} {v : Value} (e : afield P s x f = some v) (hx : VR φ n x cx) : ∃ v', (Instr.field s cx f).run P w = .ok v' w ∧ VR φ n v v' := by
  unfold afield at e
  split at e
  · rename_i fs cs ht
    obtain ⟨cs', rfl, hc⟩ := hx.agg_inv
    split at e
    · rename_i fd hfd
      obtain ⟨v', hv', hr⟩ : ∃ v', apart P fd.type cs' fd.offset = some v' ∧ VR φ n v v' := by
        unfold apart at e ⊢
        split at e
        · simp only [Option.map_eq_some_iff] at e
          obtain ⟨m, hm, rfl⟩ := e
          have := CR.extract hc fd.offset (fd.offset + m)
          exact ⟨_, by rw [hm]; rfl, .agg _ _ this.1 this.2⟩
        · exact CR.at hc _ _ e
        · cases e
      refine ⟨v', ?_, hr⟩
      simp only [Instr.field, asAgg, Sem.run_bind, run_und ht, hfd, Result.andThen_ok, Sem.run_pure, pure_bind]
      exact apart_sound hv'
    · cases e
  · cases e
theorem apart_rel {t : TypeId} {cs cs' : Array Value} {off : Nat} {v : Value} (hc : CR φ n cs cs') (e : apart P t cs off = some v) : ∃ v', apart P t cs' off = some v' ∧ VR φ n v v' := by
  unfold apart at e ⊢
  split at e
  · simp only [Option.map_eq_some_iff] at e
    obtain ⟨m, hm, rfl⟩ := e
    have := CR.extract hc off (off + m)
    exact ⟨_, by rw [hm]; rfl, .agg _ _ this.1 this.2⟩
  · exact CR.at hc _ _ e
  · cases e

theorem aindexAddr_sound {t : TypeId} {x cx i ci : Value} {v : Value} (e : aindexAddr P t x i = some v) (hx : VR φ n x cx) (hi : VR φ n i ci) : ∃ v', (Instr.indexAt t cx ci).run P w = .ok v' w ∧ VR φ n v v' := by
  unfold aindexAddr at e
  split at e
  · rename_i len el b off k j ht
    obtain ⟨ca, rfl, hb, _, hloc⟩ := hx.ptr_inv
    obtain rfl := hi.int_inv
    split at e
    · rename_i hj
      simp only [Option.map_eq_some_iff] at e
      obtain ⟨sz, hz, rfl⟩ := e
      refine ⟨.pointer (some (ca.add (j.toNat * sz))), ?_, .ptr _ _ _ hb fun l hl => by rw [hloc l hl, Addr.add_lit, Nat.add_assoc]⟩
      simp only [Instr.indexAt, asIntOf, Instr.sureAddr, Sem.run_bind, run_und ht, Result.andThen_ok, Sem.run_pure, pure_bind, Sem.run_ite]
      rw [if_pos hj]
      simp only [Sem.run_bind, run_tsz hz, Result.andThen_ok, Sem.run_pure]
    · cases e
  · rename_i el b off sp len cap k j ht
    rcases hx.slice_inv with ⟨h0, _⟩ | ⟨b', off', sp', ca, ccap, h0, rfl, hb, hle, hcc, hloc⟩
    · cases h0
    · cases h0
      obtain rfl := hi.int_inv
      split at e
      · rename_i hj
        simp only [Option.map_eq_some_iff] at e
        obtain ⟨sz, hz, rfl⟩ := e
        refine ⟨.pointer (some (ca.add (j.toNat * sz))), ?_, .ptr _ _ _ hb fun l hl => ?_⟩
        · simp only [Instr.indexAt, asIntOf, Instr.sureAddr, Sem.run_bind, run_und ht, Result.andThen_ok, Sem.run_pure, pure_bind, Sem.run_ite]
          rw [if_pos hj]
          simp only [Sem.run_bind, run_tsz hz, Result.andThen_ok, Sem.run_pure]
        · rcases hloc l hl with ⟨rfl, _⟩ | ⟨c1, _⟩
          · rw [Addr.add_lit, Nat.add_assoc]
          · omega
      · cases e
  · cases e

theorem aindex_sound {t : TypeId} {x cx i ci : Value} {v : Value} (e : aindex P t x i = some v) (hx : VR φ n x cx) (hi : VR φ n i ci) : ∃ v', (Instr.index t cx ci).run P w = .ok v' w ∧ VR φ n v v' := by
  unfold aindex at e
  split at e
  · rename_i len el cs k j ht
    obtain ⟨cs', rfl, hc⟩ := hx.agg_inv
    obtain rfl := hi.int_inv
    split at e
    · rename_i hj
      simp only [Option.bind_eq_some_iff] at e
      obtain ⟨sz, hz, e⟩ := e
      obtain ⟨v', hv', hr⟩ := apart_rel hc e
      refine ⟨v', ?_, hr⟩
      simp only [Instr.index, asIntOf, Sem.run_bind, run_und ht, Result.andThen_ok, Sem.run_pure, pure_bind, Sem.run_ite]
      rw [if_pos hj]
      simp only [Sem.run_bind, run_tsz hz, Result.andThen_ok, Sem.run_pure]
      exact apart_sound hv'
    · cases e
  · rename_i s k j ht
    obtain rfl := hx.string_inv
    obtain rfl := hi.int_inv
    split at e
    · rename_i hj
      cases e
      refine ⟨_, ?_, .int _ _⟩
      have hlt : j.toNat < s.size := by omega
      have hs : s[j.toNat]? = some (s[j.toNat]'hlt) := getElem?_pos s _ hlt
      simp only [Instr.index, asIntOf, Sem.run_bind, run_und ht, Result.andThen_ok, Sem.run_pure, pure_bind, hj.1, if_true, hs, sbt, dif_pos hlt]
    · cases e
  · cases e
theorem aextract_sound {x cx : Value} {i : Nat} {v : Value} (e : aextract x i = some v) (hx : VR φ n x cx) : ∃ v', (Instr.extract cx i).run P w = .ok v' w ∧ VR φ n v v' := by
  unfold aextract at e
  split at e
  · obtain ⟨cs', rfl, hc⟩ := hx.tuple_inv
    obtain ⟨v', hv', hr⟩ := CR.at hc _ _ e
    exact ⟨v', by simp only [Instr.extract, hv', Sem.run_pure], hr⟩
  · cases e
theorem amkIface_sound {t : TypeId} {x cx : Value} {v : Value} (e : amkIface P t x = some v) (hx : VR φ n x cx) : ∃ v', (Instr.makeInterface t cx).run P w = .ok v' w ∧ VR φ n v v' := by
  unfold amkIface at e
  split at e
  · cases e
  · cases e
  · rename_i h1 h2
    cases e
    refine ⟨.iface t cx, ?_, .iface _ _ _ hx⟩
    cases hu : P.underlying t with
    | none => exact absurd hu h2
    | some d =>
      simp only [Instr.makeInterface, Sem.run_bind, run_und hu, Result.andThen_ok]
      cases d <;> first | rfl | (exact absurd hu (h1 _))
theorem aassert_sound {x cx : Value} {t xt : TypeId} {ok : Bool} {v : Value} (e : aassert P x t ok = some v) (hx : VR φ n x cx) : ∃ v', (Instr.typeAssert cx xt t ok).run P w = .ok v' w ∧ VR φ n v v' := by
  have tup : ∀ (a b : Value) (c : Bool), VR φ n a b → VR φ n (.tuple #[a, .bool c]) (.tuple #[b, .bool c]) := fun a b c h => by
    have := (CR.one h).push (VR.bool (φ := φ) (n := n) c)
    exact .tuple _ _ this.1 this.2
  unfold aassert at e
  split at e
  · cases e
  · rename_i d h1 hd
    obtain rfl := hx.nilIface_inv
    split at e
    · rename_i hok
      subst hok
      simp only [Option.map_eq_some_iff] at e
      obtain ⟨z, hz, rfl⟩ := e
      obtain ⟨hr, hp⟩ := run_tzero (P := P) (w := w) hz
      refine ⟨.tuple #[z, .bool false], ?_, tup _ _ _ (VR.plain hp)⟩
      simp only [Instr.typeAssert, Sem.run_bind, run_und hd, Result.andThen_ok]
      cases d <;> first | (exact absurd hd (h1 _)) | (simp only [if_true, Sem.run_bind, hr, Result.andThen_ok, Sem.run_pure])
    · cases e
  · rename_i d u y h1 hd
    obtain ⟨y', rfl, hy⟩ := hx.iface_inv
    split at e
    · rename_i hu
      subst hu
      cases e
      cases ok with
      | true =>
        refine ⟨.tuple #[y', .bool true], ?_, tup _ _ _ hy⟩
        simp only [Instr.typeAssert, Sem.run_bind, run_und hd, Result.andThen_ok]
        cases d <;> first | (exact absurd hd (h1 _)) | (simp only [if_true, Sem.run_pure])
      | false =>
        refine ⟨y', ?_, hy⟩
        simp only [Instr.typeAssert, Sem.run_bind, run_und hd, Result.andThen_ok]
        cases d <;> first | (exact absurd hd (h1 _)) | (simp only [if_true, Sem.run_pure]; rfl)
    · rename_i hu
      split at e
      · rename_i hok
        subst hok
        simp only [Option.map_eq_some_iff] at e
        obtain ⟨z, hz, rfl⟩ := e
        obtain ⟨hr, hp⟩ := run_tzero (P := P) (w := w) hz
        refine ⟨.tuple #[z, .bool false], ?_, tup _ _ _ (VR.plain hp)⟩
        simp only [Instr.typeAssert, Sem.run_bind, run_und hd, Result.andThen_ok]
        cases d <;> first | (exact absurd hd (h1 _)) | (simp only [if_neg hu, if_true, Sem.run_bind, hr, Result.andThen_ok, Sem.run_pure])
      · cases e
  · cases e
end
end Go.Fw

/-! Operations that make memory: parts put together, new slices, bytes of a text, append, copy. -/
set_option linter.unusedSimpArgs false
set_option linter.unusedVariables false
namespace Go.Fw
open Go.RowKit

/-- Parts laid into cells. -/
def afill (place : Nat → Option (Nat × Nat)) (cells : List Value) : List (Nat × Value) → Option (List Value)
  | [] => some cells
  | (i, v) :: rest =>
    match place i with
    | none => none
    | some (off, size) => if v.cells.size = size ∧ off + size ≤ cells.length then afill place (setList cells off v.cells.toList) rest else none
def aplace (P : Program) (fs : Array Field) (i : Nat) : Option (Nat × Nat) := (fs[i]?).bind fun f => (tsz P f.type).map fun s => (f.offset, s)
def abuild (P : Program) (t : TypeId) (parts : Array (Nat × Value)) : Option Value :=
  match P.underlying t, tzero P t with
  | some (.struct fs), some z => if fs.all (fun f => (tsz P f.type).isSome) then (afill (aplace P fs) z.cells.toList parts.toList).map fun cs => .agg cs.toArray else none
  | some (.array _ e), some z => (tsz P e).bind fun sz => (afill (fun i => some (i * sz, sz)) z.cells.toList parts.toList).map fun cs => .agg cs.toArray
  | _, _ => none
/-- So many cells of a zero value. -/
def zeros (z : Value) (n : Nat) : List Value := (List.range n).map fun i => z.cells[i % z.cells.size]!

section
variable {P : Program} {φ : Nat → Option Loc} {n : Nat} {w : World}

theorem CR.setList {cs : List Value} {cs' : Array Value} (h : CR φ n cs.toArray cs') : ∀ (vs vs' : List Value) (off k : Nat), vs.length = vs'.length → (∀ (j : Nat) (v v' : Value), vs[j]? = some v → vs'[j]? = some v' → VR φ n v v') →
    CR φ n (Fw.setList cs (off + k) vs).toArray ((vs'.zipIdx k).foldl (fun cs (c, j) => cs.setIfInBounds (off + j) c) cs') := by
  intro vs
  induction vs generalizing cs cs' with
  | nil =>
    intro vs' off k hl _
    obtain rfl : vs' = [] := List.eq_nil_of_length_eq_zero (by simpa using hl.symm)
    exact h
  | cons v r ih =>
    intro vs' off k hl hv
    match vs', hl with
    | v' :: r', hl =>
      simp only [List.zipIdx_cons, List.foldl_cons]
      have h1 : CR φ n (cs.set (off + k) v).toArray (cs'.setIfInBounds (off + k) v') := by
        have := h.set (hv 0 v v' rfl rfl) (off + k)
        simpa using this
      exact ih h1 r' off (k + 1) (by simpa using hl) fun j x x' a b => hv (j + 1) x x' (by simpa using a) (by simpa using b)

theorem fill_sound {place : Nat → Option (Nat × Nat)} : ∀ {parts parts' : List (Nat × Value)} {cs r : List Value} {cs' : Array Value}, afill place cs parts = some r → CR φ n cs.toArray cs' →
    parts.length = parts'.length → (∀ (j : Nat) (x x' : Nat × Value), parts[j]? = some x → parts'[j]? = some x' → x'.1 = x.1 ∧ VR φ n x.2 x'.2) → ∃ r', Instr.fill place cs' parts' = some r' ∧ CR φ n r.toArray r'
  | [], parts', cs, r, cs', e, h, hl, _ => by
    obtain rfl : parts' = [] := List.eq_nil_of_length_eq_zero (by simpa using hl.symm)
    cases e; exact ⟨cs', rfl, h⟩
  | (i, v) :: rest, parts', cs, r, cs', e, h, hl, hp => by
    match parts', hl with
    | (i', v') :: rest', hl =>
      obtain ⟨h1, h2⟩ := hp 0 (i, v) (i', v') rfl rfl
      simp only at h1 h2
      subst h1
      unfold afill at e
      unfold Instr.fill
      split at e
      · cases e
      · rename_i off size hpl
        simp only [hpl]
        split at e
        · rename_i hc
          obtain ⟨hc1, hc2⟩ := hc
          have hcr := CR.of_cells h2
          have hs := h.1
          simp only [List.size_toArray] at hs
          have hn : (v'.cells.size ≠ size || decide (off + v'.cells.size > cs'.size)) = false := by
            have := hcr.1
            simp; omega
          simp only [hn, Bool.false_eq_true, if_false]
          have h3 := CR.setList h v.cells.toList v'.cells.toList off 0 (by simpa using hcr.1) (fun j x x' a b => hcr.2 j x x' (by simpa using a) (by simpa using b))
          have h4 : v'.cells.zipIdx.foldl (fun cs (c, j) => cs.setIfInBounds (off + j) c) cs' = (v'.cells.toList.zipIdx 0).foldl (fun cs (c, j) => cs.setIfInBounds (off + j) c) cs' := by
            rw [← Array.foldl_toList, Array.toList_zipIdx]
          rw [← h4] at h3
          exact fill_sound e h3 (by simpa using hl) fun j x x' a b => hp (j + 1) x x' (by simpa using a) (by simpa using b)
        · cases e
termination_by parts => parts.length

theorem places_run (fs : Array Field) (h : fs.all (fun f => (tsz P f.type).isSome) = true) : ∃ ps : Array (Nat × Nat), (fs.mapM (fun (f : Field) => do pure (f.offset, ← sizeOf f.type)) : Sem (Array (Nat × Nat))).run P w = .ok ps w ∧ ∀ i : Nat, ps[i]? = aplace P fs i := by
  obtain ⟨l⟩ := fs
  have key : ∀ l : List Field, (∀ f ∈ l, (tsz P f.type).isSome = true) → ∃ ps : List (Nat × Nat), (l.mapM (fun (f : Field) => do pure (f.offset, ← sizeOf f.type)) : Sem (List (Nat × Nat))).run P w = .ok ps w ∧ ∀ i : Nat, ps[i]? = (l[i]?).bind fun (f : Field) => (tsz P f.type).map fun s => (f.offset, s) := by
    intro l
    induction l with
    | nil => intro _; exact ⟨[], rfl, by simp⟩
    | cons f r ih =>
      intro hl
      obtain ⟨ps, h1, h2⟩ := ih fun f hf => hl f (List.mem_cons_of_mem _ hf)
      have hf := hl f (List.mem_cons_self ..)
      cases hz : tsz P f.type with
      | none => rw [hz] at hf; cases hf
      | some s =>
        refine ⟨(f.offset, s) :: ps, ?_, fun i => ?_⟩
        · simp only [List.mapM_cons, Sem.run_bind, run_tsz hz, Result.andThen_ok, Sem.run_pure, h1]
        · cases i with
          | zero => simp [hz]
          | succ i => simpa using h2 i
  simp only [List.all_toArray, List.all_eq_true] at h
  obtain ⟨ps, h1, h2⟩ := key l h
  refine ⟨ps.toArray, ?_, fun i => ?_⟩
  · rw [List.mapM_toArray]; simp only [Sem.run_map, h1, Result.andThen_ok]
  · simpa [aplace] using h2 i

theorem CR.plain {v : Value} (h : plainV v = true) : CR φ n v.cells v.cells := CR.of_cells (VR.plain h)

theorem abuild_sound {t : TypeId} {parts parts' : Array (Nat × Value)} {v : Value} (e : abuild P t parts = some v) (hl : parts.size = parts'.size)
    (hp : ∀ (j : Nat) (x x' : Nat × Value), parts[j]? = some x → parts'[j]? = some x' → x'.1 = x.1 ∧ VR φ n x.2 x'.2) : ∃ v', (Instr.build t parts').run P w = .ok v' w ∧ VR φ n v v' := by
  unfold abuild at e
  have hp' : ∀ (j : Nat) (x x' : Nat × Value), parts.toList[j]? = some x → parts'.toList[j]? = some x' → x'.1 = x.1 ∧ VR φ n x.2 x'.2 := fun j x x' a b => hp j x x' (by simpa using a) (by simpa using b)
  split at e
  · rename_i fs z ht hz
    split at e
    · rename_i hall
      simp only [Option.map_eq_some_iff] at e
      obtain ⟨cs, hf, rfl⟩ := e
      obtain ⟨hzr, hzp⟩ := run_tzero (P := P) (w := w) hz
      obtain ⟨ps, hps, hpl⟩ := places_run (P := P) (w := w) fs hall
      obtain ⟨r', hr, hc⟩ := fill_sound hf (by simpa using CR.plain (φ := φ) (n := n) hzp) (by simpa using hl) hp'
      have hfe : (fun i => ps[i]?) = aplace P fs := funext hpl
      refine ⟨.agg r', ?_, .agg _ _ hc.1 hc.2⟩
      simp only [Instr.build, Sem.run_bind, hzr, Result.andThen_ok, run_und ht, hps, hfe, hr, Sem.run_pure]
    · cases e
  · rename_i m el z ht hz
    simp only [Option.bind_eq_some_iff, Option.map_eq_some_iff] at e
    obtain ⟨sz, hsz, cs, hf, rfl⟩ := e
    obtain ⟨hzr, hzp⟩ := run_tzero (P := P) (w := w) hz
    obtain ⟨r', hr, hc⟩ := fill_sound hf (by simpa using CR.plain (φ := φ) (n := n) hzp) (by simpa using hl) hp'
    refine ⟨.agg r', ?_, .agg _ _ hc.1 hc.2⟩
    simp only [Instr.build, Sem.run_bind, hzr, Result.andThen_ok, run_und ht, run_tsz hsz, hr, Sem.run_pure]
  · cases e

theorem zeros_rel {z : Value} (h : plainV z = true) (k : Nat) (hk : 0 < z.cells.size) : CR φ n (zeros z k).toArray ((Array.range k).map (z.cells[· % z.cells.size]!)) := by
  have : (zeros z k).toArray = (Array.range k).map (z.cells[· % z.cells.size]!) := by
    apply Array.ext
    · simp [zeros]
    · intro i h1 h2; simp [zeros]
  rw [this]
  refine ⟨rfl, fun i v v' a b => ?_⟩
  rw [a] at b; cases b
  simp only [Array.getElem?_map, Option.map_eq_some_iff] at a
  obtain ⟨j, hj, rfl⟩ := a
  have hlt : j % z.cells.size < z.cells.size := Nat.mod_lt _ hk
  rw [getElem!_pos z.cells _ hlt]
  exact (CR.plain (φ := φ) (n := n) h).2 _ _ _ (Array.getElem?_eq_getElem hlt) (Array.getElem?_eq_getElem hlt)
theorem zeros_one (z : Value) (h : z.cells = #[z]) (k : Nat) : zeros z k = List.replicate k z := by
  unfold zeros
  rw [h]
  apply List.ext_getElem
  · simp
  · intro i h1 h2
    simp [Nat.mod_one]
end

def abuildSlice (P : Program) (A : St) (t : TypeId) (len : Nat) (parts : Array (Nat × Value)) : Option (Value × St) :=
  match telem P t with
  | none => none
  | some e =>
    match tsz P e, tzero P e with
    | some sz, some z =>
      if len * sz ≤ 16777216 ∧ 0 < z.cells.size then
        (afill (fun i => some (i * sz, sz)) (zeros z (len * sz)) parts.toList).map fun cs => (.slice (some ⟨A.next, 0, none⟩) len len, A.alloc (.cells cs e (some 0)))
      else none
    | _, _ => none
def amakeSlice (P : Program) (A : St) (t : TypeId) : Value → Value → Option (Value × St)
  | .int _ len, .int _ cap =>
    match telem P t with
    | none => none
    | some e =>
      match tsz P e, tbytes P e, tzero P e with
      | some sz, some bs, some z =>
        if 0 ≤ len ∧ len ≤ cap ∧ cap ≤ 9223372036854775807 ∧ (bs : Int) * cap ≤ 281474976710656 ∧ 0 < z.cells.size then
          some (.slice (some ⟨A.next, 0, none⟩) len.toNat cap.toNat, A.alloc (.cells (zeros z (cap.toNat * sz)) e (some 0)))
        else none
      | _, _, _ => none
  | _, _ => none
section
variable {P : Program} {w0 : World} {φ : Nat → Option Loc} {A : St} {w : World}
theorem telem_und {t e : TypeId} (h : telem P t = some e) : P.underlying t = some (.slice e) := by
  unfold telem at h
  split at h
  · rename_i h'
    split at h
    · cases h
    · cases h; exact h'
  · cases h

theorem telem_ne {t e : TypeId} (h : telem P t = some e) : e ≠ btype := by
  unfold telem at h
  split at h
  · split at h
    · cases h
    · rename_i h'; cases h; exact h'
  · cases h

theorem newSlice_rel {φ' : Nat → Option Loc} {nx len cap sz : Nat} {W : World} {C : Array Value} (hφ : φ' nx = some ⟨W.heap.size, 0, C.size⟩) (h : len ≤ cap) : VR φ' (nx + 1) (.slice (some ⟨nx, 0, none⟩) len cap) (.slice (some ⟨W.heap.size, 0, none⟩) len cap) :=
  .slice nx 0 none len cap _ cap (by omega) h (Nat.le_refl _) fun l hl => by rw [hφ] at hl; cases hl; exact .inl ⟨rfl, rfl⟩

theorem abuildSlice_sound (h : Sim w0 φ A w) {t : TypeId} {len : Nat} {parts parts' : Array (Nat × Value)} {v : Value} {A' : St} (e : abuildSlice P A t len parts = some (v, A')) (hl : parts.size = parts'.size)
    (hp : ∀ (j : Nat) (x x' : Nat × Value), parts[j]? = some x → parts'[j]? = some x' → x'.1 = x.1 ∧ VR φ A.next x.2 x'.2) :
    ∃ v' w' φ', (Instr.buildSlice t len parts').run P w = .ok v' w' ∧ VR φ' A'.next v v' ∧ Sim w0 φ' A' w' ∧ A.next ≤ A'.next ∧ Ext A.next φ φ' := by
  have hp' : ∀ (j : Nat) (x x' : Nat × Value), parts.toList[j]? = some x → parts'.toList[j]? = some x' → x'.1 = x.1 ∧ VR φ A.next x.2 x'.2 := fun j x x' a b => hp j x x' (by simpa using a) (by simpa using b)
  unfold abuildSlice at e
  split at e
  · cases e
  · rename_i el hel
    split at e
    · rename_i sz z hsz hz
      split at e
      · rename_i hc
        obtain ⟨hc1, hc2⟩ := hc
        simp only [Option.map_eq_some_iff, Prod.mk.injEq] at e
        obtain ⟨cs, hf, rfl, rfl⟩ := e
        obtain ⟨hzr, hzp⟩ := run_tzero (P := P) (w := w) hz
        obtain ⟨C, hr, hcr⟩ := fill_sound hf (zeros_rel hzp (len * sz) hc2) (by simpa using hl) hp'
        obtain ⟨φ', hs, he, hφ⟩ := h.newCells cs.toArray C el hcr
        refine ⟨.slice (some ⟨w.heap.size, 0, none⟩) len len, w.alloc (.cells C el), φ', ?_, newSlice_rel (sz := sz) hφ (Nat.le_refl _), by simpa using hs, by simp, he⟩
        simp only [Instr.buildSlice, Sem.run_bind, run_und (telem_und hel), Result.andThen_ok, run_tsz hsz, Sem.run_ite]
        rw [if_neg (by omega)]
        by_cases h0 : len * sz = 0
        · simp only [h0, if_true, Sem.run_pure, Result.andThen_ok, pure_bind]
          simp only [h0, Array.range_zero', List.map_toArray, List.map_nil] at hr
          have : (Array.range 0).map (fun x => (#[] : Array Value)[x % (#[] : Array Value).size]!) = #[] := by simp
          have hr' : Instr.fill (fun i => some (i * sz, sz)) #[] parts'.toList = some C := by simpa using hr
          simp only [this, hr', newRow, Sem.run_bind, run_newObj, Result.andThen_ok, Sem.run_pure, World.alloc_eq]
        · simp only [if_neg h0, Sem.run_bind, hzr, Result.andThen_ok, Sem.run_pure, pure_bind, hr, newRow, run_newObj, World.alloc_eq]
      · cases e
    · cases e

theorem wrap_small {i : Int} (h0 : 0 ≤ i) (h1 : i ≤ 9223372036854775807) : IntKind.i64.wrap i = i := by
  unfold IntKind.wrap
  have h2 : i % (2 ^ IntKind.i64.bits : Int) = i := Int.emod_eq_of_lt h0 (by simp only [IntKind.bits]; omega)
  simp only [h2]
  rw [if_neg]
  have h3 : ¬ (i ≥ (2 ^ (IntKind.i64.bits - 1) : Int)) := by
    have : (2 ^ (IntKind.i64.bits - 1) : Int) = 9223372036854775808 := by decide
    rw [this]; omega
  rw [decide_eq_false h3]; simp

theorem amakeSlice_sound (h : Sim w0 φ A w) {t : TypeId} {x y cx cy : Value} {v : Value} {A' : St} (e : amakeSlice P A t x y = some (v, A')) (hx : VR φ A.next x cx) (hy : VR φ A.next y cy) :
    ∃ v' w' φ', (Instr.makeSlice t cx cy).run P w = .ok v' w' ∧ VR φ' A'.next v v' ∧ Sim w0 φ' A' w' ∧ A.next ≤ A'.next ∧ Ext A.next φ φ' := by
  unfold amakeSlice at e
  split at e
  · rename_i k1 len k2 cap
    obtain rfl := hx.int_inv
    obtain rfl := hy.int_inv
    split at e
    · cases e
    · rename_i el hel
      split at e
      · rename_i sz bs z hsz hbs hz
        split at e
        · rename_i hc
          obtain ⟨c1, c2, c3, c4, c5⟩ := hc
          simp only [Option.some.injEq, Prod.mk.injEq] at e
          obtain ⟨rfl, rfl⟩ := e
          obtain ⟨hzr, hzp⟩ := run_tzero (P := P) (w := w) hz
          obtain ⟨ti, hti, rfl⟩ := run_tinfo (P := P) (w := w) hbs
          obtain ⟨φ', hs, he, hφ⟩ := h.newCells (zeros z (cap.toNat * sz)).toArray _ el (zeros_rel hzp (cap.toNat * sz) c5)
          refine ⟨.slice (some ⟨w.heap.size, 0, none⟩) len.toNat cap.toNat, _, φ', ?_, newSlice_rel (sz := sz) hφ (by omega), hs, by simp, he⟩
          have w1 := wrap_small c1 (by omega)
          have w2 := wrap_small (i := cap) (by omega) c3
          have ht1 : (decide (cap < 0) || decide ((ti.bytes : Int) * cap > 2 ^ 48)) = false := by simp; omega
          simp only [Instr.makeSlice, Sem.run_bind, run_und (telem_und hel), Result.andThen_ok, asInt, asIntOf, pure_bind, Sem.run_pure, hti, w1, w2, ht1]
          have ht2 : (false || decide (len < 0) || decide (len > cap)) = false := by simp; omega
          simp only [ht2, Bool.false_eq_true, if_false, Sem.run_bind, run_askRoom, Result.andThen_ok, run_tsz hsz, Sem.run_ite]
          by_cases h0 : cap.toNat * sz = 0
          · simp only [h0, if_true, Sem.run_pure, Result.andThen_ok, pure_bind, newRow, Sem.run_bind, run_newObj, World.alloc_eq]
            rw [show Array.range 0 = #[] from rfl]
            simp only [Array.map_empty]
          · simp only [if_neg h0, Sem.run_bind, hzr, Result.andThen_ok, Sem.run_pure, pure_bind, newRow, run_newObj, World.alloc_eq]
        · cases e
      · cases e
  · cases e
end
end Go.Fw

/-! append, copy; texts and bytes. -/
set_option linter.unusedSimpArgs false
set_option linter.unusedVariables false
namespace Go.Fw
open Go.RowKit

section
variable {P : Program} {w0 : World} {φ : Nat → Option Loc} {A : St} {w : World}

/-- Cells stored one behind the other, in a block that is known whole. -/
theorem storeCells_block {g o : Nat} {e : TypeId} {fr : Nat × Nat} : ∀ (vs : List Value) (i : Nat) (w : World) (C : Array Value), w.heap[g]? = some (.cells C e fr) → o + i + vs.length ≤ C.size → (∀ v ∈ vs, cell1 v = true) →
    (∀ j, o + i ≤ j → j < C.size → ¬ (fr.1 ≤ j ∧ j < fr.2)) →
    ∃ w' C', (storeCells ⟨g, o, none⟩ vs i).run P w = .ok () w' ∧ w'.heap[g]? = some (.cells C' e fr) ∧ C'.size = C.size ∧ (∀ j v, vs[j]? = some v → C'[o + i + j]? = some v) ∧ (∀ j, j < o + i → C'[j]? = C[j]?) ∧
      (∀ h, h ≠ g → w'.heap[h]? = w.heap[h]?) ∧ w'.heap.size = w.heap.size ∧ w'.os = w.os ∧ w'.tape = w.tape ∧ w'.output = w.output
  | [], i, w, C, hg, _, _, _ => ⟨w, C, rfl, hg, rfl, fun j v h => by simp at h, fun _ _ => rfl, fun _ _ => rfl, rfl, rfl, rfl, rfl⟩
  | v :: r, i, w, C, hg, hs, hv, hf => by
    simp only [List.length_cons] at hs
    have hlt : o + i < C.size := by omega
    obtain ⟨w', C', h1, h2, h3, h4, h5, h6, h7, h8, h9, h10⟩ := storeCells_block (g := g) (o := o) (e := e) (fr := fr) r (i + 1) (w.setCell ⟨g, o + i, none⟩ v) (C.setIfInBounds (o + i) v) (heap_setCell_same hg _ _) (by simp; omega) (fun x hx => hv x (List.mem_cons_of_mem _ hx)) (fun j a b => hf j (by omega) (by simpa using b))
    refine ⟨w', C', ?_, h2, by simpa using h3, fun j x hx => ?_, fun j hj => ?_, fun h hh => ?_, by simpa using h7, h8, h9, h10⟩
    · show (do _root_.Go.store ((⟨g, o, none⟩ : Addr).add i) v; storeCells ⟨g, o, none⟩ r (i + 1)).run P w = _
      rw [Addr.add_lit, Sem.run_bind, run_store_one (hv v (List.mem_cons_self ..)) (u := C[o + i]) (by rw [cell?_of hg]; exact Array.getElem?_eq_getElem hlt) (by rw [frozen?_of hg]; have := hf (o + i) (Nat.le_refl _) hlt; simp; omega)]
      exact h1
    · cases j with
      | zero =>
        simp only [List.getElem?_cons_zero, Option.some.injEq] at hx
        subst hx
        rw [Nat.add_zero, h5 (o + i) (by omega), Array.getElem?_setIfInBounds, if_pos rfl, if_pos hlt]
      | succ j =>
        have := h4 j x (by simpa using hx)
        rw [show o + i + (j + 1) = o + (i + 1) + j by omega]; exact this
    · rw [h5 j (by omega), Array.getElem?_setIfInBounds, if_neg (by omega)]
    · rw [h6 h hh, Below.heap_setCell _ _ _ _ hh]

theorem Below.of_same {B : Nat} {a w w' : World} (h : Below B a w) (hs : w'.heap.size = w.heap.size) (ho : w'.os = w.os) (ht : w'.tape = w.tape) (hu : w'.output = w.output) {g : Nat} (hg : B ≤ g) (hh : ∀ k, k ≠ g → w'.heap[k]? = w.heap[k]?) : Below B a w' :=
  ⟨ho.trans h.os, ht.trans h.tape, hu.trans h.output, by have := h.size; omega, fun k hk => (hh k (by omega)).trans (h.block k hk)⟩

/-- A block that nobody is to read again. -/
theorem Sim.kill (h : Sim w0 φ A w) (b : Nat) : Sim w0 (fun m => if m = b then none else φ m) (A.upd b none) w ∧ Ext A.next φ (fun m => if m = b then none else φ m) := by
  have he : Ext A.next φ (fun m => if m = b then none else φ m) := fun c _ => by
    by_cases hc : c = b
    · exact .inr (if_pos hc)
    · exact .inl (if_neg hc)
  refine ⟨⟨h.below, fun c B e => ?_, fun c e => ?_, fun c c' l l' hne e e' hl => ?_⟩, he⟩
  · rw [St.get_upd] at e
    by_cases hc : c = b
    · rw [if_pos hc] at e; cases e
    · rw [if_neg hc] at e
      obtain ⟨h1, l, h2, h3⟩ := h.blk c B e
      exact ⟨h1, l, by rw [if_neg hc]; exact h2, h3.mono rfl (Nat.le_refl _) he⟩
  · rw [St.get_upd] at e
    by_cases hc : c = b
    · exact if_pos hc
    · rw [if_neg hc] at e; rw [if_neg hc]; exact h.dead c e
  · by_cases hc : c = b
    · rw [if_pos hc] at e; cases e
    · rw [if_neg hc] at e
      by_cases hc' : c' = b
      · rw [if_pos hc'] at e'; cases e'
      · rw [if_neg hc'] at e'
        rw [St.get_upd, if_neg hc]; exact h.inj c c' l l' hne e e' hl

/-- A block whose place is taken by a new one, in the machine's same block. -/
theorem Sim.retire (h : Sim w0 φ A w) {b : Nat} {cs : List Value} {e : TypeId} {k : Nat} (hb : A.get b = some (.cells cs e (some k))) {l : Loc} (hl : φ b = some l) (off : Nat) (ncs : List Value) (k' : Nat) {w' : World}
    (hbel : Below w0.heap.size w0 w') (hoth : ∀ g, g ≠ l.block → w'.heap[g]? = w.heap[g]?)
    (hB : ∀ φ', Ext A.next φ φ' → BlkR w0 φ' (A.next + 1) ⟨l.block, l.base + off, l.size⟩ w' (.cells ncs e (some k'))) :
    ∃ φ', Sim w0 φ' ((A.upd b none).alloc (.cells ncs e (some k'))) w' ∧ Ext A.next φ φ' ∧ φ' A.next = some ⟨l.block, l.base + off, l.size⟩ := by
  have hbn := (h.blk b _ hb).1
  have hinj : ∀ c m, c ≠ b → φ c = some m → m.block ≠ l.block := fun c m hne e1 e2 => by
    have := h.inj b c l m (by omega) hl e1 e2.symm
    rw [hb] at this; exact this
  obtain ⟨φ', hφ⟩ : ∃ φ' : Nat → Option Loc, φ' = fun m => if m = b then none else if m = A.next then some ⟨l.block, l.base + off, l.size⟩ else φ m := ⟨_, rfl⟩
  have he : Ext A.next φ φ' := fun c hc => by
    rw [hφ]
    by_cases h1 : c = b
    · exact .inr (if_pos h1)
    · exact .inl (by simp only [if_neg h1, if_neg (show ¬ c = A.next by omega)])
  have hn : φ' A.next = some ⟨l.block, l.base + off, l.size⟩ := by rw [hφ]; simp only [if_neg (show ¬ A.next = b by omega), if_true]
  have ho : ∀ c, c ≠ b → c ≠ A.next → φ' c = φ c := fun c h1 h2 => by rw [hφ]; simp only [if_neg h1, if_neg h2]
  have hbb : φ' b = none := by rw [hφ]; simp
  refine ⟨φ', ⟨hbel, fun c B e1 => ?_, fun c e1 => ?_, fun c c' m m' hne e1 e2 hm => ?_⟩, he, hn⟩
  · rw [St.get_alloc, St.next_upd] at e1
    by_cases hc : c = A.next
    · rw [if_pos hc] at e1; cases e1; subst hc
      exact ⟨by simp, _, hn, hB φ' he⟩
    · rw [if_neg hc, St.get_upd] at e1
      by_cases hcb : c = b
      · rw [if_pos hcb] at e1; cases e1
      · rw [if_neg hcb] at e1
        obtain ⟨h1, m, h2, h3⟩ := h.blk c B e1
        exact ⟨by simp; omega, m, (ho c hcb hc).trans h2, h3.mono (hoth _ (hinj c m hcb h2)) (by simp) he⟩
  · rw [St.get_alloc, St.next_upd] at e1
    by_cases hc : c = A.next
    · rw [if_pos hc] at e1; cases e1
    · rw [if_neg hc, St.get_upd] at e1
      by_cases hcb : c = b
      · subst hcb; exact hbb
      · rw [if_neg hcb] at e1; rw [ho c hcb hc]; exact h.dead c e1
  · have hcb : c ≠ b := fun x => by rw [x, hbb] at e1; cases e1
    have hcb' : c' ≠ b := fun x => by rw [x, hbb] at e2; cases e2
    by_cases hc : c = A.next
    · subst hc; rw [hn] at e1; cases e1
      rw [ho c' hcb' (by omega)] at e2
      exact absurd hm.symm (hinj c' m' hcb' e2)
    · rw [ho c hcb hc] at e1
      by_cases hc' : c' = A.next
      · subst hc'; rw [hn] at e2; cases e2; exact absurd hm (hinj c m hcb e1)
      · rw [ho c' hcb' hc'] at e2
        rw [St.get_alloc, St.next_upd, if_neg hc, St.get_upd, if_neg hcb]
        exact h.inj c c' m m' hne e1 e2 hm
end

theorem growBy_le (n : Nat) : ∀ (r c : Nat), 256 ≤ c → c < 2 * n → Builtin.growBy n r c ≤ 2 * n
  | 0, c, _, h => by simp only [Builtin.growBy]; omega
  | r + 1, c, h0, h => by
    simp only [Builtin.growBy]
    split
    · omega
    · exact growBy_le n r _ (by omega) (by omega)
theorem nextslicecap_le {n c : Nat} (h : c < n) : Builtin.nextslicecap n c ≤ 2 * n := by
  unfold Builtin.nextslicecap
  split
  · omega
  · split
    · omega
    · exact growBy_le n 4 c (by omega) (by omega)

/-- What is appended or copied: how many elements, and their cells. -/
def srcCells (A : St) (sz : Nat) : Value → Option (Nat × List Value)
  | .slice none _ _ => some (0, [])
  | .slice (some ⟨b, off, _⟩) n _ => if n = 0 then some (0, []) else match A.get b with | some (.cells cs _ _) => if off + n * sz ≤ cs.length then some (n, (cs.drop off).take (n * sz)) else none | _ => none
  | .string s => if sz = 1 then some (s.size, s.data.toList.map fun b => .int .u8 b.toNat) else none
  | _ => none
section
variable {P : Program} {w0 : World} {φ : Nat → Option Loc} {A : St} {w : World}
theorem srcCells_sound (h : Sim w0 φ A w) {sz : Nat} {x cx : Value} {n : Nat} {cs : List Value} (e : srcCells A sz x = some (n, cs)) (hx : VR φ A.next x cx) :
    (Builtin.lenOf cx).run P w = .ok n w ∧ cs.length = n * sz ∧ (∃ ds, (Builtin.firstCells sz n cx).run P w = .ok ds w ∧ CR φ A.next cs.toArray ds) ∧
      (∀ k, k ≤ n → ∃ ds, (Builtin.firstCells sz k cx).run P w = .ok ds w ∧ CR φ A.next (cs.take (k * sz)).toArray ds) := by
  have main : (Builtin.lenOf cx).run P w = .ok n w ∧ cs.length = n * sz ∧ (∀ k, k ≤ n → ∃ ds, (Builtin.firstCells sz k cx).run P w = .ok ds w ∧ CR φ A.next (cs.take (k * sz)).toArray ds) := by
    unfold srcCells at e
    split at e
    · rename_i l c
      cases e
      rcases hx.slice_inv with ⟨_, rfl, rfl, rfl⟩ | ⟨b, off, sp, ca, ccap, e, _⟩
      · exact ⟨rfl, by simp, fun k hk => ⟨#[], rfl, by simpa using CR.empty⟩⟩
      · cases e
    · rename_i b off sp m c
      rcases hx.slice_inv with ⟨e0, _⟩ | ⟨b', off', sp', ca, ccap, e0, rfl, hb, hle, hcc, hloc⟩
      · cases e0
      · cases e0
        split at e
        · rename_i hm
          subst hm
          cases e
          refine ⟨rfl, by simp, fun k hk => ⟨#[], ?_, by simpa using CR.empty⟩⟩
          obtain rfl : k = 0 := by omega
          simp [Builtin.firstCells, loadCells, loadCellsFrom]
        · rename_i hm
          split at e
          · rename_i cs0 el md hg
            split at e
            · rename_i hlen
              cases e
              refine ⟨rfl, by simp; omega, fun k hk => ?_⟩
              obtain ⟨_, l, hl, _⟩ := h.blk b _ hg
              have hkn : k * sz ≤ n * sz := Nat.mul_le_mul_right _ hk
              obtain ⟨ds, hr, hc⟩ := h.load (P := P) hg hl off (k * sz) (by omega)
              rcases hloc l hl with ⟨rfl, _⟩ | ⟨c1, _⟩
              · refine ⟨ds, hr, ?_⟩
                rw [List.take_take, Nat.min_eq_left hkn]; exact hc
              · omega
            · cases e
          · cases e
    · rename_i s
      obtain rfl := hx.string_inv
      split at e
      · rename_i hsz
        subst hsz
        cases e
        refine ⟨rfl, by rw [List.length_map, Array.length_toList, Nat.mul_one]; rfl, fun k hk => ⟨_, rfl, ?_⟩⟩
        have : ((s.data.toList.map fun b => Value.int .u8 b.toNat).take (k * 1)).toArray = (s.extract 0 k).data.map fun b => Value.int .u8 b.toNat := by
          rw [ByteArray.data_extract, Nat.mul_one, ← List.map_take]
          apply Array.ext'
          rw [Array.toList_map, Array.toList_extract, List.extract_eq_take_drop]
          rfl
        rw [this]
        refine ⟨rfl, fun i v v' a b => ?_⟩
        rw [a] at b; cases b
        simp only [Array.getElem?_map, Option.map_eq_some_iff] at a
        obtain ⟨y, _, rfl⟩ := a
        exact .int _ _
      · cases e
    · cases e
  refine ⟨main.1, main.2.1, ?_, main.2.2⟩
  obtain ⟨ds, h1, h2⟩ := main.2.2 n (Nat.le_refl _)
  rw [List.take_of_length_le (by rw [main.2.1]; omega)] at h2
  exact ⟨ds, h1, h2⟩
end

def aappend (P : Program) (A : St) (sT xT : TypeId) (s x : Value) : Option (Value × St) :=
  match telem P sT, P.underlying xT with
  | _, some (.int _) | _, none | none, _ => none
  | some e, _ =>
    match tsz P e, tbytes P e, tzero P e with
    | some sz, some bs, some z =>
      match srcCells A sz x, s with
      | some (n, new), .slice base len cap =>
        if sz = 0 ∨ z.cells.size ≠ sz then none else
        if len + n ≤ cap then
          match base with
          | none => some (.slice none 0 0, A)
          | some ⟨b, off, sp⟩ =>
            if n = 0 then some (.slice (some ⟨b, off, sp⟩) len cap, A) else
            match A.get b with
            | some (.cells cs e' (some k)) =>
              if k ≤ off + len * sz ∧ off + len * sz + new.length ≤ cs.length ∧ new.all cell1 = true then
                some (.slice (some ⟨b, off, sp⟩) (len + n) cap, A.upd b (some (.cells (setList cs (off + len * sz) new) e' (some k))))
              else none
            | _ => none
        else
          if (len + n) * bs ≤ 140737488355328 ∧ len + n ≤ 9223372036854775807 then
            match base with
            | none => some (.slice (some ⟨A.next, 0, some sz⟩) (len + n) (len + n), A.alloc (.cells new e (some 0)))
            | some ⟨b, off, sp⟩ =>
              match A.get b, sp with
              | some (.cells cs _ _), none =>
                if off + len * sz ≤ cs.length then some (.slice (some ⟨A.next, 0, some sz⟩) (len + n) (len + n), A.alloc (.cells ((cs.drop off).take (len * sz) ++ new) e (some 0))) else none
              | some (.cells cs e' (some k)), some (_ + 1) =>
                if off + len * sz ≤ cs.length ∧ sp = some sz ∧ e' = e ∧ k ≤ off + len * sz ∧ new.all cell1 = true then
                  some (.slice (some ⟨A.next, 0, some sz⟩) (len + n) (len + n), (A.upd b none).alloc (.cells ((cs.drop off).take (len * sz) ++ new) e (some (k - off))))
                else none
              | _, _ => none
          else none
      | _, _ => none
    | _, _, _ => none
end Go.Fw
