import Derived.RangeFuncLeaves
import Derived.RecoverIn
import Derived.Below
import Derived.Laws.AppendOwn
import Derived.Laws.Cells
import Derived.Laws.World
import Derived.KernelRfl
/-! An abstract heap for the walks of this claim: blocks by name, values as the model's own, and how they stand to the machine's world. -/
namespace Go.Fw
open Go.RowKit

/-- Where an abstract block lies: the machine's block, the first cell, how many cells that block has. -/
structure Loc where
  block : Nat
  base : Nat
  size : Nat

/-- An abstract block: cells (mode: none: only read; some k: may be written from cell k on), a loop's record, a loop's block for deferred calls. -/
inductive Blk where
  | cells (cs : List Value) (e : TypeId) (mode : Option Nat)
  | loop (st : LoopState) (pe : Option Code) (tmps : Array Value) (ps : Array Tmp) (asg body : Code)
  | dfr (taken : Bool)
  | smap (l : List (ByteArray × Value))

/-- The type of which single variables are told to begin at their block's head (strings.Builder, where the program has it). -/
def btype : TypeId := 1000000000
/-- The type of pointers to it: of these alone two that are not nil are compared. -/
def bptr : TypeId := 1000000001

structure St where
  get : Nat → Option Blk
  next : Nat

def St.upd (A : St) (n : Nat) (b : Option Blk) : St := { A with get := fun m => if m = n then b else A.get m }
def St.alloc (A : St) (b : Blk) : St := { get := fun m => if m = A.next then some b else A.get m, next := A.next + 1 }
@[simp] theorem St.next_upd (A : St) (n : Nat) (b : Option Blk) : (A.upd n b).next = A.next := rfl
@[simp] theorem St.next_alloc (A : St) (b : Blk) : (A.alloc b).next = A.next + 1 := rfl
theorem St.get_upd (A : St) (n m : Nat) (b : Option Blk) : (A.upd n b).get m = if m = n then b else A.get m := rfl
theorem St.get_alloc (A : St) (m : Nat) (b : Blk) : (A.alloc b).get m = if m = A.next then some b else A.get m := rfl
theorem St.ext {A B : St} (h : ∀ m, A.get m = B.get m) (hn : A.next = B.next) : A = B := by
  cases A; cases B; simp only [mk.injEq] at *; exact ⟨funext h, hn⟩

/-- A slice's capacity in the machine: the one that is told (no mark), at least that (mark 0), or up to its block's end (mark: cells an element). -/
def capOk (sp : Option Nat) (cap ccap off : Nat) (l : Loc) : Prop :=
  match sp with
  | none => ccap = cap
  | some 0 => True
  | some (sz + 1) => l.base + off + ccap * (sz + 1) = l.size

inductive VR (φ : Nat → Option Loc) (n : Nat) : Value → Value → Prop
  | bool (b : Bool) : VR φ n (.bool b) (.bool b)
  | int (k : IntKind) (i : Int) : VR φ n (.int k i) (.int k i)
  | string (s : ByteArray) : VR φ n (.string s) (.string s)
  | ptr0 : VR φ n (.pointer none) (.pointer none)
  | ptr (b off : Nat) (ca : Addr) (hb : b < n) (h : ∀ l, φ b = some l → ca = ⟨l.block, l.base + off, none⟩) : VR φ n (.pointer (some ⟨b, off, none⟩)) (.pointer (some ca))
  | slice0 : VR φ n (.slice none 0 0) (.slice none 0 0)
  | slice (b off : Nat) (sp : Option Nat) (len cap : Nat) (ca : Addr) (ccap : Nat) (hb : b < n) (hle : len ≤ cap) (hcc : cap ≤ ccap)
      (h : ∀ l, φ b = some l → (ca = ⟨l.block, l.base + off, none⟩ ∧ capOk sp cap ccap off l) ∨ (cap = 0 ∧ ccap = 0)) :
      VR φ n (.slice (some ⟨b, off, sp⟩) len cap) (.slice (some ca) len ccap)
  | map0 : VR φ n (.map none) (.map none)
  | map (b b' : Nat) (hb : b < n) (h : ∀ l, φ b = some l → b' = l.block) : VR φ n (.map (some b)) (.map (some b'))
  | func (fn : Fn) (f f' c c' : Array Value) (hfn : ∀ l, fn ≠ .yield l) (hf : f.size = f'.size) (hc : c.size = c'.size)
      (hf' : ∀ (i : Nat) (v v' : Value), f[i]? = some v → f'[i]? = some v' → VR φ n v v') (hc' : ∀ (i : Nat) (v v' : Value), c[i]? = some v → c'[i]? = some v' → VR φ n v v') :
      VR φ n (.func fn f c) (.func fn f' c')
  | yield (b b' : Nat) (hb : b < n) (h : ∀ l, φ b = some l → b' = l.block) : VR φ n (.func (.yield b) #[] #[]) (.func (.yield b') #[] #[])
  | nilFunc : VR φ n .nilFunc .nilFunc
  | nilIface : VR φ n .nilIface .nilIface
  | iface (t : TypeId) (v v' : Value) (h : VR φ n v v') : VR φ n (.iface t v) (.iface t v')
  | agg (c c' : Array Value) (hc : c.size = c'.size) (hc' : ∀ (i : Nat) (v v' : Value), c[i]? = some v → c'[i]? = some v' → VR φ n v v') : VR φ n (.agg c) (.agg c')
  | tuple (c c' : Array Value) (hc : c.size = c'.size) (hc' : ∀ (i : Nat) (v v' : Value), c[i]? = some v → c'[i]? = some v' → VR φ n v v') : VR φ n (.tuple c) (.tuple c')

/-- What is known of old names stays, but that they may have been given up. -/
def Ext (n : Nat) (φ φ' : Nat → Option Loc) : Prop := ∀ b, b < n → φ' b = φ b ∨ φ' b = none
theorem Ext.refl (n : Nat) (φ : Nat → Option Loc) : Ext n φ φ := fun _ _ => .inl rfl
theorem Ext.trans {n n' : Nat} {φ φ' φ'' : Nat → Option Loc} (h : Ext n φ φ') (h' : Ext n' φ' φ'') (hn : n ≤ n') : Ext n φ φ'' := fun b hb => by
  rcases h' b (by omega) with e | e
  · rw [e]; exact h b hb
  · exact .inr e
theorem Ext.le {n n' : Nat} {φ φ' : Nat → Option Loc} (h : Ext n φ φ') (hn : n' ≤ n) : Ext n' φ φ' := fun b hb => h b (by omega)
theorem Ext.some {n : Nat} {φ φ' : Nat → Option Loc} (h : Ext n φ φ') {b : Nat} (hb : b < n) {l : Loc} (e : φ' b = some l) : φ b = some l := by
  rcases h b hb with x | x
  · rw [← x]; exact e
  · rw [x] at e; cases e

theorem VR.mono {φ φ' : Nat → Option Loc} {n n' : Nat} (hn : n ≤ n') (he : Ext n φ φ') {v c : Value} (h : VR φ n v c) : VR φ' n' v c := by
  induction h with
  | bool b => exact .bool b
  | int k i => exact .int k i
  | string s => exact .string s
  | ptr0 => exact .ptr0
  | ptr b off ca hb h => exact .ptr b off ca (by omega) fun l e => h l (he.some hb e)
  | slice0 => exact .slice0
  | slice b off sp len cap ca ccap hb hle hcc h => exact .slice b off sp len cap ca ccap (by omega) hle hcc fun l e => h l (he.some hb e)
  | map0 => exact .map0
  | map b b' hb h => exact .map b b' (by omega) fun l e => h l (he.some hb e)
  | func fn f f' c c' hfn hf hc _ _ ihf ihc => exact .func fn f f' c c' hfn hf hc ihf ihc
  | yield b b' hb h => exact .yield b b' (by omega) fun l e => h l (he.some hb e)
  | nilFunc => exact .nilFunc
  | nilIface => exact .nilIface
  | iface t v v' _ ih => exact .iface t v v' ih
  | agg c c' hc _ ih => exact .agg c c' hc ih
  | tuple c c' hc _ ih => exact .tuple c c' hc ih

/-! Inversions -/
section inv
variable {φ : Nat → Option Loc} {n : Nat} {c : Value}
theorem VR.bool_inv {b : Bool} (h : VR φ n (.bool b) c) : c = .bool b := by cases h; rfl
theorem VR.int_inv {k : IntKind} {i : Int} (h : VR φ n (.int k i) c) : c = .int k i := by cases h; rfl
theorem VR.string_inv {s : ByteArray} (h : VR φ n (.string s) c) : c = .string s := by cases h; rfl
theorem VR.ptr0_inv (h : VR φ n (.pointer none) c) : c = .pointer none := by cases h; rfl
theorem VR.ptr_inv {b off : Nat} {sp : Option Nat} (h : VR φ n (.pointer (some ⟨b, off, sp⟩)) c) :
    ∃ ca, c = .pointer (some ca) ∧ b < n ∧ sp = none ∧ ∀ l, φ b = some l → ca = ⟨l.block, l.base + off, none⟩ := by
  cases h with | ptr _ _ ca hb h => exact ⟨ca, rfl, hb, rfl, h⟩
theorem VR.slice_inv {a : Option Addr} {len cap : Nat} (h : VR φ n (.slice a len cap) c) :
    (a = none ∧ len = 0 ∧ cap = 0 ∧ c = .slice none 0 0) ∨
    (∃ b off sp ca ccap, a = some ⟨b, off, sp⟩ ∧ c = .slice (some ca) len ccap ∧ b < n ∧ len ≤ cap ∧ cap ≤ ccap ∧
      ∀ l, φ b = some l → (ca = ⟨l.block, l.base + off, none⟩ ∧ capOk sp cap ccap off l) ∨ (cap = 0 ∧ ccap = 0)) := by
  cases h with
  | slice0 => exact .inl ⟨rfl, rfl, rfl, rfl⟩
  | slice b off sp len cap ca ccap hb hle hcc h => exact .inr ⟨b, off, sp, ca, ccap, rfl, rfl, hb, hle, hcc, h⟩
theorem VR.agg_inv {cs : Array Value} (h : VR φ n (.agg cs) c) : ∃ cs', c = .agg cs' ∧ cs.size = cs'.size ∧ ∀ (i : Nat) (v v' : Value), cs[i]? = some v → cs'[i]? = some v' → VR φ n v v' := by
  cases h with | agg _ c' hc h => exact ⟨c', rfl, hc, h⟩
theorem VR.tuple_inv {cs : Array Value} (h : VR φ n (.tuple cs) c) : ∃ cs', c = .tuple cs' ∧ cs.size = cs'.size ∧ ∀ (i : Nat) (v v' : Value), cs[i]? = some v → cs'[i]? = some v' → VR φ n v v' := by
  cases h with | tuple _ c' hc h => exact ⟨c', rfl, hc, h⟩
theorem VR.iface_inv {t : TypeId} {v : Value} (h : VR φ n (.iface t v) c) : ∃ v', c = .iface t v' ∧ VR φ n v v' := by
  cases h with | iface _ _ v' h => exact ⟨v', rfl, h⟩
theorem VR.nilIface_inv (h : VR φ n .nilIface c) : c = .nilIface := by cases h; rfl
theorem VR.nilFunc_inv (h : VR φ n .nilFunc c) : c = .nilFunc := by cases h; rfl
theorem VR.undef : VR φ n undef undef := .tuple _ _ rfl (by intro i v v' h; simp at h)
end inv

/-- Cells of a value, one by one. -/
def CR (φ : Nat → Option Loc) (n : Nat) (c c' : Array Value) : Prop := c.size = c'.size ∧ ∀ (i : Nat) (v v' : Value), c[i]? = some v → c'[i]? = some v' → VR φ n v v'
theorem CR.mono {φ φ' : Nat → Option Loc} {n n' : Nat} (hn : n ≤ n') (he : Ext n φ φ') {c c' : Array Value} (h : CR φ n c c') : CR φ' n' c c' :=
  ⟨h.1, fun i v v' a b => (h.2 i v v' a b).mono hn he⟩
theorem CR.at {φ : Nat → Option Loc} {n : Nat} {c c' : Array Value} (h : CR φ n c c') (i : Nat) (v : Value) (e : c[i]? = some v) : ∃ v', c'[i]? = some v' ∧ VR φ n v v' := by
  have hi : i < c.size := by
    rcases Nat.lt_or_ge i c.size with h | h
    · exact h
    · simp [Array.getElem?_eq_none h] at e
  have hi' : i < c'.size := h.1 ▸ hi
  exact ⟨c'[i], Array.getElem?_eq_getElem hi', h.2 i v _ e (Array.getElem?_eq_getElem hi')⟩
theorem CR.none {φ : Nat → Option Loc} {n : Nat} {c c' : Array Value} (h : CR φ n c c') (i : Nat) (e : c[i]? = Option.none) : c'[i]? = Option.none := by
  simp only [Array.getElem?_eq_none_iff] at *; have := h.1; omega
theorem CR.empty {φ : Nat → Option Loc} {n : Nat} : CR φ n #[] #[] := ⟨rfl, by intro i v v' h; simp at h⟩
theorem CR.push {φ : Nat → Option Loc} {n : Nat} {c c' : Array Value} {v v' : Value} (h : CR φ n c c') (hv : VR φ n v v') : CR φ n (c.push v) (c'.push v') := by
  refine ⟨by simp [h.1], fun i x x' a b => ?_⟩
  rw [Array.getElem?_push] at a b
  have h1 := h.1
  by_cases e : i = c.size
  · rw [if_pos e] at a; rw [if_pos (by omega)] at b
    cases a; cases b; exact hv
  · rw [if_neg e] at a; rw [if_neg (by omega)] at b
    exact h.2 i x x' a b
theorem CR.one {φ : Nat → Option Loc} {n : Nat} {v v' : Value} (h : VR φ n v v') : CR φ n #[v] #[v'] := CR.push CR.empty h
theorem CR.append {φ : Nat → Option Loc} {n : Nat} {c c' d d' : Array Value} (h : CR φ n c c') (k : CR φ n d d') : CR φ n (c ++ d) (c' ++ d') := by
  refine ⟨by simp [h.1, k.1], fun i x x' a b => ?_⟩
  rw [Array.getElem?_append] at a b
  have h1 := h.1
  by_cases e : i < c.size
  · rw [if_pos e] at a; rw [if_pos (by omega)] at b; exact h.2 i x x' a b
  · rw [if_neg e] at a; rw [if_neg (by omega)] at b; rw [← h1] at b; exact k.2 _ x x' a b
theorem CR.set {φ : Nat → Option Loc} {n : Nat} {c c' : Array Value} {v v' : Value} (h : CR φ n c c') (hv : VR φ n v v') (j : Nat) : CR φ n (c.setIfInBounds j v) (c'.setIfInBounds j v') := by
  refine ⟨by simp [h.1], fun i x x' a b => ?_⟩
  rw [Array.getElem?_setIfInBounds] at a b
  by_cases e : j = i
  · rw [if_pos e] at a b
    have h1 := h.1
    by_cases e2 : j < c.size
    · rw [if_pos e2] at a; rw [if_pos (by omega)] at b; cases a; cases b; exact hv
    · rw [if_neg e2] at a; cases a
  · rw [if_neg e] at a b; exact h.2 i x x' a b
theorem CR.map {φ : Nat → Option Loc} {n : Nat} {α : Type} (xs : Array α) (f g : α → Value) (h : ∀ x ∈ xs, VR φ n (f x) (g x)) : CR φ n (xs.map f) (xs.map g) := by
  refine ⟨by simp, fun i v v' a b => ?_⟩
  simp only [Array.getElem?_map, Option.map_eq_some_iff] at a b
  obtain ⟨x, hx, rfl⟩ := a
  obtain ⟨y, hy, rfl⟩ := b
  rw [hx] at hy; cases hy
  exact h x (Array.mem_of_getElem? hx)
theorem CR.replicate {φ : Nat → Option Loc} {n : Nat} (k : Nat) {v v' : Value} (h : VR φ n v v') : CR φ n (Array.replicate k v) (Array.replicate k v') := by
  refine ⟨by simp, fun i x x' a b => ?_⟩
  simp only [Array.getElem?_replicate] at a b
  split at a
  · rename_i hi; rw [if_pos hi] at b; cases a; cases b; exact h
  · cases a
theorem CR.extract {φ : Nat → Option Loc} {n : Nat} {c c' : Array Value} (h : CR φ n c c') (i j : Nat) : CR φ n (c.extract i j) (c'.extract i j) := by
  refine ⟨by simp [h.1], fun k x x' a b => ?_⟩
  simp only [Array.getElem?_extract] at a b
  have h1 := h.1
  split at a
  · rw [if_pos (by omega)] at b; exact h.2 _ x x' a b
  · cases a
theorem CR.of_cells {φ : Nat → Option Loc} {n : Nat} {v v' : Value} (h : VR φ n v v') : CR φ n v.cells v'.cells := by
  cases h with
  | agg c c' hc h => exact ⟨hc, h⟩
  | bool b => exact CR.one (.bool b)
  | int k i => exact CR.one (.int k i)
  | string s => exact CR.one (.string s)
  | ptr0 => exact CR.one .ptr0
  | ptr b off ca hb h => exact CR.one (.ptr b off ca hb h)
  | slice0 => exact CR.one .slice0
  | slice b off sp len cap ca ccap hb hle hcc h => exact CR.one (.slice b off sp len cap ca ccap hb hle hcc h)
  | map0 => exact CR.one .map0
  | map b b' hb h => exact CR.one (.map b b' hb h)
  | func fn f f' c c' hfn hf hc h1 h2 => exact CR.one (.func fn f f' c c' hfn hf hc h1 h2)
  | yield b b' hb h => exact CR.one (.yield b b' hb h)
  | nilFunc => exact CR.one .nilFunc
  | nilIface => exact CR.one .nilIface
  | iface t v v' h => exact CR.one (.iface t v v' h)
  | tuple c c' hc h => exact CR.one (.tuple c c' hc h)
/-- A value that fits one cell. -/
def cell1 : Value → Bool
  | .agg _ | .tuple _ => false
  | _ => true
theorem VR.cell1 {φ : Nat → Option Loc} {n : Nat} {v v' : Value} (h : VR φ n v v') : Fw.cell1 v' = Fw.cell1 v := by
  cases h <;> rfl

/-- A value without references: it stands for itself. -/
def plain1 : Value → Bool
  | .bool _ | .int _ _ | .string _ | .pointer none | .slice none 0 0 | .nilFunc | .nilIface | .map none => true
  | _ => false
def plainV : Value → Bool
  | .agg cs => cs.all plain1
  | v => plain1 v
theorem VR.plain1 {φ : Nat → Option Loc} {n : Nat} {v : Value} (h : plain1 v = true) : VR φ n v v := by
  unfold Fw.plain1 at h
  split at h <;> first | constructor | cases h
theorem VR.plain1_eq {φ : Nat → Option Loc} {n : Nat} {v c : Value} (h : Fw.plain1 v = true) (r : VR φ n v c) : c = v := by
  unfold Fw.plain1 at h
  split at h
  all_goals first | (cases h; done) | skip
  · exact r.bool_inv
  · exact r.int_inv
  · exact r.string_inv
  · exact r.ptr0_inv
  · rcases r.slice_inv with ⟨_, _, _, e⟩ | ⟨b, off, sp, ca, ccap, e, _⟩
    · exact e
    · cases e
  · exact r.nilFunc_inv
  · exact r.nilIface_inv
  · cases r; rfl
theorem VR.plain {φ : Nat → Option Loc} {n : Nat} {v : Value} (h : plainV v = true) : VR φ n v v := by
  unfold plainV at h
  split at h
  · rename_i cs
    refine .agg _ _ rfl fun i v v' a b => ?_
    rw [a] at b; cases b
    rw [Array.all_eq_true'] at h
    exact VR.plain1 (h v (Array.mem_of_getElem? a))
  · exact VR.plain1 h
theorem VR.plain_eq {φ : Nat → Option Loc} {n : Nat} {v c : Value} (h : plainV v = true) (r : VR φ n v c) : c = v := by
  unfold plainV at h
  split at h
  · rename_i cs
    obtain ⟨cs', rfl, hs, hv⟩ := r.agg_inv
    congr 1
    apply Array.ext hs.symm
    intro i h1 h2
    rw [Array.all_eq_true'] at h
    exact VR.plain1_eq (h _ (Array.getElem_mem h2)) (hv i _ _ (Array.getElem?_eq_getElem h2) (Array.getElem?_eq_getElem h1))
  · exact VR.plain1_eq h r
end Go.Fw
