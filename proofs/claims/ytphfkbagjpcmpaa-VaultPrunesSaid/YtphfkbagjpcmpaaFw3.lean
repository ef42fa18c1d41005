import Derived.Test.YtphfkbagjpcmpaaFw2
import Derived.Laws.Entries
/-! What single operations do on the abstract heap, and that the machine's operations do so. -/
namespace Go.Fw
open Go.RowKit

def tsz (P : Program) (t : TypeId) : Option Nat := (P.info? t).map (·.size)
def tbytes (P : Program) (t : TypeId) : Option Nat := (P.info? t).map (·.bytes)
/-- A type's zero value, where it holds no reference. -/
def tzero (P : Program) (t : TypeId) : Option Value := ((P.info? t).bind (·.zero)).bind fun z => if plainV z then some z else none
def tagg (P : Program) (t : TypeId) : Option Bool := (P.underlying t).map fun | .struct _ | .array _ _ => true | _ => false
def telem (P : Program) (t : TypeId) : Option TypeId := match P.underlying t with | some (.slice e) => if e = btype then none else some e | _ => none

section runs
variable {P : Program} {w : World}
theorem run_und {t : TypeId} {d : TypeDesc} (h : P.underlying t = some d) : (underlying t).run P w = .ok d w := run_underlying h w
theorem run_tsz {t : TypeId} {n : Nat} (h : tsz P t = some n) : (sizeOf t).run P w = .ok n w := by
  unfold tsz at h
  cases hi : P.info? t with
  | none => rw [hi] at h; cases h
  | some i => rw [hi] at h; cases h; simp [sizeOf, typeInfo, hi]
theorem run_tinfo {t : TypeId} {n : Nat} (h : tbytes P t = some n) : ∃ i, (typeInfo t).run P w = .ok i w ∧ i.bytes = n := by
  unfold tbytes at h
  cases hi : P.info? t with
  | none => rw [hi] at h; cases h
  | some i => rw [hi] at h; cases h; exact ⟨i, by simp [typeInfo, hi], rfl⟩
theorem run_tzero {t : TypeId} {z : Value} (h : tzero P t = some z) : (zeroValue t).run P w = .ok z w ∧ plainV z = true := by
  unfold tzero at h
  cases hi : P.info? t with
  | none => rw [hi] at h; cases h
  | some i =>
    rw [hi] at h
    cases hz : i.zero with
    | none => simp [hz] at h
    | some z' =>
      simp only [hz, Option.bind_some] at h
      split at h
      · cases h; exact ⟨by simp [zeroValue, typeInfo, hi, hz], ‹_›⟩
      · cases h
theorem run_tagg {t : TypeId} {b : Bool} (h : tagg P t = some b) : (isAgg t).run P w = .ok b w := by
  unfold tagg at h
  cases hi : P.underlying t with
  | none => rw [hi] at h; cases h
  | some d =>
    rw [hi] at h
    cases h
    simp only [isAgg, Sem.run_bind, run_und hi, Result.andThen_ok]
    cases d <;> rfl
end runs

/-! ### Cells read and written -/
section
variable {P : Program} {w0 : World} {φ : Nat → Option Loc} {A : St} {w : World}

theorem Sim.load (h : Sim w0 φ A w) {b : Nat} {cs : List Value} {e : TypeId} {m : Option Nat} (hb : A.get b = some (.cells cs e m)) {l : Loc} (hl : φ b = some l) (off sz : Nat) (hs : off + sz ≤ cs.length) :
    ∃ ds : Array Value, (loadCells ⟨l.block, l.base + off, none⟩ sz).run P w = .ok ds w ∧ CR φ A.next ((cs.drop off).take sz).toArray ds := by
  obtain ⟨_, l', hl', C, fr, h1, h2, h3, h4, h5⟩ := h.blk b _ hb
  rw [hl] at hl'; cases hl'
  have hlen : ((C.extract (l.base + off) (l.base + off + sz)).toList).length = sz := by simp; omega
  refine ⟨C.extract (l.base + off) (l.base + off + sz), ?_, by simp; omega, fun i v v' a b' => ?_⟩
  · have := run_loadCells_list (P := P) (w := w) ⟨l.block, l.base + off, none⟩ (C.extract (l.base + off) (l.base + off + sz)).toList (fun j v e => by
      rw [Addr.add_lit, cell?_of h1]
      simp only [Array.getElem?_toList, Array.getElem?_extract] at e
      split at e
      · rw [← e]
      · cases e)
    rw [hlen, Array.toArray_toList] at this
    exact this
  · simp only [List.getElem?_toArray, List.getElem?_take, List.getElem?_drop] at a
    simp only [Array.getElem?_extract] at b'
    split at a
    · obtain ⟨u, q, r⟩ := h4 _ v a
      split at b'
      · rw [show l.base + off + i = l.base + (off + i) by omega, q] at b'; cases b'; exact r
      · cases b'
    · cases a

def setList (cs : List Value) (off : Nat) : List Value → List Value
  | [] => cs
  | v :: r => setList (cs.set off v) (off + 1) r
theorem setList_length (cs : List Value) (off : Nat) (vs : List Value) : (setList cs off vs).length = cs.length := by
  induction vs generalizing cs off with
  | nil => rfl
  | cons v r ih => rw [setList, ih, List.length_set]
theorem St.upd_upd (A : St) (b : Nat) (x y : Option Blk) : (A.upd b x).upd b y = A.upd b y := St.ext (fun m => by simp only [St.get_upd]; split <;> rfl) rfl

theorem run_store_one {a : Addr} {v u : Value} (hv : cell1 v = true) (hc : w.cell? a = some u) (hf : w.frozen? a = false) : (store a v).run P w = .ok () (w.setCell a v) := by
  cases v <;> first | (simp [cell1] at hv; done) | (simp only [store, Sem.run, hc, hf]; rfl)

theorem Sim.store {b : Nat} {e : TypeId} {k : Nat} {l : Loc} (hl : φ b = some l) (off : Nat) : ∀ (vs vs' : List Value) (i : Nat) (A : St) (w : World) (cs : List Value), Sim w0 φ A w → A.get b = some (.cells cs e (some k)) →
    vs.length = vs'.length → (∀ (j : Nat) (v v' : Value), vs[j]? = some v → vs'[j]? = some v' → VR φ A.next v v' ∧ cell1 v = true) → k ≤ off + i → off + i + vs.length ≤ cs.length →
    ∃ w', (storeCells ⟨l.block, l.base + off, none⟩ vs' i).run P w = .ok () w' ∧ Sim w0 φ (A.upd b (some (.cells (setList cs (off + i) vs) e (some k)))) w' := by
  intro vs
  induction vs with
  | nil =>
    intro vs' i A w cs h hb hlen _ _ _
    obtain rfl : vs' = [] := List.eq_nil_of_length_eq_zero (by simpa using hlen.symm)
    refine ⟨w, rfl, ?_⟩
    have : A.upd b (some (.cells (setList cs (off + i) []) e (some k))) = A := St.ext (fun m => by
      by_cases hm : m = b
      · subst hm; rw [St.get_upd, if_pos rfl]; exact hb.symm
      · rw [St.get_upd, if_neg hm]) rfl
    rw [this]; exact h
  | cons v r ih =>
    intro vs' i A w cs h hb hlen hv hk hs
    match vs', hlen with
    | v' :: r', hlen =>
      simp only [List.length_cons, Nat.add_right_cancel_iff] at hlen hs
      obtain ⟨hv1, hv2⟩ := hv 0 v v' rfl rfl
      obtain ⟨l', hl', ⟨u, hu⟩, hf, hsim⟩ := h.set hb hk (by omega) hv1
      rw [hl] at hl'; cases hl'
      obtain ⟨w', hr, hs'⟩ := ih r' (i + 1) _ _ (cs.set (off + i) v) hsim (by rw [St.get_upd, if_pos rfl]) hlen (fun j x x' a b => hv (j + 1) x x' (by simpa using a) (by simpa using b)) (by omega) (by simp; omega)
      refine ⟨w', ?_, ?_⟩
      · show (do _root_.Go.store ((⟨l.block, l.base + off, none⟩ : Addr).add i) v'; storeCells ⟨l.block, l.base + off, none⟩ r' (i + 1)).run P w = _
        rw [Addr.add_lit, Sem.run_bind, show l.base + off + i = l.base + (off + i) by omega, run_store_one (by rw [hv1.cell1]; exact hv2) hu hf]
        exact hr
      · rw [St.upd_upd] at hs'
        exact hs'
end

/-! ### The operations -/
def aload (P : Program) (A : St) (t : TypeId) : Value → Option Value
  | .pointer (some ⟨b, off, none⟩) =>
    match tagg P t, tsz P t, A.get b with
    | some true, some sz, some (.cells cs _ _) => if off + sz ≤ cs.length then some (.agg ((cs.drop off).take sz).toArray) else none
    | some false, _, some (.cells cs _ _) => cs[off]?
    | _, _, _ => none
  | _ => none
def astore (P : Program) (A : St) (t : TypeId) (a v : Value) : Option St :=
  match a with
  | .pointer (some ⟨b, off, none⟩) =>
    match A.get b with
    | some (.cells cs e (some k)) =>
      if tsz P t = some v.cells.size ∧ k ≤ off ∧ off + v.cells.size ≤ cs.length ∧ v.cells.all cell1 = true then some (A.upd b (some (.cells (setList cs off v.cells.toList) e (some k)))) else none
    | _ => none
  | _ => none

section
variable {P : Program} {w0 : World} {φ : Nat → Option Loc} {A : St} {w : World}
theorem aload_sound (h : Sim w0 φ A w) {t : TypeId} {a v ca : Value} (e : aload P A t a = some v) (ha : VR φ A.next a ca) : ∃ v', (Instr.loadAt t ca).run P w = .ok v' w ∧ VR φ A.next v v' := by
  unfold aload at e
  split at e
  · rename_i b off
    obtain ⟨ca, rfl, hb, _, hloc⟩ := ha.ptr_inv
    split at e
    · rename_i sz cs _ _ ht hz hg
      split at e
      · cases e
        obtain ⟨_, l, hl, _⟩ := h.blk b _ hg
        obtain ⟨ds, hr, hc⟩ := h.load (P := P) hg hl off sz ‹_›
        rw [hloc l hl]
        refine ⟨.agg ds, ?_, .agg _ _ hc.1 hc.2⟩
        simp only [Instr.loadAt, Instr.sureAddr, loadVar, Sem.run_bind, Sem.run_pure, Result.andThen_ok, run_tagg ht, run_tsz hz, hr, if_true]
      · cases e
    · rename_i cs _ _ ht hg
      obtain ⟨l, v', hl, hc, hv⟩ := h.cell hg e
      rw [hloc l hl]
      refine ⟨v', ?_, hv⟩
      simp only [Instr.loadAt, Instr.sureAddr, loadVar, Sem.run_bind, Sem.run_pure, Result.andThen_ok, run_tagg ht, Bool.false_eq_true, if_false, run_load, hc]
    · cases e
  · cases e

theorem astore_sound (h : Sim w0 φ A w) {t : TypeId} {a v ca cv : Value} {A' : St} (e : astore P A t a v = some A') (ha : VR φ A.next a ca) (hv : VR φ A.next v cv) :
    ∃ w', (Instr.storeAt t ca cv).run P w = .ok () w' ∧ Sim w0 φ A' w' ∧ A'.next = A.next := by
  unfold astore at e
  split at e
  · rename_i b off
    obtain ⟨ca, rfl, hb, _, hloc⟩ := ha.ptr_inv
    split at e
    · rename_i cs e0 k hg
      split at e
      · rename_i hcond
        obtain ⟨h1, h2, h3, h4⟩ := hcond
        cases e
        obtain ⟨_, l, hl, _⟩ := h.blk b _ hg
        have hc := CR.of_cells hv
        obtain ⟨w', hr, hs⟩ := Sim.store (P := P) hl off v.cells.toList cv.cells.toList 0 A w cs h hg (by simpa using hc.1) (fun j x x' a b => ⟨hc.2 j x x' (by simpa using a) (by simpa using b), by
          rw [Array.all_eq_true'] at h4
          exact h4 x (by simpa using List.mem_of_getElem? a)⟩) (by omega) (by simpa using h3)
        refine ⟨w', ?_, hs, rfl⟩
        rw [hloc l hl]
        simp only [Instr.storeAt, Instr.sureAddr, storeVar, Sem.run_bind, Sem.run_pure, Result.andThen_ok, run_tsz h1, ← hc.1, ne_eq, not_true_eq_false, if_false]
        exact hr
      · cases e
    · cases e
  · cases e
end
end Go.Fw
