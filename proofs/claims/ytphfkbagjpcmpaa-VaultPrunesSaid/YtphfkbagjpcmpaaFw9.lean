import Derived.Test.YtphfkbagjpcmpaaFw8
/-! append, copy; texts and bytes. -/
set_option linter.unusedSimpArgs false
set_option linter.unusedVariables false
namespace Go.Fw
open Go.RowKit

section
variable {P : Program} {w0 : World} {φ : Nat → Option Loc} {A : St} {w : World}

/-- Cells stored one behind the other, in a block that is known whole. -/
theorem storeCells_block {g o : Nat} {e : TypeId} {fr : Nat × Nat} : ∀ (vs : List Value) (i : Nat) (w : World) (C : Array Value), w.heap[g]? = some (.cells C e fr) → o + i + vs.length ≤ C.size → (∀ v ∈ vs, cell1 v = true) →
    (∀ j, o + i ≤ j → j < C.size → ¬ (fr.1 ≤ j ∧ j < fr.2)) →
    ∃ w' C', (storeCells ⟨g, o, none⟩ vs i).run P w = .ok () w' ∧ w'.heap[g]? = some (.cells C' e fr) ∧ C'.size = C.size ∧ (∀ j v, vs[j]? = some v → C'[o + i + j]? = some v) ∧ (∀ j, j < o + i → C'[j]? = C[j]?) ∧
      (∀ h, h ≠ g → w'.heap[h]? = w.heap[h]?) ∧ w'.heap.size = w.heap.size ∧ w'.os = w.os ∧ w'.tape = w.tape ∧ w'.output = w.output
  | [], i, w, C, hg, _, _, _ => ⟨w, C, rfl, hg, rfl, fun j v h => by simp at h, fun _ _ => rfl, fun _ _ => rfl, rfl, rfl, rfl, rfl⟩
  | v :: r, i, w, C, hg, hs, hv, hf => by
    simp only [List.length_cons] at hs
    have hlt : o + i < C.size := by omega
    obtain ⟨w', C', h1, h2, h3, h4, h5, h6, h7, h8, h9, h10⟩ := storeCells_block (g := g) (o := o) (e := e) (fr := fr) r (i + 1) (w.setCell ⟨g, o + i, none⟩ v) (C.setIfInBounds (o + i) v) (heap_setCell_same hg _ _) (by simp; omega) (fun x hx => hv x (List.mem_cons_of_mem _ hx)) (fun j a b => hf j (by omega) (by simpa using b))
    refine ⟨w', C', ?_, h2, by simpa using h3, fun j x hx => ?_, fun j hj => ?_, fun h hh => ?_, by simpa using h7, h8, h9, h10⟩
    · show (do _root_.Go.store ((⟨g, o, none⟩ : Addr).add i) v; storeCells ⟨g, o, none⟩ r (i + 1)).run P w = _
      rw [Addr.add_lit, Sem.run_bind, run_store_one (hv v (List.mem_cons_self ..)) (u := C[o + i]) (by rw [cell?_of hg]; exact Array.getElem?_eq_getElem hlt) (by rw [frozen?_of hg]; have := hf (o + i) (Nat.le_refl _) hlt; simp; omega)]
      exact h1
    · cases j with
      | zero =>
        simp only [List.getElem?_cons_zero, Option.some.injEq] at hx
        subst hx
        rw [Nat.add_zero, h5 (o + i) (by omega), Array.getElem?_setIfInBounds, if_pos rfl, if_pos hlt]
      | succ j =>
        have := h4 j x (by simpa using hx)
        rw [show o + i + (j + 1) = o + (i + 1) + j by omega]; exact this
    · rw [h5 j (by omega), Array.getElem?_setIfInBounds, if_neg (by omega)]
    · rw [h6 h hh, Below.heap_setCell _ _ _ _ hh]

theorem Below.of_same {B : Nat} {a w w' : World} (h : Below B a w) (hs : w'.heap.size = w.heap.size) (ho : w'.os = w.os) (ht : w'.tape = w.tape) (hu : w'.output = w.output) {g : Nat} (hg : B ≤ g) (hh : ∀ k, k ≠ g → w'.heap[k]? = w.heap[k]?) : Below B a w' :=
  ⟨ho.trans h.os, ht.trans h.tape, hu.trans h.output, by have := h.size; omega, fun k hk => (hh k (by omega)).trans (h.block k hk)⟩

/-- A block that nobody is to read again. -/
theorem Sim.kill (h : Sim w0 φ A w) (b : Nat) : Sim w0 (fun m => if m = b then none else φ m) (A.upd b none) w ∧ Ext A.next φ (fun m => if m = b then none else φ m) := by
  have he : Ext A.next φ (fun m => if m = b then none else φ m) := fun c _ => by
    by_cases hc : c = b
    · exact .inr (if_pos hc)
    · exact .inl (if_neg hc)
  refine ⟨⟨h.below, fun c B e => ?_, fun c e => ?_, fun c c' l l' hne e e' hl => ?_⟩, he⟩
  · rw [St.get_upd] at e
    by_cases hc : c = b
    · rw [if_pos hc] at e; cases e
    · rw [if_neg hc] at e
      obtain ⟨h1, l, h2, h3⟩ := h.blk c B e
      exact ⟨h1, l, by rw [if_neg hc]; exact h2, h3.mono rfl (Nat.le_refl _) he⟩
  · rw [St.get_upd] at e
    by_cases hc : c = b
    · exact if_pos hc
    · rw [if_neg hc] at e; rw [if_neg hc]; exact h.dead c e
  · by_cases hc : c = b
    · rw [if_pos hc] at e; cases e
    · rw [if_neg hc] at e
      by_cases hc' : c' = b
      · rw [if_pos hc'] at e'; cases e'
      · rw [if_neg hc'] at e'
        rw [St.get_upd, if_neg hc]; exact h.inj c c' l l' hne e e' hl

/-- A block whose place is taken by a new one, in the machine's same block. -/
theorem Sim.retire (h : Sim w0 φ A w) {b : Nat} {cs : List Value} {e : TypeId} {k : Nat} (hb : A.get b = some (.cells cs e (some k))) {l : Loc} (hl : φ b = some l) (off : Nat) (ncs : List Value) (k' : Nat) {w' : World}
    (hbel : Below w0.heap.size w0 w') (hoth : ∀ g, g ≠ l.block → w'.heap[g]? = w.heap[g]?)
    (hB : ∀ φ', Ext A.next φ φ' → BlkR w0 φ' (A.next + 1) ⟨l.block, l.base + off, l.size⟩ w' (.cells ncs e (some k'))) :
    ∃ φ', Sim w0 φ' ((A.upd b none).alloc (.cells ncs e (some k'))) w' ∧ Ext A.next φ φ' ∧ φ' A.next = some ⟨l.block, l.base + off, l.size⟩ := by
  have hbn := (h.blk b _ hb).1
  have hinj : ∀ c m, c ≠ b → φ c = some m → m.block ≠ l.block := fun c m hne e1 e2 => by
    have := h.inj b c l m (by omega) hl e1 e2.symm
    rw [hb] at this; exact this
  obtain ⟨φ', hφ⟩ : ∃ φ' : Nat → Option Loc, φ' = fun m => if m = b then none else if m = A.next then some ⟨l.block, l.base + off, l.size⟩ else φ m := ⟨_, rfl⟩
  have he : Ext A.next φ φ' := fun c hc => by
    rw [hφ]
    by_cases h1 : c = b
    · exact .inr (if_pos h1)
    · exact .inl (by simp only [if_neg h1, if_neg (show ¬ c = A.next by omega)])
  have hn : φ' A.next = some ⟨l.block, l.base + off, l.size⟩ := by rw [hφ]; simp only [if_neg (show ¬ A.next = b by omega), if_true]
  have ho : ∀ c, c ≠ b → c ≠ A.next → φ' c = φ c := fun c h1 h2 => by rw [hφ]; simp only [if_neg h1, if_neg h2]
  have hbb : φ' b = none := by rw [hφ]; simp
  refine ⟨φ', ⟨hbel, fun c B e1 => ?_, fun c e1 => ?_, fun c c' m m' hne e1 e2 hm => ?_⟩, he, hn⟩
  · rw [St.get_alloc, St.next_upd] at e1
    by_cases hc : c = A.next
    · rw [if_pos hc] at e1; cases e1; subst hc
      exact ⟨by simp, _, hn, hB φ' he⟩
    · rw [if_neg hc, St.get_upd] at e1
      by_cases hcb : c = b
      · rw [if_pos hcb] at e1; cases e1
      · rw [if_neg hcb] at e1
        obtain ⟨h1, m, h2, h3⟩ := h.blk c B e1
        exact ⟨by simp; omega, m, (ho c hcb hc).trans h2, h3.mono (hoth _ (hinj c m hcb h2)) (by simp) he⟩
  · rw [St.get_alloc, St.next_upd] at e1
    by_cases hc : c = A.next
    · rw [if_pos hc] at e1; cases e1
    · rw [if_neg hc, St.get_upd] at e1
      by_cases hcb : c = b
      · subst hcb; exact hbb
      · rw [if_neg hcb] at e1; rw [ho c hcb hc]; exact h.dead c e1
  · have hcb : c ≠ b := fun x => by rw [x, hbb] at e1; cases e1
    have hcb' : c' ≠ b := fun x => by rw [x, hbb] at e2; cases e2
    by_cases hc : c = A.next
    · subst hc; rw [hn] at e1; cases e1
      rw [ho c' hcb' (by omega)] at e2
      exact absurd hm.symm (hinj c' m' hcb' e2)
    · rw [ho c hcb hc] at e1
      by_cases hc' : c' = A.next
      · subst hc'; rw [hn] at e2; cases e2; exact absurd hm (hinj c m hcb e1)
      · rw [ho c' hcb' hc'] at e2
        rw [St.get_alloc, St.next_upd, if_neg hc, St.get_upd, if_neg hcb]
        exact h.inj c c' m m' hne e1 e2 hm
end

theorem growBy_le (n : Nat) : ∀ (r c : Nat), 256 ≤ c → c < 2 * n → Builtin.growBy n r c ≤ 2 * n
  | 0, c, _, h => by simp only [Builtin.growBy]; omega
  | r + 1, c, h0, h => by
    simp only [Builtin.growBy]
    split
    · omega
    · exact growBy_le n r _ (by omega) (by omega)
theorem nextslicecap_le {n c : Nat} (h : c < n) : Builtin.nextslicecap n c ≤ 2 * n := by
  unfold Builtin.nextslicecap
  split
  · omega
  · split
    · omega
    · exact growBy_le n 4 c (by omega) (by omega)

/-- What is appended or copied: how many elements, and their cells. -/
def srcCells (A : St) (sz : Nat) : Value → Option (Nat × List Value)
  | .slice none _ _ => some (0, [])
  | .slice (some ⟨b, off, _⟩) n _ => if n = 0 then some (0, []) else match A.get b with | some (.cells cs _ _) => if off + n * sz ≤ cs.length then some (n, (cs.drop off).take (n * sz)) else none | _ => none
  | .string s => if sz = 1 then some (s.size, s.data.toList.map fun b => .int .u8 b.toNat) else none
  | _ => none
section
variable {P : Program} {w0 : World} {φ : Nat → Option Loc} {A : St} {w : World}
theorem srcCells_sound (h : Sim w0 φ A w) {sz : Nat} {x cx : Value} {n : Nat} {cs : List Value} (e : srcCells A sz x = some (n, cs)) (hx : VR φ A.next x cx) :
    (Builtin.lenOf cx).run P w = .ok n w ∧ cs.length = n * sz ∧ (∃ ds, (Builtin.firstCells sz n cx).run P w = .ok ds w ∧ CR φ A.next cs.toArray ds) ∧
      (∀ k, k ≤ n → ∃ ds, (Builtin.firstCells sz k cx).run P w = .ok ds w ∧ CR φ A.next (cs.take (k * sz)).toArray ds) := by
  have main : (Builtin.lenOf cx).run P w = .ok n w ∧ cs.length = n * sz ∧ (∀ k, k ≤ n → ∃ ds, (Builtin.firstCells sz k cx).run P w = .ok ds w ∧ CR φ A.next (cs.take (k * sz)).toArray ds) := by
    unfold srcCells at e
    split at e
    · rename_i l c
      cases e
      rcases hx.slice_inv with ⟨_, rfl, rfl, rfl⟩ | ⟨b, off, sp, ca, ccap, e, _⟩
      · exact ⟨rfl, by simp, fun k hk => ⟨#[], rfl, by simpa using CR.empty⟩⟩
      · cases e
    · rename_i b off sp m c
      rcases hx.slice_inv with ⟨e0, _⟩ | ⟨b', off', sp', ca, ccap, e0, rfl, hb, hle, hcc, hloc⟩
      · cases e0
      · cases e0
        split at e
        · rename_i hm
          subst hm
          cases e
          refine ⟨rfl, by simp, fun k hk => ⟨#[], ?_, by simpa using CR.empty⟩⟩
          obtain rfl : k = 0 := by omega
          simp [Builtin.firstCells, loadCells, loadCellsFrom]
        · rename_i hm
          split at e
          · rename_i cs0 el md hg
            split at e
            · rename_i hlen
              cases e
              refine ⟨rfl, by simp; omega, fun k hk => ?_⟩
              obtain ⟨_, l, hl, _⟩ := h.blk b _ hg
              have hkn : k * sz ≤ n * sz := Nat.mul_le_mul_right _ hk
              obtain ⟨ds, hr, hc⟩ := h.load (P := P) hg hl off (k * sz) (by omega)
              rcases hloc l hl with ⟨rfl, _⟩ | ⟨c1, _⟩
              · refine ⟨ds, hr, ?_⟩
                rw [List.take_take, Nat.min_eq_left hkn]; exact hc
              · omega
            · cases e
          · cases e
    · rename_i s
      obtain rfl := hx.string_inv
      split at e
      · rename_i hsz
        subst hsz
        cases e
        refine ⟨rfl, by rw [List.length_map, Array.length_toList, Nat.mul_one]; rfl, fun k hk => ⟨_, rfl, ?_⟩⟩
        have : ((s.data.toList.map fun b => Value.int .u8 b.toNat).take (k * 1)).toArray = (s.extract 0 k).data.map fun b => Value.int .u8 b.toNat := by
          rw [ByteArray.data_extract, Nat.mul_one, ← List.map_take]
          apply Array.ext'
          rw [Array.toList_map, Array.toList_extract, List.extract_eq_take_drop]
          rfl
        rw [this]
        refine ⟨rfl, fun i v v' a b => ?_⟩
        rw [a] at b; cases b
        simp only [Array.getElem?_map, Option.map_eq_some_iff] at a
        obtain ⟨y, _, rfl⟩ := a
        exact .int _ _
      · cases e
    · cases e
  refine ⟨main.1, main.2.1, ?_, main.2.2⟩
  obtain ⟨ds, h1, h2⟩ := main.2.2 n (Nat.le_refl _)
  rw [List.take_of_length_le (by rw [main.2.1]; omega)] at h2
  exact ⟨ds, h1, h2⟩
end

def aappend (P : Program) (A : St) (sT xT : TypeId) (s x : Value) : Option (Value × St) :=
  match telem P sT, P.underlying xT with
  | _, some (.int _) | _, none | none, _ => none
  | some e, _ =>
    match tsz P e, tbytes P e, tzero P e with
    | some sz, some bs, some z =>
      match srcCells A sz x, s with
      | some (n, new), .slice base len cap =>
        if sz = 0 ∨ z.cells.size ≠ sz then none else
        if len + n ≤ cap then
          match base with
          | none => some (.slice none 0 0, A)
          | some ⟨b, off, sp⟩ =>
            if n = 0 then some (.slice (some ⟨b, off, sp⟩) len cap, A) else
            match A.get b with
            | some (.cells cs e' (some k)) =>
              if k ≤ off + len * sz ∧ off + len * sz + new.length ≤ cs.length ∧ new.all cell1 = true then
                some (.slice (some ⟨b, off, sp⟩) (len + n) cap, A.upd b (some (.cells (setList cs (off + len * sz) new) e' (some k))))
              else none
            | _ => none
        else
          if (len + n) * bs ≤ 140737488355328 ∧ len + n ≤ 9223372036854775807 then
            match base with
            | none => some (.slice (some ⟨A.next, 0, some sz⟩) (len + n) (len + n), A.alloc (.cells new e (some 0)))
            | some ⟨b, off, sp⟩ =>
              match A.get b, sp with
              | some (.cells cs _ _), none =>
                if off + len * sz ≤ cs.length then some (.slice (some ⟨A.next, 0, some sz⟩) (len + n) (len + n), A.alloc (.cells ((cs.drop off).take (len * sz) ++ new) e (some 0))) else none
              | some (.cells cs e' (some k)), some (_ + 1) =>
                if off + len * sz ≤ cs.length ∧ sp = some sz ∧ e' = e ∧ k ≤ off + len * sz ∧ new.all cell1 = true then
                  some (.slice (some ⟨A.next, 0, some sz⟩) (len + n) (len + n), (A.upd b none).alloc (.cells ((cs.drop off).take (len * sz) ++ new) e (some (k - off))))
                else none
              | _, _ => none
          else none
      | _, _ => none
    | _, _, _ => none
end Go.Fw
