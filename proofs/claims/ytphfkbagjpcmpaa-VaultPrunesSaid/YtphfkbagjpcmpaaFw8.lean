import Derived.Test.YtphfkbagjpcmpaaFw7
/-! Operations that make memory: parts put together, new slices, bytes of a text, append, copy. -/
set_option linter.unusedSimpArgs false
set_option linter.unusedVariables false
namespace Go.Fw
open Go.RowKit

/-- Parts laid into cells. -/
def afill (place : Nat → Option (Nat × Nat)) (cells : List Value) : List (Nat × Value) → Option (List Value)
  | [] => some cells
  | (i, v) :: rest =>
    match place i with
    | none => none
    | some (off, size) => if v.cells.size = size ∧ off + size ≤ cells.length then afill place (setList cells off v.cells.toList) rest else none
def aplace (P : Program) (fs : Array Field) (i : Nat) : Option (Nat × Nat) := (fs[i]?).bind fun f => (tsz P f.type).map fun s => (f.offset, s)
def abuild (P : Program) (t : TypeId) (parts : Array (Nat × Value)) : Option Value :=
  match P.underlying t, tzero P t with
  | some (.struct fs), some z => if fs.all (fun f => (tsz P f.type).isSome) then (afill (aplace P fs) z.cells.toList parts.toList).map fun cs => .agg cs.toArray else none
  | some (.array _ e), some z => (tsz P e).bind fun sz => (afill (fun i => some (i * sz, sz)) z.cells.toList parts.toList).map fun cs => .agg cs.toArray
  | _, _ => none
/-- So many cells of a zero value. -/
def zeros (z : Value) (n : Nat) : List Value := (List.range n).map fun i => z.cells[i % z.cells.size]!

section
variable {P : Program} {φ : Nat → Option Loc} {n : Nat} {w : World}

theorem CR.setList {cs : List Value} {cs' : Array Value} (h : CR φ n cs.toArray cs') : ∀ (vs vs' : List Value) (off k : Nat), vs.length = vs'.length → (∀ (j : Nat) (v v' : Value), vs[j]? = some v → vs'[j]? = some v' → VR φ n v v') →
    CR φ n (Fw.setList cs (off + k) vs).toArray ((vs'.zipIdx k).foldl (fun cs (c, j) => cs.setIfInBounds (off + j) c) cs') := by
  intro vs
  induction vs generalizing cs cs' with
  | nil =>
    intro vs' off k hl _
    obtain rfl : vs' = [] := List.eq_nil_of_length_eq_zero (by simpa using hl.symm)
    exact h
  | cons v r ih =>
    intro vs' off k hl hv
    match vs', hl with
    | v' :: r', hl =>
      simp only [List.zipIdx_cons, List.foldl_cons]
      have h1 : CR φ n (cs.set (off + k) v).toArray (cs'.setIfInBounds (off + k) v') := by
        have := h.set (hv 0 v v' rfl rfl) (off + k)
        simpa using this
      exact ih h1 r' off (k + 1) (by simpa using hl) fun j x x' a b => hv (j + 1) x x' (by simpa using a) (by simpa using b)

theorem fill_sound {place : Nat → Option (Nat × Nat)} : ∀ {parts parts' : List (Nat × Value)} {cs r : List Value} {cs' : Array Value}, afill place cs parts = some r → CR φ n cs.toArray cs' →
    parts.length = parts'.length → (∀ (j : Nat) (x x' : Nat × Value), parts[j]? = some x → parts'[j]? = some x' → x'.1 = x.1 ∧ VR φ n x.2 x'.2) → ∃ r', Instr.fill place cs' parts' = some r' ∧ CR φ n r.toArray r'
  | [], parts', cs, r, cs', e, h, hl, _ => by
    obtain rfl : parts' = [] := List.eq_nil_of_length_eq_zero (by simpa using hl.symm)
    cases e; exact ⟨cs', rfl, h⟩
  | (i, v) :: rest, parts', cs, r, cs', e, h, hl, hp => by
    match parts', hl with
    | (i', v') :: rest', hl =>
      obtain ⟨h1, h2⟩ := hp 0 (i, v) (i', v') rfl rfl
      simp only at h1 h2
      subst h1
      unfold afill at e
      unfold Instr.fill
      split at e
      · cases e
      · rename_i off size hpl
        simp only [hpl]
        split at e
        · rename_i hc
          obtain ⟨hc1, hc2⟩ := hc
          have hcr := CR.of_cells h2
          have hs := h.1
          simp only [List.size_toArray] at hs
          have hn : (v'.cells.size ≠ size || decide (off + v'.cells.size > cs'.size)) = false := by
            have := hcr.1
            simp; omega
          simp only [hn, Bool.false_eq_true, if_false]
          have h3 := CR.setList h v.cells.toList v'.cells.toList off 0 (by simpa using hcr.1) (fun j x x' a b => hcr.2 j x x' (by simpa using a) (by simpa using b))
          have h4 : v'.cells.zipIdx.foldl (fun cs (c, j) => cs.setIfInBounds (off + j) c) cs' = (v'.cells.toList.zipIdx 0).foldl (fun cs (c, j) => cs.setIfInBounds (off + j) c) cs' := by
            rw [← Array.foldl_toList, Array.toList_zipIdx]
          rw [← h4] at h3
          exact fill_sound e h3 (by simpa using hl) fun j x x' a b => hp (j + 1) x x' (by simpa using a) (by simpa using b)
        · cases e
termination_by parts => parts.length

theorem places_run (fs : Array Field) (h : fs.all (fun f => (tsz P f.type).isSome) = true) : ∃ ps : Array (Nat × Nat), (fs.mapM (fun (f : Field) => do pure (f.offset, ← sizeOf f.type)) : Sem (Array (Nat × Nat))).run P w = .ok ps w ∧ ∀ i : Nat, ps[i]? = aplace P fs i := by
  obtain ⟨l⟩ := fs
  have key : ∀ l : List Field, (∀ f ∈ l, (tsz P f.type).isSome = true) → ∃ ps : List (Nat × Nat), (l.mapM (fun (f : Field) => do pure (f.offset, ← sizeOf f.type)) : Sem (List (Nat × Nat))).run P w = .ok ps w ∧ ∀ i : Nat, ps[i]? = (l[i]?).bind fun (f : Field) => (tsz P f.type).map fun s => (f.offset, s) := by
    intro l
    induction l with
    | nil => intro _; exact ⟨[], rfl, by simp⟩
    | cons f r ih =>
      intro hl
      obtain ⟨ps, h1, h2⟩ := ih fun f hf => hl f (List.mem_cons_of_mem _ hf)
      have hf := hl f (List.mem_cons_self ..)
      cases hz : tsz P f.type with
      | none => rw [hz] at hf; cases hf
      | some s =>
        refine ⟨(f.offset, s) :: ps, ?_, fun i => ?_⟩
        · simp only [List.mapM_cons, Sem.run_bind, run_tsz hz, Result.andThen_ok, Sem.run_pure, h1]
        · cases i with
          | zero => simp [hz]
          | succ i => simpa using h2 i
  simp only [List.all_toArray, List.all_eq_true] at h
  obtain ⟨ps, h1, h2⟩ := key l h
  refine ⟨ps.toArray, ?_, fun i => ?_⟩
  · rw [List.mapM_toArray]; simp only [Sem.run_map, h1, Result.andThen_ok]
  · simpa [aplace] using h2 i

theorem CR.plain {v : Value} (h : plainV v = true) : CR φ n v.cells v.cells := CR.of_cells (VR.plain h)

theorem abuild_sound {t : TypeId} {parts parts' : Array (Nat × Value)} {v : Value} (e : abuild P t parts = some v) (hl : parts.size = parts'.size)
    (hp : ∀ (j : Nat) (x x' : Nat × Value), parts[j]? = some x → parts'[j]? = some x' → x'.1 = x.1 ∧ VR φ n x.2 x'.2) : ∃ v', (Instr.build t parts').run P w = .ok v' w ∧ VR φ n v v' := by
  unfold abuild at e
  have hp' : ∀ (j : Nat) (x x' : Nat × Value), parts.toList[j]? = some x → parts'.toList[j]? = some x' → x'.1 = x.1 ∧ VR φ n x.2 x'.2 := fun j x x' a b => hp j x x' (by simpa using a) (by simpa using b)
  split at e
  · rename_i fs z ht hz
    split at e
    · rename_i hall
      simp only [Option.map_eq_some_iff] at e
      obtain ⟨cs, hf, rfl⟩ := e
      obtain ⟨hzr, hzp⟩ := run_tzero (P := P) (w := w) hz
      obtain ⟨ps, hps, hpl⟩ := places_run (P := P) (w := w) fs hall
      obtain ⟨r', hr, hc⟩ := fill_sound hf (by simpa using CR.plain (φ := φ) (n := n) hzp) (by simpa using hl) hp'
      have hfe : (fun i => ps[i]?) = aplace P fs := funext hpl
      refine ⟨.agg r', ?_, .agg _ _ hc.1 hc.2⟩
      simp only [Instr.build, Sem.run_bind, hzr, Result.andThen_ok, run_und ht, hps, hfe, hr, Sem.run_pure]
    · cases e
  · rename_i m el z ht hz
    simp only [Option.bind_eq_some_iff, Option.map_eq_some_iff] at e
    obtain ⟨sz, hsz, cs, hf, rfl⟩ := e
    obtain ⟨hzr, hzp⟩ := run_tzero (P := P) (w := w) hz
    obtain ⟨r', hr, hc⟩ := fill_sound hf (by simpa using CR.plain (φ := φ) (n := n) hzp) (by simpa using hl) hp'
    refine ⟨.agg r', ?_, .agg _ _ hc.1 hc.2⟩
    simp only [Instr.build, Sem.run_bind, hzr, Result.andThen_ok, run_und ht, run_tsz hsz, hr, Sem.run_pure]
  · cases e

theorem zeros_rel {z : Value} (h : plainV z = true) (k : Nat) (hk : 0 < z.cells.size) : CR φ n (zeros z k).toArray ((Array.range k).map (z.cells[· % z.cells.size]!)) := by
  have : (zeros z k).toArray = (Array.range k).map (z.cells[· % z.cells.size]!) := by
    apply Array.ext
    · simp [zeros]
    · intro i h1 h2; simp [zeros]
  rw [this]
  refine ⟨rfl, fun i v v' a b => ?_⟩
  rw [a] at b; cases b
  simp only [Array.getElem?_map, Option.map_eq_some_iff] at a
  obtain ⟨j, hj, rfl⟩ := a
  have hlt : j % z.cells.size < z.cells.size := Nat.mod_lt _ hk
  rw [getElem!_pos z.cells _ hlt]
  exact (CR.plain (φ := φ) (n := n) h).2 _ _ _ (Array.getElem?_eq_getElem hlt) (Array.getElem?_eq_getElem hlt)
theorem zeros_one (z : Value) (h : z.cells = #[z]) (k : Nat) : zeros z k = List.replicate k z := by
  unfold zeros
  rw [h]
  apply List.ext_getElem
  · simp
  · intro i h1 h2
    simp [Nat.mod_one]
end

def abuildSlice (P : Program) (A : St) (t : TypeId) (len : Nat) (parts : Array (Nat × Value)) : Option (Value × St) :=
  match telem P t with
  | none => none
  | some e =>
    match tsz P e, tzero P e with
    | some sz, some z =>
      if len * sz ≤ 16777216 ∧ 0 < z.cells.size then
        (afill (fun i => some (i * sz, sz)) (zeros z (len * sz)) parts.toList).map fun cs => (.slice (some ⟨A.next, 0, none⟩) len len, A.alloc (.cells cs e (some 0)))
      else none
    | _, _ => none
def amakeSlice (P : Program) (A : St) (t : TypeId) : Value → Value → Option (Value × St)
  | .int _ len, .int _ cap =>
    match telem P t with
    | none => none
    | some e =>
      match tsz P e, tbytes P e, tzero P e with
      | some sz, some bs, some z =>
        if 0 ≤ len ∧ len ≤ cap ∧ cap ≤ 9223372036854775807 ∧ (bs : Int) * cap ≤ 281474976710656 ∧ 0 < z.cells.size then
          some (.slice (some ⟨A.next, 0, none⟩) len.toNat cap.toNat, A.alloc (.cells (zeros z (cap.toNat * sz)) e (some 0)))
        else none
      | _, _, _ => none
  | _, _ => none
section
variable {P : Program} {w0 : World} {φ : Nat → Option Loc} {A : St} {w : World}
theorem telem_und {t e : TypeId} (h : telem P t = some e) : P.underlying t = some (.slice e) := by
  unfold telem at h
  split at h
  · rename_i h'
    split at h
    · cases h
    · cases h; exact h'
  · cases h

theorem telem_ne {t e : TypeId} (h : telem P t = some e) : e ≠ btype := by
  unfold telem at h
  split at h
  · split at h
    · cases h
    · rename_i h'; cases h; exact h'
  · cases h

theorem newSlice_rel {φ' : Nat → Option Loc} {nx len cap sz : Nat} {W : World} {C : Array Value} (hφ : φ' nx = some ⟨W.heap.size, 0, C.size⟩) (h : len ≤ cap) : VR φ' (nx + 1) (.slice (some ⟨nx, 0, none⟩) len cap) (.slice (some ⟨W.heap.size, 0, none⟩) len cap) :=
  .slice nx 0 none len cap _ cap (by omega) h (Nat.le_refl _) fun l hl => by rw [hφ] at hl; cases hl; exact .inl ⟨rfl, rfl⟩

theorem abuildSlice_sound (h : Sim w0 φ A w) {t : TypeId} {len : Nat} {parts parts' : Array (Nat × Value)} {v : Value} {A' : St} (e : abuildSlice P A t len parts = some (v, A')) (hl : parts.size = parts'.size)
    (hp : ∀ (j : Nat) (x x' : Nat × Value), parts[j]? = some x → parts'[j]? = some x' → x'.1 = x.1 ∧ VR φ A.next x.2 x'.2) :
    ∃ v' w' φ', (Instr.buildSlice t len parts').run P w = .ok v' w' ∧ VR φ' A'.next v v' ∧ Sim w0 φ' A' w' ∧ A.next ≤ A'.next ∧ Ext A.next φ φ' := by
  have hp' : ∀ (j : Nat) (x x' : Nat × Value), parts.toList[j]? = some x → parts'.toList[j]? = some x' → x'.1 = x.1 ∧ VR φ A.next x.2 x'.2 := fun j x x' a b => hp j x x' (by simpa using a) (by simpa using b)
  unfold abuildSlice at e
  split at e
  · cases e
  · rename_i el hel
    split at e
    · rename_i sz z hsz hz
      split at e
      · rename_i hc
        obtain ⟨hc1, hc2⟩ := hc
        simp only [Option.map_eq_some_iff, Prod.mk.injEq] at e
        obtain ⟨cs, hf, rfl, rfl⟩ := e
        obtain ⟨hzr, hzp⟩ := run_tzero (P := P) (w := w) hz
        obtain ⟨C, hr, hcr⟩ := fill_sound hf (zeros_rel hzp (len * sz) hc2) (by simpa using hl) hp'
        obtain ⟨φ', hs, he, hφ⟩ := h.newCells cs.toArray C el hcr
        refine ⟨.slice (some ⟨w.heap.size, 0, none⟩) len len, w.alloc (.cells C el), φ', ?_, newSlice_rel (sz := sz) hφ (Nat.le_refl _), by simpa using hs, by simp, he⟩
        simp only [Instr.buildSlice, Sem.run_bind, run_und (telem_und hel), Result.andThen_ok, run_tsz hsz, Sem.run_ite]
        rw [if_neg (by omega)]
        by_cases h0 : len * sz = 0
        · simp only [h0, if_true, Sem.run_pure, Result.andThen_ok, pure_bind]
          simp only [h0, Array.range_zero', List.map_toArray, List.map_nil] at hr
          have : (Array.range 0).map (fun x => (#[] : Array Value)[x % (#[] : Array Value).size]!) = #[] := by simp
          have hr' : Instr.fill (fun i => some (i * sz, sz)) #[] parts'.toList = some C := by simpa using hr
          simp only [this, hr', newRow, Sem.run_bind, run_newObj, Result.andThen_ok, Sem.run_pure, World.alloc_eq]
        · simp only [if_neg h0, Sem.run_bind, hzr, Result.andThen_ok, Sem.run_pure, pure_bind, hr, newRow, run_newObj, World.alloc_eq]
      · cases e
    · cases e

theorem wrap_small {i : Int} (h0 : 0 ≤ i) (h1 : i ≤ 9223372036854775807) : IntKind.i64.wrap i = i := by
  unfold IntKind.wrap
  have h2 : i % (2 ^ IntKind.i64.bits : Int) = i := Int.emod_eq_of_lt h0 (by simp only [IntKind.bits]; omega)
  simp only [h2]
  rw [if_neg]
  have h3 : ¬ (i ≥ (2 ^ (IntKind.i64.bits - 1) : Int)) := by
    have : (2 ^ (IntKind.i64.bits - 1) : Int) = 9223372036854775808 := by decide
    rw [this]; omega
  rw [decide_eq_false h3]; simp

theorem amakeSlice_sound (h : Sim w0 φ A w) {t : TypeId} {x y cx cy : Value} {v : Value} {A' : St} (e : amakeSlice P A t x y = some (v, A')) (hx : VR φ A.next x cx) (hy : VR φ A.next y cy) :
    ∃ v' w' φ', (Instr.makeSlice t cx cy).run P w = .ok v' w' ∧ VR φ' A'.next v v' ∧ Sim w0 φ' A' w' ∧ A.next ≤ A'.next ∧ Ext A.next φ φ' := by
  unfold amakeSlice at e
  split at e
  · rename_i k1 len k2 cap
    obtain rfl := hx.int_inv
    obtain rfl := hy.int_inv
    split at e
    · cases e
    · rename_i el hel
      split at e
      · rename_i sz bs z hsz hbs hz
        split at e
        · rename_i hc
          obtain ⟨c1, c2, c3, c4, c5⟩ := hc
          simp only [Option.some.injEq, Prod.mk.injEq] at e
          obtain ⟨rfl, rfl⟩ := e
          obtain ⟨hzr, hzp⟩ := run_tzero (P := P) (w := w) hz
          obtain ⟨ti, hti, rfl⟩ := run_tinfo (P := P) (w := w) hbs
          obtain ⟨φ', hs, he, hφ⟩ := h.newCells (zeros z (cap.toNat * sz)).toArray _ el (zeros_rel hzp (cap.toNat * sz) c5)
          refine ⟨.slice (some ⟨w.heap.size, 0, none⟩) len.toNat cap.toNat, _, φ', ?_, newSlice_rel (sz := sz) hφ (by omega), hs, by simp, he⟩
          have w1 := wrap_small c1 (by omega)
          have w2 := wrap_small (i := cap) (by omega) c3
          have ht1 : (decide (cap < 0) || decide ((ti.bytes : Int) * cap > 2 ^ 48)) = false := by simp; omega
          simp only [Instr.makeSlice, Sem.run_bind, run_und (telem_und hel), Result.andThen_ok, asInt, asIntOf, pure_bind, Sem.run_pure, hti, w1, w2, ht1]
          have ht2 : (false || decide (len < 0) || decide (len > cap)) = false := by simp; omega
          simp only [ht2, Bool.false_eq_true, if_false, Sem.run_bind, run_askRoom, Result.andThen_ok, run_tsz hsz, Sem.run_ite]
          by_cases h0 : cap.toNat * sz = 0
          · simp only [h0, if_true, Sem.run_pure, Result.andThen_ok, pure_bind, newRow, Sem.run_bind, run_newObj, World.alloc_eq]
            rw [show Array.range 0 = #[] from rfl]
            simp only [Array.map_empty]
          · simp only [if_neg h0, Sem.run_bind, hzr, Result.andThen_ok, Sem.run_pure, pure_bind, newRow, run_newObj, World.alloc_eq]
        · cases e
      · cases e
  · cases e
end
end Go.Fw
