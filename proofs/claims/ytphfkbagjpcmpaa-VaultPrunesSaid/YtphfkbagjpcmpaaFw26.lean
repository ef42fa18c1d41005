import Derived.Test.YtphfkbagjpcmpaaFw25
/-! Values put together of parts; new slices of parts; stores of structs. -/
set_option linter.unusedSimpArgs false
set_option linter.unusedVariables false
namespace Go.Fw
open Go.RowKit
section
variable {P : Program} {A : St}
theorem aw_hide {w0 : World} {n0 : Nat} {nr : Bool} {c : Code} {Q0 : Exit → Act → St → Prop} {a : Act} (h : ∀ Q, Q = Q0 → AW P w0 n0 nr c Q a A) : AW P w0 n0 nr c Q0 a A := h _ rfl
/-- Parts' values, and whether they may be looked at. -/
def evP (a : Act) : List (Nat × Operand) → List (Nat × Value)
  | [] => []
  | (i, x) :: r => (i, a.eval x) :: evP a r
def okP (l : List (Nat × Operand)) : Bool := (l.map (·.2)).all okO
theorem evP_nil (a : Act) : evP a [] = [] := Eq.trans rfl rfl
theorem evP_cons (a : Act) (i : Nat) (x : Operand) (r : List (Nat × Operand)) : evP a ((i, x) :: r) = (i, a.eval x) :: evP a r := Eq.trans rfl rfl
theorem evP_map (a : Act) : ∀ l : List (Nat × Operand), l.map (fun (i, x) => (i, a.eval x)) = evP a l
  | [] => rfl
  | (i, x) :: r => by rw [List.map_cons, evP_cons, evP_map a r]
theorem okP_nil : okP [] = true := Eq.trans rfl rfl
theorem okP_cons (i : Nat) (x : Operand) (r : List (Nat × Operand)) : okP ((i, x) :: r) = (okO x && okP r) := Eq.trans rfl rfl
theorem op_buildL {w0 : World} {nr : Bool} {d : Option Tmp} {ty : TypeId} {pos : String} {aft : Array Edge} {g : Option (Nat × Bool)} {a : Act} {next : Act → St → Prop} {Q : Exit → Act → St → Prop} (t : TypeId) (l : List (Nat × Operand)) : aoper P w0 nr ⟨d, .build t l.toArray, ty, pos, aft, g⟩ a A next Q = stepV (guardO (okP l) (abuild P t (evP a l).toArray)) next a d A := by
  rw [op_build, ← evP_map]; simp [okP]
theorem op_buildSliceL {w0 : World} {nr : Bool} {d : Option Tmp} {ty : TypeId} {pos : String} {aft : Array Edge} {g : Option (Nat × Bool)} {a : Act} {next : Act → St → Prop} {Q : Exit → Act → St → Prop} (t : TypeId) (n : Nat) (l : List (Nat × Operand)) : aoper P w0 nr ⟨d, .buildSlice t n l.toArray, ty, pos, aft, g⟩ a A next Q = stepA (guardO (okP l) (abuildSlice P A t n (evP a l).toArray)) next a d := by
  rw [op_buildSlice, ← evP_map]; simp [okP]
theorem len_cons {α : Type} (a : α) (l : List α) : (a :: l).length = l.length + 1 := Eq.trans rfl rfl
theorem len_nil {α : Type} : ([] : List α).length = 0 := Eq.trans rfl rfl
theorem cells_int (k : IntKind) (i : Int) : (Value.int k i).cells = #[.int k i] := Eq.trans rfl rfl
theorem cells_bool (b : Bool) : (Value.bool b).cells = #[.bool b] := Eq.trans rfl rfl
theorem cells_string (b : ByteArray) : (Value.string b).cells = #[.string b] := Eq.trans rfl rfl
theorem cells_slice (a : Option Addr) (n c : Nat) : (Value.slice a n c).cells = #[.slice a n c] := Eq.trans rfl rfl
theorem cells_pointer (a : Option Addr) : (Value.pointer a).cells = #[.pointer a] := Eq.trans rfl rfl
theorem cells_func (f : Fn) (x y : Array Value) : (Value.func f x y).cells = #[.func f x y] := Eq.trans rfl rfl
theorem cells_map (r : Option Nat) : (Value.map r).cells = #[.map r] := Eq.trans rfl rfl
theorem cells_nilFunc : (Value.nilFunc).cells = #[.nilFunc] := Eq.trans rfl rfl
theorem cells_agg (cs : Array Value) : (Value.agg cs).cells = cs := Eq.trans rfl rfl
theorem cell1_bool (b : Bool) : cell1 (.bool b) = true := Eq.trans rfl rfl
theorem cell1_string (b : ByteArray) : cell1 (.string b) = true := Eq.trans rfl rfl
theorem cell1_slice (a : Option Addr) (n c : Nat) : cell1 (.slice a n c) = true := Eq.trans rfl rfl
theorem cell1_pointer (a : Option Addr) : cell1 (.pointer a) = true := Eq.trans rfl rfl
theorem cell1_func (f : Fn) (x y : Array Value) : cell1 (.func f x y) = true := Eq.trans rfl rfl
theorem cell1_i (k : IntKind) (i : Int) : cell1 (.int k i) = true := Eq.trans rfl rfl
theorem cell1_map (r : Option Nat) : cell1 (.map r) = true := Eq.trans rfl rfl
theorem cell1_nilFunc : cell1 .nilFunc = true := Eq.trans rfl rfl
theorem setList_nil (cs : List Value) (off : Nat) : setList cs off [] = cs := Eq.trans rfl rfl
theorem setList_cons (cs : List Value) (off : Nat) (v : Value) (r : List Value) : setList cs off (v :: r) = setList (cs.set off v) (off + 1) r := Eq.trans rfl rfl
theorem Row.ne {e sz lo : Nat} {cs : List Value} {len b : Nat} {v : Value} (h : Row A e sz lo cs len v) (hb : b < lo) : rowB v ≠ some b := by
  rcases h.2 with ⟨_, rfl⟩ | ⟨c, sp, rfl, _, hc, _⟩
  · exact fun h => by cases h
  · exact fun h => by cases h; omega
/-- A store of a struct. -/
theorem storeC_aggS (sz b off k : Nat) (cs : List Value) (e : TypeId) (l : List Value) (h : sz = l.length) (h1 : k ≤ off) (h2 : off + sz ≤ cs.length) : storeC A (some sz) (some (.cells cs e (some k))) b off (.agg l.toArray) = guardO (l.all cell1) (some (A.upd b (some (.cells (setList cs off l) e (some k))))) := by
  subst h
  by_cases hc : l.all cell1 = true
  · rw [hc, guardO_true, storeC_cells]
    · rw [cells_agg]
    · rw [cells_agg]
      exact ⟨by simp, h1, by simpa using h2, by rw [List.all_toArray]; exact hc⟩
  · rw [Bool.not_eq_true] at hc
    rw [hc]
    simp only [storeC, cells_agg, List.size_toArray, List.all_toArray, hc]
    simp [guardO]
    intro _ _
    simpa using hc
/-- Parts laid into cells, by a table of places. -/
def fillP (tab : List (Nat × Nat)) (cells : List Value) : List (Nat × Value) → Option (List Value)
  | [] => some cells
  | (i, v) :: rest => match tab[i]? with
    | none => none
    | some (off, size) => if v.cells.size = size ∧ off + size ≤ cells.length then fillP tab (setList cells off v.cells.toList) rest else none
def fillAt (tab : List (Nat × Nat)) (cells : List Value) (o : Option (Nat × Nat)) (c : Array Value) (rest : List (Nat × Value)) : Option (List Value) :=
  match o with
  | none => none
  | some (off, size) => if c.size = size ∧ off + size ≤ cells.length then fillP tab (setList cells off c.toList) rest else none
theorem fillP_nil (tab : List (Nat × Nat)) (cells : List Value) : fillP tab cells [] = some cells := Eq.trans rfl rfl
theorem fillP_cons (tab : List (Nat × Nat)) (cells : List Value) (i : Nat) (v : Value) (rest : List (Nat × Value)) : fillP tab cells ((i, v) :: rest) = fillAt tab cells tab[i]? v.cells rest := by
  unfold fillAt; rw [fillP]
theorem fillAt_some (tab : List (Nat × Nat)) (cells : List Value) (off : Nat) (c : List Value) (rest : List (Nat × Value)) (h : off + c.length ≤ cells.length) : fillAt tab cells (some (off, c.length)) c.toArray rest = fillP tab (setList cells off c) rest := by
  simp [fillAt, h]
theorem fillAt_1 (tab : List (Nat × Nat)) (cells : List Value) (off : Nat) (c : Value) (rest : List (Nat × Value)) (h : off + 1 ≤ cells.length) : fillAt tab cells (some (off, 1)) #[c] rest = fillP tab (cells.set off c) rest := by
  simp [fillAt, h, setList]
theorem fillAt_n (tab : List (Nat × Nat)) (cells : List Value) (off n : Nat) (c : List Value) (rest : List (Nat × Value)) (hn : n = c.length) (h : off + n ≤ cells.length) : fillAt tab cells (some (off, n)) c.toArray rest = fillP tab (setList cells off c) rest := by
  subst hn; exact fillAt_some _ _ _ _ _ h
theorem fill_eq {f : Nat → Option (Nat × Nat)} {tab : List (Nat × Nat)} : ∀ (ps : List (Nat × Value)) (cells : List Value), (∀ i, (∃ v, (i, v) ∈ ps) → f i = tab[i]?) → afill f cells ps = fillP tab cells ps
  | [], cells, _ => rfl
  | (i, v) :: ps, cells, h => by
    rw [afill, fillP, h i ⟨v, List.mem_cons_self ..⟩]
    rcases tab[i]? with _ | ⟨off, size⟩
    · rfl
    · simp only
      split
      · exact fill_eq ps _ fun j ⟨u, hu⟩ => h j ⟨u, List.mem_cons_of_mem _ hu⟩
      · rfl
def aggO (o : Option (List Value)) : Option Value := o.map fun cs => .agg cs.toArray
theorem aggO_some (l : List Value) : aggO (some l) = some (.agg l.toArray) := Eq.trans rfl rfl
theorem build_struct {t : TypeId} {fs : Array Field} {z : Value} {tab : List (Nat × Nat)} (hu : P.underlying t = some (.struct fs)) (hz : tzero P t = some z) (ht : fs.toList.map (fun f => (tsz P f.type).map fun s => (f.offset, s)) = tab.map some) (ps : List (Nat × Value)) : abuild P t ps.toArray = aggO (fillP tab z.cells.toList ps) := by
  have ha : fs.all (fun f => (tsz P f.type).isSome) = true := by
    rw [← Array.all_toList, List.all_eq_true]
    intro f hf
    have := List.mem_map_of_mem (f := fun f : Field => (tsz P f.type).map fun s => (f.offset, s)) hf
    rw [ht] at this
    obtain ⟨x, _, hx⟩ := List.mem_map.1 this
    cases h : tsz P f.type with
    | none => rw [h] at hx; cases hx
    | some _ => rfl
  have hp : ∀ i, aplace P fs i = tab[i]? := fun i => by
    have h := congrArg (fun l => l[i]?) ht
    simp only [List.getElem?_map] at h
    unfold aplace
    rw [← Array.getElem?_toList]
    cases h1 : fs.toList[i]? with
    | none => rw [h1] at h; cases h2 : tab[i]? with
      | none => rfl
      | some _ => rw [h2] at h; cases h
    | some f => rw [h1] at h; cases h2 : tab[i]? with
      | none => rw [h2] at h; cases h
      | some _ => rw [h2] at h; simp at h ⊢; exact h
  unfold abuild
  rw [hu, hz]
  simp only [ha, if_true]
  rw [fill_eq ps z.cells.toList (fun i _ => hp i)]
  rfl
/-- New slices of parts. -/
def sliceO (A : St) (n : Nat) (e : TypeId) (o : Option (List Value)) : Option (Value × St) := o.map fun cs => (.slice (some ⟨A.next, 0, none⟩) n n, A.alloc (.cells cs e (some 0)))
theorem sliceO_some (n : Nat) (e : TypeId) (l : List Value) : sliceO A n e (some l) = some (.slice (some ⟨A.next, 0, none⟩) n n, A.alloc (.cells l e (some 0))) := Eq.trans rfl rfl
/-- The places of so many elements. -/
def places (sz : Nat) : Nat → Nat → List (Nat × Nat)
  | 0, _ => []
  | n + 1, off => (off, sz) :: places sz n (off + sz)
theorem places_at (sz : Nat) : ∀ (n off i : Nat), i < n → (places sz n off)[i]? = some (off + i * sz, sz)
  | 0, _, _, h => by omega
  | n + 1, off, 0, _ => by simp [places]
  | n + 1, off, i + 1, h => by
    rw [places, List.getElem?_cons_succ, places_at sz n _ i (by omega), Nat.add_mul]
    congr 2; omega
theorem places_0 (sz off : Nat) : places sz 0 off = [] := Eq.trans rfl rfl
theorem places_s (sz n off : Nat) : places sz (n + 1) off = (off, sz) :: places sz n (off + sz) := Eq.trans rfl rfl
def zerosR (z : List Value) : Nat → List Value
  | 0 => []
  | n + 1 => z ++ zerosR z n
theorem zerosR_0 (z : List Value) : zerosR z 0 = [] := Eq.trans rfl rfl
theorem zerosR_s (z : List Value) (n : Nat) : zerosR z (n + 1) = z ++ zerosR z n := Eq.trans rfl rfl
theorem zerosR_length (z : List Value) : ∀ n, (zerosR z n).length = n * z.length
  | 0 => by simp [zerosR]
  | n + 1 => by rw [zerosR, List.length_append, zerosR_length z n, Nat.add_mul]; omega
theorem zerosR_at (z : List Value) (hz : 0 < z.length) : ∀ (n i : Nat), i < n * z.length → (zerosR z n)[i]? = z[i % z.length]?
  | 0, i, h => by simp at h
  | n + 1, i, h => by
    rw [zerosR]
    by_cases hi : i < z.length
    · rw [List.getElem?_append_left hi, Nat.mod_eq_of_lt hi]
    · rw [Nat.add_mul] at h
      rw [List.getElem?_append_right (by omega), zerosR_at z hz n (i - z.length) (by omega), ← Nat.mod_eq_sub_mod (by omega)]
theorem zeros_eq {z : Value} {sz : Nat} (hz : z.cells.size = sz) (hs : 0 < sz) (n : Nat) : zeros z (n * sz) = zerosR z.cells.toList n := by
  subst hz
  apply List.ext_getElem?
  intro i
  by_cases hi : i < n * z.cells.size
  · rw [zerosR_at _ (by simpa using hs) _ _ (by simpa using hi)]
    unfold zeros
    rw [List.getElem?_map, List.getElem?_range hi]
    have hm : i % z.cells.size < z.cells.size := Nat.mod_lt _ hs
    simp only [Option.map_some, Array.length_toList, Array.getElem?_toList]
    rw [Array.getElem?_eq_getElem hm, getElem!_pos z.cells _ hm]
  · rw [List.getElem?_eq_none (by simp [zeros]; omega), List.getElem?_eq_none (by rw [zerosR_length]; simp; omega)]
theorem buildSlice_eq {t e sz : Nat} {z : Value} (hel : telem P t = some e) (hsz : tsz P e = some sz) (hz : tzero P e = some z) (hzc : z.cells.size = sz) (hs : 0 < sz) (n : Nat) (ps : List (Nat × Value)) (hps : ps.all (fun p => p.1 < n) = true) (hn : n * sz ≤ 16777216) :
    abuildSlice P A t n ps.toArray = sliceO A n e (fillP (places sz n 0) (zerosR z.cells.toList n) ps) := by
  unfold abuildSlice
  simp only [hel, hsz, hz]
  rw [if_pos ⟨hn, by omega⟩, zeros_eq hzc hs, fill_eq (tab := places sz n 0) ps]
  · rfl
  · rintro i ⟨v, hv⟩
    have : i < n := by simpa using List.all_eq_true.1 hps _ hv
    rw [places_at _ _ _ _ this, Nat.zero_add]
def bslRaw (P : Program) (A : St) (t : TypeId) (n : Nat) (ps : List (Nat × Value)) : Option (Value × St) := abuildSlice P A t n ps.toArray
def thenElse {α : Type} (b : Bool) (x y : α) : α := if b then x else y
theorem thenElse_true {α : Type} (x y : α) : thenElse true x y = x := Eq.trans rfl rfl
theorem buildSlice_of {t e sz : Nat} {z : Value} (hel : telem P t = some e) (hsz : tsz P e = some sz) (hz : tzero P e = some z) (hzc : z.cells.size = sz) (hs : 0 < sz) (n : Nat) (ps : List (Nat × Value)) (hn : n * sz ≤ 16777216) :
    abuildSlice P A t n ps.toArray = thenElse (ps.all (fun p => decide (p.1 < n))) (sliceO A n e (fillP (places sz n 0) (zerosR z.cells.toList n) ps)) (bslRaw P A t n ps) := by
  unfold thenElse bslRaw
  split
  · rename_i h
    exact buildSlice_eq hel hsz hz hzc hs n ps h hn
  · rfl
end
end Go.Fw
