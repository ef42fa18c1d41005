import Derived.Test.YtphfkbagjpcmpaaFw11
/-! One operation, whichever it is (but for calls of Go functions, panics, deferred calls). -/
set_option linter.unusedSimpArgs false
set_option linter.unusedVariables false
namespace Go.Fw
open Go.RowKit

def okO : Operand → Bool
  | .const v => plainV v
  | .global _ => false
  | _ => true

def anilCheck : Value → Option Value
  | .pointer (some a) => some (.pointer (some a))
  | .func (.func f) a b => some (.func (.func f) a b)
  | .func (.yield l) a b => some (.func (.yield l) a b)
  | _ => none
def notYield : Fn → Bool
  | .yield _ => false
  | _ => true
/-- clear, of a slice. -/
def aclear (P : Program) (A : St) (t : TypeId) (d : Value) : Option St :=
  match telem P t with
  | none => none
  | some e =>
    match d with
    | .slice base n _ =>
      if n = 0 then some A else
      match base with
      | none => none
      | some ⟨b, off, _⟩ =>
        match tzero P e with
        | none => none
        | some z =>
          match A.get b with
          | some (.cells cs e' (some m)) =>
            if m ≤ off ∧ off + (Builtin.zeroCells z.cells n).size ≤ cs.length ∧ (Builtin.zeroCells z.cells n).toList.all plain1 = true then some (A.upd b (some (.cells (setList cs off (Builtin.zeroCells z.cells n).toList) e' (some m)))) else none
          | _ => none
    | _ => none
def abuiltin (P : Program) (A : St) (b : Builtin) (ts : List TypeId) (xs : List Value) : Option (Value × St) :=
  match b, ts, xs with
  | .append, [sT, xT], [s, x] => aappend P A sT xT s x
  | .copy, [dT, _], [d, x] => acopy P A dT d x
  | .len, [t], [x] => (alen P t x).map (·, A)
  | .clear, [t], [x] => (aclear P A t x).map fun A' => (.tuple #[], A')
  | .min, _, xs => (amm false xs).map (·, A)
  | .max, _, xs => (amm true xs).map (·, A)
  | .unsafeSliceData, _, [x] => asliceData A x
  | .unsafeString, [pt, _], [.pointer p, .int .i64 n] => aunsafeStr P A pt p n
  | _, _, _ => none

def aop0 (P : Program) (op : Op) (ρ : Operand → Value) (A : St) : Option (Value × St) :=
  match op with
  | .move x | .assign x => some (ρ x, A)
  | .pick c a b => match ρ c with | .bool t => some (if t then ρ a else ρ b, A) | _ => none
  | .alloc t => (tzero P t).map fun z => (.pointer (some ⟨A.next, 0, none⟩), A.alloc (.cells z.cells.toList t (some 0)))
  | .box t x => some (.pointer (some ⟨A.next, 0, none⟩), A.alloc (.cells (ρ x).cells.toList t (some 0)))
  | .build t parts => (abuild P t (parts.map fun (i, x) => (i, ρ x))).map (·, A)
  | .buildSlice t len parts => abuildSlice P A t len (parts.map fun (i, x) => (i, ρ x))
  | .load t a => (aload P A t (ρ a)).map (·, A)
  | .store t a x => (astore P A t (ρ a) (ρ x)).map (undef, ·)
  | .nilCheck x => (anilCheck (ρ x)).map (·, A)
  | .binOp op t x y _ => (if t = bptr then abinA P A op t x y (ρ x) (ρ y) else abin P op t x y (ρ x) (ρ y)).map (·, A)
  | .makeMap _ none => some (.map (some A.next), A.alloc (.smap []))
  | .lookup t x k ok => (alookup P A t (ρ x) (ρ k) ok).map (·, A)
  | .mapUpdate t m k x => (amapSet P A t (ρ m) (ρ k) (ρ x)).map (undef, ·)
  | .unOp op _ x => (aun op (ρ x)).map (·, A)
  | .convert s d x => aconv P A s d (ρ x)
  | .makeInterface t x => (amkIface P t (ρ x)).map (·, A)
  | .makeFunc fn f c => if notYield fn then some (.func fn (f.map ρ) (c.map ρ), A) else none
  | .makeSlice t l c => amakeSlice P A t (ρ l) (ρ c)
  | .slice t x lo hi mx => (aslice P t (ρ x) (lo.map ρ) (hi.map ρ) (mx.map ρ)).map (·, A)
  | .fieldAddr s x f => (afieldAddr P s (ρ x) f).map (·, A)
  | .field s x f => (afield P s (ρ x) f).map (·, A)
  | .indexAddr t x i => (aindexAddr P t (ρ x) (ρ i)).map (·, A)
  | .index t x i => (aindex P t (ρ x) (ρ i)).map (·, A)
  | .extract x i => (aextract (ρ x) i).map (·, A)
  | .typeAssert x _ t ok => (aassert P (ρ x) t ok).map (·, A)
  | .call { callee := .builtin b, args, argTypes } => abuiltin P A b argTypes.toList (args.toList.map ρ)
  | _ => none
def aop (P : Program) (op : Op) (ρ : Operand → Value) (A : St) : Option (Value × St) := if op.operands.all okO then aop0 P op ρ A else none

section
variable {P : Program} {w0 : World} {φ : Nat → Option Loc} {A : St} {w : World}

theorem alen_sound {n : Nat} {t ty : TypeId} {x cx v : Value} (e : alen P t x = some v) (hx : VR φ n x cx) : (Builtin.len_ #[t] ty #[cx]).run P w = .ok v w ∧ VR φ n v v := by
  unfold alen at e
  split at e
  · rename_i s h; cases e; obtain rfl := hx.string_inv
    exact ⟨by simp only [Builtin.len_, List.getElem?_toArray, List.getElem?_cons_zero, Sem.run_bind, run_und h, Result.andThen_ok, Sem.run_pure, goInt], .int _ _⟩
  · rename_i m el h; cases e
    exact ⟨by simp only [Builtin.len_, List.getElem?_toArray, List.getElem?_cons_zero, Sem.run_bind, run_und h, Result.andThen_ok, Sem.run_pure, goInt], .int _ _⟩
  · rename_i el a m c h; cases e
    obtain ⟨a', c', rfl⟩ : ∃ a' c', cx = .slice a' m c' := by
      rcases hx.slice_inv with ⟨_, rfl, _, e⟩ | ⟨_, _, _, _, _, _, e, _⟩ <;> exact ⟨_, _, e⟩
    exact ⟨by simp only [Builtin.len_, List.getElem?_toArray, List.getElem?_cons_zero, Sem.run_bind, run_und h, Result.andThen_ok, Sem.run_pure, goInt], .int _ _⟩
  · rename_i k el h; cases e; cases hx
    exact ⟨by simp only [Builtin.len_, List.getElem?_toArray, List.getElem?_cons_zero, Sem.run_bind, run_und h, Result.andThen_ok, Sem.run_pure, goInt], .int _ _⟩
  · cases e
theorem amm_sound {n : Nat} {mx : Bool} {xs xs' : List Value} {v : Value} (e : amm mx xs = some v) (hx : xs.length = xs'.length) (hr : ∀ (i : Nat) (x x' : Value), xs[i]? = some x → xs'[i]? = some x' → VR φ n x x') :
    ∃ y r', xs' = y :: r' ∧ (r'.foldlM (if mx then Builtin.max2 else Builtin.min2) y).run P w = .ok v w ∧ VR φ n v v := by
  unfold amm at e
  split at e
  · rename_i k a r
    obtain ⟨x', r', rfl⟩ : ∃ x' r', xs' = x' :: r' := by
      cases xs' with
      | nil => simp at hx
      | cons x r => exact ⟨x, r, rfl⟩
    obtain rfl := (hr 0 _ x' rfl rfl).int_inv
    have hr' : ∀ (i : Nat) (y y' : Value), r[i]? = some y → r'[i]? = some y' → VR φ n y y' := fun i y y' a b => hr (i + 1) y y' (by simpa using a) (by simpa using b)
    have hl : r.length = r'.length := by simpa using hx
    clear hx hr
    refine ⟨_, _, rfl, ?_⟩
    induction r generalizing a r' with
    | nil =>
      obtain rfl : r' = [] := List.eq_nil_of_length_eq_zero (by simpa using hl.symm)
      cases e
      exact ⟨rfl, .int _ _⟩
    | cons y r ih =>
      cases r' with
      | nil => simp at hl
      | cons y' r' =>
        have hy := hr' 0 y y' rfl rfl
        simp only [List.foldlM_cons] at e ⊢
        cases y with
        | int k2 b =>
          obtain rfl := hy.int_inv
          simp only [amax2, Option.bind_eq_bind, Option.bind_some] at e
          have hstep : (if mx then Builtin.max2 else Builtin.min2) (.int k a) (.int k2 b) = pure (.int k (if mx then (if b > a then b else a) else (if b < a then b else a))) := by cases mx <;> rfl
          rw [hstep, pure_bind]
          exact ih _ e r' (fun i z z' p q => hr' (i + 1) z z' (by simpa using p) (by simpa using q)) (by simpa using hl)
        | _ => simp [amax2] at e
  · cases e

theorem plain1_cell {v : Value} (h : plain1 v = true) : cell1 v = true := by cases v <;> first | rfl | (simp [plain1] at h)
theorem clear_run0 {t el ty : TypeId} (hel : telem P t = some el) (base : Option Addr) (n c : Nat) (hn : n = 0 := by rfl) : (Builtin.clear_ #[t] ty #[.slice base n c]).run P w = .ok (.tuple #[]) w := by
  subst hn
  unfold Builtin.clear_
  simp only [List.getElem?_toArray, List.getElem?_cons_zero, Sem.run_bind, run_und (telem_und hel), Result.andThen_ok]
  cases base <;> rfl
theorem clear_run1 {t el ty : TypeId} (hel : telem P t = some el) (a : Addr) (n c : Nat) (hn : n ≠ 0) : (Builtin.clear_ #[t] ty #[.slice (some a) n c]).run P w = ((zeroValue el).run P w).andThen fun z w' => ((storeCells a (Builtin.zeroCells z.cells n).toList).run P w').andThen fun _ w'' => .ok (.tuple #[]) w'' := by
  obtain ⟨k, rfl⟩ : ∃ k, n = k + 1 := ⟨n - 1, by omega⟩
  unfold Builtin.clear_
  simp only [List.getElem?_toArray, List.getElem?_cons_zero, Sem.run_bind, run_und (telem_und hel), Result.andThen_ok]
  rfl
theorem aclear_sound (h : Sim w0 φ A w) {t ty : TypeId} {d cd : Value} {A' : St} (e : aclear P A t d = some A') (hd : VR φ A.next d cd) :
    ∃ w', (Builtin.clear_ #[t] ty #[cd]).run P w = .ok (.tuple #[]) w' ∧ Sim w0 φ A' w' ∧ A.next ≤ A'.next := by
  unfold aclear at e
  split at e
  · cases e
  · rename_i el hel
    split at e
    · rename_i base n cap
      split at e
      · rename_i hn
        cases e
        subst hn
        refine ⟨w, ?_, h, Nat.le_refl _⟩
        rcases hd.slice_inv with ⟨rfl, _, _, rfl⟩ | ⟨b, off, sp, ca, ccap, rfl, rfl, _⟩
        · exact clear_run0 hel _ _ _
        · exact clear_run0 hel _ _ _
      · rename_i hn
        rcases base with _ | ⟨b, off, sp⟩
        · cases e
        · simp only at e
          rcases hd.slice_inv with ⟨e0, _⟩ | ⟨b', off', sp', ca, ccap, e0, rfl, hb, hle, hcc, hloc⟩
          · cases e0
          · cases e0
            split at e
            · cases e
            · rename_i z hz
              split at e
              · rename_i cs e' m hg
                split at e
                · rename_i hc
                  obtain ⟨c1, c2, c3⟩ := hc
                  cases e
                  obtain ⟨_, l, hl, _⟩ := h.blk b _ hg
                  rcases hloc l hl with ⟨rfl, hcap⟩ | ⟨c4, _⟩
                  · rw [List.all_eq_true] at c3
                    obtain ⟨w', hr, hs'⟩ := Sim.store (P := P) hl off (Builtin.zeroCells z.cells n).toList (Builtin.zeroCells z.cells n).toList 0 A w cs h hg rfl (fun j v v' a b => by
                      rw [a] at b; cases b
                      have := c3 v (List.mem_of_getElem? a)
                      exact ⟨VR.plain1 this, plain1_cell this⟩) (by omega) (by simpa using c2)
                    refine ⟨w', ?_, hs', Nat.le_refl _⟩
                    rw [clear_run1 hel _ _ _ hn, (run_tzero hz).1, Result.andThen_ok]
                    show ((storeCells ⟨l.block, l.base + off, none⟩ _).run P w).andThen _ = _
                    rw [hr]; rfl
                  · omega
                · cases e
              · cases e
    · cases e
theorem list_args {n : Nat} {ρ ρ' : Operand → Value} (args : Array Operand) (hρ : ∀ x ∈ args, VR φ n (ρ x) (ρ' x)) : ∀ (i : Nat) (x x' : Value), (args.toList.map ρ)[i]? = some x → (args.map ρ').toList[i]? = some x' → VR φ n x x' := by
  intro i x x' a b
  rw [Array.toList_map] at b
  simp only [List.getElem?_map, Option.map_eq_some_iff] at a b
  obtain ⟨y, hy, rfl⟩ := a
  obtain ⟨y', hy', rfl⟩ := b
  rw [hy] at hy'; cases hy'
  exact hρ y (by simpa using List.mem_of_getElem? hy)

theorem abuiltin_sound (h : Sim w0 φ A w) {b : Builtin} {ts : Array TypeId} {ty : TypeId} {cs : Array Bool} {xs : List Value} {xs' : Array Value} {v : Value} {A' : St} (e : abuiltin P A b ts.toList xs = some (v, A')) (hl : xs.length = xs'.size)
    (hr : ∀ (i : Nat) (x x' : Value), xs[i]? = some x → xs'.toList[i]? = some x' → VR φ A.next x x') :
    ∃ v' w' φ', (builtin b ts ty cs xs').run P w = .ok (.value v') w' ∧ VR φ' A'.next v v' ∧ Sim w0 φ' A' w' ∧ A.next ≤ A'.next ∧ Ext A.next φ φ' := by
  obtain ⟨ts⟩ := ts
  obtain ⟨xs'⟩ := xs'
  simp only at e hr hl
  have hl' : xs.length = xs'.length := by simpa using hl
  have two : ∀ x y, xs = [x, y] → ∃ x' y', xs' = [x', y'] ∧ VR φ A.next x x' ∧ VR φ A.next y y' := by
    intro x y hx
    subst hx
    match xs', hl' with
    | [x', y'], _ => exact ⟨x', y', rfl, hr 0 _ _ rfl rfl, hr 1 _ _ rfl rfl⟩
  have one : ∀ x, xs = [x] → ∃ x', xs' = [x'] ∧ VR φ A.next x x' := by
    intro x hx
    subst hx
    match xs', hl' with
    | [x'], _ => exact ⟨x', rfl, hr 0 _ _ rfl rfl⟩
  unfold abuiltin at e
  split at e
  · obtain ⟨x', y', rfl, h1, h2⟩ := two _ _ rfl
    obtain ⟨v', w', φ', q1, q2⟩ := aappend_sound (P := P) (ty := ty) h e h1 h2
    exact ⟨v', w', φ', by simp only [builtin, Sem.run_bind, q1, Result.andThen_ok, Sem.run_pure], q2⟩
  · rename_i dT xT d x
    obtain ⟨x', y', rfl, h1, h2⟩ := two _ _ rfl
    obtain ⟨v', w', φ', q1, q2⟩ := acopy_sound (P := P) (ty := ty) (xT := xT) h e h1 h2
    exact ⟨v', w', φ', by simp only [builtin, Sem.run_bind, q1, Result.andThen_ok, Sem.run_pure], q2⟩
  · obtain ⟨x', rfl, h1⟩ := one _ rfl
    simp only [Option.map_eq_some_iff, Prod.mk.injEq] at e
    obtain ⟨v1, e, rfl, rfl⟩ := e
    obtain ⟨q1, q2⟩ := alen_sound (P := P) (w := w) (ty := ty) e h1
    exact ⟨_, w, φ, by simp only [builtin, Sem.run_bind, q1, Result.andThen_ok, Sem.run_pure], q2, h, Nat.le_refl _, Ext.refl _ _⟩
  · obtain ⟨x', rfl, h1⟩ := one _ rfl
    simp only [Option.map_eq_some_iff, Prod.mk.injEq] at e
    obtain ⟨A1, e, rfl, rfl⟩ := e
    obtain ⟨w', q1, q2, q3⟩ := aclear_sound (P := P) (w := w) (ty := ty) h e h1
    exact ⟨_, w', φ, by simp only [builtin, Sem.run_bind, q1, Result.andThen_ok, Sem.run_pure], .tuple _ _ rfl (fun i v v' a b => by simp at a), q2, q3, Ext.refl _ _⟩
  · simp only [Option.map_eq_some_iff, Prod.mk.injEq] at e
    obtain ⟨v1, e, rfl, rfl⟩ := e
    obtain ⟨y, r', rfl, q1, q2⟩ := amm_sound (P := P) (w := w) e hl' hr
    refine ⟨_, w, φ, ?_, q2, h, Nat.le_refl _, Ext.refl _ _⟩
    have q1' : (r'.foldlM Builtin.min2 y).run P w = .ok v1 w := q1
    simp only [builtin, Sem.run_bind, Builtin.min_, q1', Result.andThen_ok, Sem.run_pure]
  · simp only [Option.map_eq_some_iff, Prod.mk.injEq] at e
    obtain ⟨v1, e, rfl, rfl⟩ := e
    obtain ⟨y, r', rfl, q1, q2⟩ := amm_sound (P := P) (w := w) e hl' hr
    refine ⟨_, w, φ, ?_, q2, h, Nat.le_refl _, Ext.refl _ _⟩
    have q1' : (r'.foldlM Builtin.max2 y).run P w = .ok v1 w := q1
    simp only [builtin, Sem.run_bind, Builtin.max_, q1', Result.andThen_ok, Sem.run_pure]
  · obtain ⟨x', rfl, h1⟩ := one _ rfl
    obtain ⟨v', q1, q2, rfl⟩ := asliceData_sound (P := P) (ts := ts.toArray) (ty := ty) h e h1
    exact ⟨v', w, φ, by simp only [builtin, Sem.run_bind, q1, Result.andThen_ok, Sem.run_pure], q2, h, Nat.le_refl _, Ext.refl _ _⟩
  · rename_i pt it p n
    obtain ⟨x', y', rfl, h1, h2⟩ := two _ _ rfl
    obtain ⟨w', φ', q1, q2⟩ := aunsafeStr_sound (P := P) (it := it) (ty := ty) h e h1 h2
    exact ⟨v, w', φ', by simp only [builtin, Sem.run_bind, q1, Result.andThen_ok, Sem.run_pure], q2⟩
  · cases e

theorem orMap {n : Nat} {ρ ρ' : Operand → Value} {x : Option Operand} (h : ∀ y, x = some y → VR φ n (ρ y) (ρ' y)) : OR φ n (x.map ρ) (x.map ρ') := by
  cases x with
  | none => exact .none
  | some y => exact .some (h y rfl)

/-- **One operation**: what is told is what the machine does. -/
theorem aop_sound (h : Sim w0 φ A w) {o : Oper} {ρ ρ' : Operand → Value} (hρ : ∀ x, okO x = true → VR φ A.next (ρ x) (ρ' x)) {v : Value} {A' : St} (e : aop P o.op ρ A = some (v, A')) :
    ∃ nx v' w' φ', (execOp ρ' o).run P w = .ok nx w' ∧ (nx = .value v' ∨ nx = .skip ∧ v' = undef) ∧ VR φ' A'.next v v' ∧ Sim w0 φ' A' w' ∧ A.next ≤ A'.next ∧ Ext A.next φ φ' := by
  have pure_case : ∀ (s : Sem Value) (v v' : Value) (A' : St), (execOp ρ' o = do pure (.value (← s))) → s.run P w = .ok v' w → VR φ A.next v v' → A' = A →
      ∃ nx v' w' φ', (execOp ρ' o).run P w = .ok nx w' ∧ (nx = .value v' ∨ nx = .skip ∧ v' = undef) ∧ VR φ' A'.next v v' ∧ Sim w0 φ' A' w' ∧ A.next ≤ A'.next ∧ Ext A.next φ φ' := by
    intro s v v' A' h1 h2 h3 h4
    subst h4
    exact ⟨.value v', v', w, φ, by rw [h1]; simp only [Sem.run_bind, h2, Result.andThen_ok, Sem.run_pure], .inl rfl, h3, h, Nat.le_refl _, Ext.refl _ _⟩
  have mem_case : ∀ (s : Sem Value) (v : Value) (A' : St), (execOp ρ' o = do pure (.value (← s))) → (∃ v' w' φ', s.run P w = .ok v' w' ∧ VR φ' A'.next v v' ∧ Sim w0 φ' A' w' ∧ A.next ≤ A'.next ∧ Ext A.next φ φ') →
      ∃ nx v' w' φ', (execOp ρ' o).run P w = .ok nx w' ∧ (nx = .value v' ∨ nx = .skip ∧ v' = undef) ∧ VR φ' A'.next v v' ∧ Sim w0 φ' A' w' ∧ A.next ≤ A'.next ∧ Ext A.next φ φ' := by
    intro s v A' h1 ⟨v', w', φ', h2, h3⟩
    exact ⟨.value v', v', w', φ', by rw [h1]; simp only [Sem.run_bind, h2, Result.andThen_ok, Sem.run_pure], .inl rfl, h3⟩
  unfold aop at e
  split at e
  · rename_i hall
    rw [Array.all_eq_true'] at hall
    have hm : ∀ x, x ∈ o.op.operands → VR φ A.next (ρ x) (ρ' x) := fun x hx => hρ x (hall x hx)
    unfold aop0 at e
    split at e
    · rename_i x ho
      cases e
      exact ⟨.value (ρ' x), ρ' x, w, φ, by simp only [execOp, ho, Sem.run_pure], .inl rfl, hm x (by simp [ho, Op.operands]), h, Nat.le_refl _, Ext.refl _ _⟩
    · rename_i x ho
      cases e
      exact ⟨.value (ρ' x), ρ' x, w, φ, by simp only [execOp, ho, Sem.run_pure], .inl rfl, hm x (by simp [ho, Op.operands]), h, Nat.le_refl _, Ext.refl _ _⟩
    · rename_i c a b ho
      split at e
      · rename_i t hc
        cases e
        have h1 := hm c (by simp [ho, Op.operands])
        rw [hc] at h1
        have h1 := h1.bool_inv
        have h2 := hm a (by simp [ho, Op.operands])
        have h3 := hm b (by simp [ho, Op.operands])
        refine ⟨.value (if t then ρ' a else ρ' b), _, w, φ, by simp only [execOp, ho, h1, asBool, pure_bind, Sem.run_pure], .inl rfl, ?_, h, Nat.le_refl _, Ext.refl _ _⟩
        cases t
        · exact h3
        · exact h2
      · cases e
    · rename_i t ho
      simp only [Option.map_eq_some_iff, Prod.mk.injEq] at e
      obtain ⟨z, hz, rfl, rfl⟩ := e
      obtain ⟨hzr, hzp⟩ := run_tzero (P := P) (w := w) hz
      obtain ⟨φ', hs, he, hφ⟩ := h.newCells z.cells z.cells t (CR.plain hzp)
      refine ⟨.value (.pointer (some ⟨w.heap.size, 0, none⟩)), _, _, φ', ?_, .inl rfl, .ptr _ _ _ (by simp) fun l hl => ?_, hs, by simp, he⟩
      · simp only [execOp, ho, Instr.alloc, Sem.run_bind, hzr, Result.andThen_ok, newVar, newRow, run_newObj, Sem.run_pure, World.alloc_eq]
      · rw [hφ] at hl; cases hl; rfl
    · rename_i t x ho
      cases e
      obtain ⟨φ', hs, he, hφ⟩ := h.newCells (ρ x).cells (ρ' x).cells t (CR.of_cells (hm x (by simp [ho, Op.operands])))
      refine ⟨.value (.pointer (some ⟨w.heap.size, 0, none⟩)), _, _, φ', ?_, .inl rfl, .ptr _ _ _ (by simp) fun l hl => ?_, hs, by simp, he⟩
      · simp only [execOp, ho, Instr.box, Sem.run_bind, Result.andThen_ok, newVar, newRow, run_newObj, Sem.run_pure, World.alloc_eq]
      · rw [hφ] at hl; cases hl; rfl
    · rename_i t parts ho
      simp only [Option.map_eq_some_iff, Prod.mk.injEq] at e
      obtain ⟨v1, e, rfl, rfl⟩ := e
      obtain ⟨v', h1, h2⟩ := abuild_sound (P := P) (w := w) (φ := φ) (n := A.next) (parts' := parts.map fun (i, x) => (i, ρ' x)) e (by simp) (fun j x x' a b => by
        simp only [Array.getElem?_map, Option.map_eq_some_iff] at a b
        obtain ⟨y, hy, rfl⟩ := a
        obtain ⟨y', hy', rfl⟩ := b
        rw [hy] at hy'; cases hy'
        exact ⟨rfl, hm _ (by
          have := Array.mem_of_getElem? hy
          simp only [ho, Op.operands, List.mem_toArray, List.mem_map, Array.mem_toList_iff]
          exact ⟨y, this, rfl⟩)⟩)
      exact pure_case _ _ v' _ (by simp only [execOp, ho]) h1 h2 rfl
    · rename_i t len parts ho
      refine mem_case _ _ _ (by simp only [execOp, ho]) (abuildSlice_sound (parts' := parts.map fun (i, x) => (i, ρ' x)) h e (by simp) (fun j x x' a b => ?_))
      simp only [Array.getElem?_map, Option.map_eq_some_iff] at a b
      obtain ⟨y, hy, rfl⟩ := a
      obtain ⟨y', hy', rfl⟩ := b
      rw [hy] at hy'; cases hy'
      exact ⟨rfl, hm _ (by
        have := Array.mem_of_getElem? hy
        simp only [ho, Op.operands, List.mem_toArray, List.mem_map, Array.mem_toList_iff]
        exact ⟨y, this, rfl⟩)⟩
    · rename_i t a ho
      simp only [Option.map_eq_some_iff, Prod.mk.injEq] at e
      obtain ⟨v1, e, rfl, rfl⟩ := e
      obtain ⟨v', h1, h2⟩ := aload_sound (P := P) h e (hm a (by simp [ho, Op.operands]))
      exact pure_case _ _ v' _ (by simp only [execOp, ho]) h1 h2 rfl
    · rename_i t a x ho
      simp only [Option.map_eq_some_iff, Prod.mk.injEq] at e
      obtain ⟨A1, e, rfl, rfl⟩ := e
      obtain ⟨w', h1, h2, h3⟩ := astore_sound (P := P) h e (hm a (by simp [ho, Op.operands])) (hm x (by simp [ho, Op.operands]))
      exact ⟨.skip, undef, w', φ, by simp only [execOp, ho, Sem.run_bind, h1, Result.andThen_ok, Sem.run_pure], .inr ⟨rfl, rfl⟩, VR.undef, h2, by omega, Ext.refl _ _⟩
    · rename_i x ho
      simp only [Option.map_eq_some_iff, Prod.mk.injEq] at e
      obtain ⟨v1, e, rfl, rfl⟩ := e
      have hx := hm x (by simp [ho, Op.operands])
      unfold anilCheck at e
      split at e
      · rename_i a heq
        cases e
        rw [heq] at hx
        obtain ⟨b, off, sp⟩ := a
        have hx' := hx
        obtain ⟨ca, hca, _⟩ := hx.ptr_inv
        rw [hca] at hx'
        exact ⟨.value (.pointer (some ca)), _, w, φ, by simp only [execOp, ho, hca, Sem.run_pure], .inl rfl, hx', h, Nat.le_refl _, Ext.refl _ _⟩
      · rename_i f a b heq
        cases e
        rw [heq] at hx
        obtain ⟨f', c', hfc⟩ : ∃ f' c', ρ' x = .func (.func f) f' c' := by
          generalize ρ' x = y at hx
          cases hx; exact ⟨_, _, rfl⟩
        rw [hfc] at hx
        exact ⟨.value (.func (.func f) f' c'), _, w, φ, by simp only [execOp, ho, hfc, Sem.run_pure], .inl rfl, hx, h, Nat.le_refl _, Ext.refl _ _⟩
      · rename_i l a b heq
        cases e
        rw [heq] at hx
        obtain ⟨l', f', c', hfc⟩ : ∃ l' f' c', ρ' x = .func (.yield l') f' c' := by
          generalize ρ' x = y at hx
          cases hx with
          | func _ _ _ _ _ hfn => exact absurd rfl (hfn l)
          | yield => exact ⟨_, _, _, rfl⟩
        rw [hfc] at hx
        exact ⟨.value (.func (.yield l') f' c'), _, w, φ, by simp only [execOp, ho, hfc, Sem.run_pure], .inl rfl, hx, h, Nat.le_refl _, Ext.refl _ _⟩
      · cases e
    · rename_i op t x y yt ho
      simp only [Option.map_eq_some_iff, Prod.mk.injEq] at e
      obtain ⟨v1, e, rfl, rfl⟩ := e
      have hxy : (do eqGuard op t x y (ρ' x) (ρ' y); binOp op t (ρ' x) (ρ' y)).run P w = .ok v1 w ∧ VR φ A.next v1 v1 := by
        split at e
        · exact abinA_sound (P := P) h (xo' := x) (yo' := y) rfl rfl e (hm x (by simp [ho, Op.operands])) (hm y (by simp [ho, Op.operands]))
        · exact abin_sound (P := P) (w := w) (xo' := x) (yo' := y) rfl rfl e (hm x (by simp [ho, Op.operands])) (hm y (by simp [ho, Op.operands]))
      obtain ⟨h1, h2⟩ := hxy
      exact pure_case _ _ _ _ (by simp only [execOp, ho]) h1 h2 rfl
    · rename_i t ho
      cases e
      exact mem_case _ _ _ (by simp only [execOp, ho, Option.map_none]) (makeMap_sound h t)
    · rename_i t x k ok ho
      simp only [Option.map_eq_some_iff, Prod.mk.injEq] at e
      obtain ⟨v1, e, rfl, rfl⟩ := e
      obtain ⟨h1, h2⟩ := alookup_sound (P := P) h e (hm x (by simp [ho, Op.operands])) (hm k (by simp [ho, Op.operands]))
      exact pure_case _ _ _ _ (by simp only [execOp, ho]) h1 h2 rfl
    · rename_i t m k x ho
      simp only [Option.map_eq_some_iff, Prod.mk.injEq] at e
      obtain ⟨A1, e, rfl, rfl⟩ := e
      obtain ⟨w', h1, h2, h3⟩ := amapSet_sound (P := P) h e (hm m (by simp [ho, Op.operands])) (hm k (by simp [ho, Op.operands])) (hm x (by simp [ho, Op.operands]))
      exact ⟨.skip, undef, w', φ, by simp only [execOp, ho, Sem.run_bind, h1, Result.andThen_ok, Sem.run_pure], .inr ⟨rfl, rfl⟩, VR.undef, h2, by omega, Ext.refl _ _⟩
    · rename_i op t x ho
      simp only [Option.map_eq_some_iff, Prod.mk.injEq] at e
      obtain ⟨v1, e, rfl, rfl⟩ := e
      obtain ⟨h1, h2⟩ := aun_sound (P := P) (w := w) e (hm x (by simp [ho, Op.operands]))
      exact pure_case _ _ _ _ (by simp only [execOp, ho]) h1 h2 rfl
    · rename_i s d x ho
      exact mem_case _ _ _ (by simp only [execOp, ho]) (aconv_sound h e (hm x (by simp [ho, Op.operands])))
    · rename_i t x ho
      simp only [Option.map_eq_some_iff, Prod.mk.injEq] at e
      obtain ⟨v1, e, rfl, rfl⟩ := e
      obtain ⟨v', h1, h2⟩ := amkIface_sound (P := P) (w := w) e (hm x (by simp [ho, Op.operands]))
      exact pure_case _ _ v' _ (by simp only [execOp, ho]) h1 h2 rfl
    · rename_i fn f c ho
      split at e
      · rename_i hfn
        cases e
        have h1 : CR φ A.next (f.map ρ) (f.map ρ') := CR.map f ρ ρ' fun x hx => hm x (by simp [ho, Op.operands, hx])
        have h2 : CR φ A.next (c.map ρ) (c.map ρ') := CR.map c ρ ρ' fun x hx => hm x (by simp [ho, Op.operands, hx])
        refine ⟨.value (.func fn (f.map ρ') (c.map ρ')), _, w, φ, by simp only [execOp, ho, Instr.makeFunc, pure_bind, Sem.run_pure], .inl rfl, .func _ _ _ _ _ (fun l hl => ?_) h1.1 h2.1 h1.2 h2.2, h, Nat.le_refl _, Ext.refl _ _⟩
        subst hl; simp [notYield] at hfn
      · cases e
    · rename_i t l c ho
      exact mem_case _ _ _ (by simp only [execOp, ho]) (amakeSlice_sound h e (hm l (by simp [ho, Op.operands])) (hm c (by simp [ho, Op.operands])))
    · rename_i t x lo hi mx ho
      simp only [Option.map_eq_some_iff, Prod.mk.injEq] at e
      obtain ⟨v1, e, rfl, rfl⟩ := e
      obtain ⟨v', h1, h2⟩ := aslice_sound (P := P) (w := w) e (hm x (by simp [ho, Op.operands])) (orMap (x := lo) fun y hy => hm y (by simp [ho, Op.operands, hy])) (orMap (x := hi) fun y hy => hm y (by simp [ho, Op.operands, hy])) (orMap (x := mx) fun y hy => hm y (by simp [ho, Op.operands, hy]))
      exact pure_case _ _ v' _ (by simp only [execOp, ho]) h1 h2 rfl
    · rename_i s x f ho
      simp only [Option.map_eq_some_iff, Prod.mk.injEq] at e
      obtain ⟨v1, e, rfl, rfl⟩ := e
      obtain ⟨v', h1, h2⟩ := afieldAddr_sound (P := P) (w := w) e (hm x (by simp [ho, Op.operands]))
      exact pure_case _ _ v' _ (by simp only [execOp, ho]) h1 h2 rfl
    · rename_i s x f ho
      simp only [Option.map_eq_some_iff, Prod.mk.injEq] at e
      obtain ⟨v1, e, rfl, rfl⟩ := e
      obtain ⟨v', h1, h2⟩ := afield_sound (P := P) (w := w) e (hm x (by simp [ho, Op.operands]))
      exact pure_case _ _ v' _ (by simp only [execOp, ho]) h1 h2 rfl
    · rename_i t x i ho
      simp only [Option.map_eq_some_iff, Prod.mk.injEq] at e
      obtain ⟨v1, e, rfl, rfl⟩ := e
      obtain ⟨v', h1, h2⟩ := aindexAddr_sound (P := P) (w := w) e (hm x (by simp [ho, Op.operands])) (hm i (by simp [ho, Op.operands]))
      exact pure_case _ _ v' _ (by simp only [execOp, ho]) h1 h2 rfl
    · rename_i t x i ho
      simp only [Option.map_eq_some_iff, Prod.mk.injEq] at e
      obtain ⟨v1, e, rfl, rfl⟩ := e
      obtain ⟨v', h1, h2⟩ := aindex_sound (P := P) (w := w) e (hm x (by simp [ho, Op.operands])) (hm i (by simp [ho, Op.operands]))
      exact pure_case _ _ v' _ (by simp only [execOp, ho]) h1 h2 rfl
    · rename_i x i ho
      simp only [Option.map_eq_some_iff, Prod.mk.injEq] at e
      obtain ⟨v1, e, rfl, rfl⟩ := e
      obtain ⟨v', h1, h2⟩ := aextract_sound (P := P) (w := w) e (hm x (by simp [ho, Op.operands]))
      exact pure_case _ _ v' _ (by simp only [execOp, ho]) h1 h2 rfl
    · rename_i x xt t ok ho
      simp only [Option.map_eq_some_iff, Prod.mk.injEq] at e
      obtain ⟨v1, e, rfl, rfl⟩ := e
      obtain ⟨v', h1, h2⟩ := aassert_sound (P := P) (w := w) (xt := xt) e (hm x (by simp [ho, Op.operands]))
      exact pure_case _ _ v' _ (by simp only [execOp, ho]) h1 h2 rfl
    · rename_i b args ts ho
      obtain ⟨v', w', φ', h1, h2⟩ := abuiltin_sound (P := P) (ty := o.type) (cs := args.map fun | .const _ => true | _ => false) (xs' := args.map ρ') h e (by simp) (list_args args fun x hx => hm x (by simp [ho, Op.operands, Call.operands, hx]))
      exact ⟨.value v', v', w', φ', by simp only [execOp, ho, resolve, pure_bind, invoke]; exact h1, .inl rfl, h2⟩
    · cases e
  · cases e
end
end Go.Fw
