import Derived.Test.YtphfkbagjpcmpaaFw17
import Derived.Orders
/-! Drawn regions whose operations leave the heap as it is: any order comes to what the text's order comes to. -/
set_option linter.unusedSimpArgs false
set_option linter.unusedVariables false
namespace Go.Fw
open Go.RowKit

def noQ : Exit → Act → St → Prop := fun _ _ _ => False
def calm (A0 : St) (K : Act → St → Prop) (a : Act) (A : St) : Prop := A = A0 ∧ K a A
theorem calm_same (A : St) (K : Act → St → Prop) (a : Act) : calm A K a A = K a A := by simp [calm]
def stepC (P : Program) (w0 : World) (o : Oper) (K : Act → St → Prop) (a : Act) (A : St) : Prop :=
  match o.op with
  | .call { callee := .value f, args, argTypes := _ } => callV (okO f && args.all okO) (∃ v, ACallV P w0 (a.eval f) (args.map a.eval) A (fin v A) ∧ K (a.put o.dst v) A)
  | .panic _ => False
  | .defer _ => False
  | _ => aoper P w0 true o a A (calm A K) noQ
def skipC (o : Oper) (K : Act → St → Prop) (a : Act) (A : St) : Prop := K (a.put o.dst undef) A
theorem skipC_eq (o : Oper) (K : Act → St → Prop) (a : Act) (A : St) : skipC o K a A = K (a.put o.dst undef) A := Eq.trans rfl rfl
def aopsC (P : Program) (w0 : World) (ds : List (Option Tmp)) (Q : Exit → Act → St → Prop) : List Oper → Act → St → Prop
  | [], a, A => Q .normal a A
  | o :: rest, a, A => ifB (wanted' ds o.guard a.tmps) (stepC P w0 o (aopsC P w0 ds Q rest)) (skipC o (aopsC P w0 ds Q rest)) a A
theorem aopsC_nil (P : Program) (w0 : World) (ds : List (Option Tmp)) (Q : Exit → Act → St → Prop) (a : Act) (A : St) : aopsC P w0 ds Q [] a A = Q .normal a A := Eq.trans rfl rfl
theorem aopsC_cons (P : Program) (w0 : World) (ds : List (Option Tmp)) (Q : Exit → Act → St → Prop) (o : Oper) (rest : List Oper) (a : Act) (A : St) : aopsC P w0 ds Q (o :: rest) a A = ifB (wanted' ds o.guard a.tmps) (stepC P w0 o (aopsC P w0 ds Q rest)) (skipC o (aopsC P w0 ds Q rest)) a A := Eq.trans rfl rfl
section
variable (P : Program) (w0 : World) (d : Option Tmp) (ty : TypeId) (pos : String) (aft : Array Edge) (g : Option (Nat × Bool)) (K : Act → St → Prop) (a : Act) (A : St)
theorem stepC_call (f : Operand) (args : Array Operand) (ts : Array TypeId) : stepC P w0 ⟨d, .call { callee := .value f, args, argTypes := ts }, ty, pos, aft, g⟩ K a A = callV (okO f && args.all okO) (∃ v, ACallV P w0 (a.eval f) (args.map a.eval) A (fin v A) ∧ K (a.put d v) A) := Eq.trans rfl rfl
theorem stepC_move (x : Operand) : stepC P w0 ⟨d, .move x, ty, pos, aft, g⟩ K a A = aoper P w0 true ⟨d, .move x, ty, pos, aft, g⟩ a A (calm A K) noQ := Eq.trans rfl rfl
theorem stepC_assign (x : Operand) : stepC P w0 ⟨d, .assign x, ty, pos, aft, g⟩ K a A = aoper P w0 true ⟨d, .assign x, ty, pos, aft, g⟩ a A (calm A K) noQ := Eq.trans rfl rfl
theorem stepC_pick (x y z : Operand) : stepC P w0 ⟨d, .pick x y z, ty, pos, aft, g⟩ K a A = aoper P w0 true ⟨d, .pick x y z, ty, pos, aft, g⟩ a A (calm A K) noQ := Eq.trans rfl rfl
theorem stepC_alloc (t : TypeId) : stepC P w0 ⟨d, .alloc t, ty, pos, aft, g⟩ K a A = aoper P w0 true ⟨d, .alloc t, ty, pos, aft, g⟩ a A (calm A K) noQ := Eq.trans rfl rfl
theorem stepC_box (t : TypeId) (x : Operand) : stepC P w0 ⟨d, .box t x, ty, pos, aft, g⟩ K a A = aoper P w0 true ⟨d, .box t x, ty, pos, aft, g⟩ a A (calm A K) noQ := Eq.trans rfl rfl
theorem stepC_build (t : TypeId) (ps : Array (Nat × Operand)) : stepC P w0 ⟨d, .build t ps, ty, pos, aft, g⟩ K a A = aoper P w0 true ⟨d, .build t ps, ty, pos, aft, g⟩ a A (calm A K) noQ := Eq.trans rfl rfl
theorem stepC_buildSlice (t : TypeId) (n : Nat) (ps : Array (Nat × Operand)) : stepC P w0 ⟨d, .buildSlice t n ps, ty, pos, aft, g⟩ K a A = aoper P w0 true ⟨d, .buildSlice t n ps, ty, pos, aft, g⟩ a A (calm A K) noQ := Eq.trans rfl rfl
theorem stepC_load (t : TypeId) (x : Operand) : stepC P w0 ⟨d, .load t x, ty, pos, aft, g⟩ K a A = aoper P w0 true ⟨d, .load t x, ty, pos, aft, g⟩ a A (calm A K) noQ := Eq.trans rfl rfl
theorem stepC_store (t : TypeId) (x y : Operand) : stepC P w0 ⟨d, .store t x y, ty, pos, aft, g⟩ K a A = aoper P w0 true ⟨d, .store t x y, ty, pos, aft, g⟩ a A (calm A K) noQ := Eq.trans rfl rfl
theorem stepC_nilCheck (x : Operand) : stepC P w0 ⟨d, .nilCheck x, ty, pos, aft, g⟩ K a A = aoper P w0 true ⟨d, .nilCheck x, ty, pos, aft, g⟩ a A (calm A K) noQ := Eq.trans rfl rfl
theorem stepC_binOp (op : BinOp) (t u : TypeId) (x y : Operand) : stepC P w0 ⟨d, .binOp op t x y u, ty, pos, aft, g⟩ K a A = aoper P w0 true ⟨d, .binOp op t x y u, ty, pos, aft, g⟩ a A (calm A K) noQ := Eq.trans rfl rfl
theorem stepC_unOp (op : UnOp) (t : TypeId) (x : Operand) : stepC P w0 ⟨d, .unOp op t x, ty, pos, aft, g⟩ K a A = aoper P w0 true ⟨d, .unOp op t x, ty, pos, aft, g⟩ a A (calm A K) noQ := Eq.trans rfl rfl
theorem stepC_convert (t u : TypeId) (x : Operand) : stepC P w0 ⟨d, .convert t u x, ty, pos, aft, g⟩ K a A = aoper P w0 true ⟨d, .convert t u x, ty, pos, aft, g⟩ a A (calm A K) noQ := Eq.trans rfl rfl
theorem stepC_makeInterface (t : TypeId) (x : Operand) : stepC P w0 ⟨d, .makeInterface t x, ty, pos, aft, g⟩ K a A = aoper P w0 true ⟨d, .makeInterface t x, ty, pos, aft, g⟩ a A (calm A K) noQ := Eq.trans rfl rfl
theorem stepC_makeFunc (f : Fn) (x y : Array Operand) : stepC P w0 ⟨d, .makeFunc f x y, ty, pos, aft, g⟩ K a A = aoper P w0 true ⟨d, .makeFunc f x y, ty, pos, aft, g⟩ a A (calm A K) noQ := Eq.trans rfl rfl
theorem stepC_makeSlice (t : TypeId) (x y : Operand) : stepC P w0 ⟨d, .makeSlice t x y, ty, pos, aft, g⟩ K a A = aoper P w0 true ⟨d, .makeSlice t x y, ty, pos, aft, g⟩ a A (calm A K) noQ := Eq.trans rfl rfl
theorem stepC_slice (t : TypeId) (x : Operand) (l h m : Option Operand) : stepC P w0 ⟨d, .slice t x l h m, ty, pos, aft, g⟩ K a A = aoper P w0 true ⟨d, .slice t x l h m, ty, pos, aft, g⟩ a A (calm A K) noQ := Eq.trans rfl rfl
theorem stepC_fieldAddr (t : TypeId) (x : Operand) (f : Nat) : stepC P w0 ⟨d, .fieldAddr t x f, ty, pos, aft, g⟩ K a A = aoper P w0 true ⟨d, .fieldAddr t x f, ty, pos, aft, g⟩ a A (calm A K) noQ := Eq.trans rfl rfl
theorem stepC_field (t : TypeId) (x : Operand) (f : Nat) : stepC P w0 ⟨d, .field t x f, ty, pos, aft, g⟩ K a A = aoper P w0 true ⟨d, .field t x f, ty, pos, aft, g⟩ a A (calm A K) noQ := Eq.trans rfl rfl
theorem stepC_indexAddr (t : TypeId) (x y : Operand) : stepC P w0 ⟨d, .indexAddr t x y, ty, pos, aft, g⟩ K a A = aoper P w0 true ⟨d, .indexAddr t x y, ty, pos, aft, g⟩ a A (calm A K) noQ := Eq.trans rfl rfl
theorem stepC_index (t : TypeId) (x y : Operand) : stepC P w0 ⟨d, .index t x y, ty, pos, aft, g⟩ K a A = aoper P w0 true ⟨d, .index t x y, ty, pos, aft, g⟩ a A (calm A K) noQ := Eq.trans rfl rfl
theorem stepC_extract (x : Operand) (i : Nat) : stepC P w0 ⟨d, .extract x i, ty, pos, aft, g⟩ K a A = aoper P w0 true ⟨d, .extract x i, ty, pos, aft, g⟩ a A (calm A K) noQ := Eq.trans rfl rfl
theorem stepC_typeAssert (x : Operand) (t u : TypeId) (ok : Bool) : stepC P w0 ⟨d, .typeAssert x t u ok, ty, pos, aft, g⟩ K a A = aoper P w0 true ⟨d, .typeAssert x t u ok, ty, pos, aft, g⟩ a A (calm A K) noQ := Eq.trans rfl rfl
theorem stepC_lookup (t : TypeId) (x y : Operand) (ok : Bool) : stepC P w0 ⟨d, .lookup t x y ok, ty, pos, aft, g⟩ K a A = aoper P w0 true ⟨d, .lookup t x y ok, ty, pos, aft, g⟩ a A (calm A K) noQ := Eq.trans rfl rfl
theorem stepC_mapUpdate (t : TypeId) (x y z : Operand) : stepC P w0 ⟨d, .mapUpdate t x y z, ty, pos, aft, g⟩ K a A = aoper P w0 true ⟨d, .mapUpdate t x y z, ty, pos, aft, g⟩ a A (calm A K) noQ := Eq.trans rfl rfl
theorem stepC_makeMap (t : TypeId) : stepC P w0 ⟨d, .makeMap t none, ty, pos, aft, g⟩ K a A = aoper P w0 true ⟨d, .makeMap t none, ty, pos, aft, g⟩ a A (calm A K) noQ := Eq.trans rfl rfl
theorem stepC_builtin (bi : Builtin) (xs : Array Operand) (ts : Array TypeId) : stepC P w0 ⟨d, .call { callee := .builtin bi, args := xs, argTypes := ts }, ty, pos, aft, g⟩ K a A = aoper P w0 true ⟨d, .call { callee := .builtin bi, args := xs, argTypes := ts }, ty, pos, aft, g⟩ a A (calm A K) noQ := Eq.trans rfl rfl
end

/-- What an operation comes to, the heap as it was. -/
def OpC (P : Program) (w0 : World) (o : Oper) (a : Act) (A : St) (v : Value) : Prop :=
  match o.op with
  | .call { callee := .value f, args, argTypes := _ } => (okO f && args.all okO) = true ∧ ACallV P w0 (a.eval f) (args.map a.eval) A (fin v A)
  | .panic _ => False
  | .defer _ => False
  | op => aop P op a.eval A = some (v, A)

section
variable {P : Program} {w0 : World} {o : Oper} {a a' : Act} {A : St} {v : Value} {K : Act → St → Prop}
theorem stepC_opC (h : stepC P w0 o K a A) : ∃ v, OpC P w0 o a A v ∧ K (a.put o.dst v) A := by
  obtain ⟨d, op, ty, pos, aft, g⟩ := o
  unfold stepC at h
  unfold OpC
  split at h
  · rename_i f args ts ho
    obtain ⟨h1, v, h2, h3⟩ := h
    simp only at ho
    subst ho
    exact ⟨v, ⟨h1, h2⟩, h3⟩
  · exact h.elim
  · exact h.elim
  · rename_i h1 h2 h3
    simp only at h1 h2 h3
    unfold aoper at h
    split at h
    · rename_i f args ts ho; exact absurd ho (h1 f args ts)
    · rename_i x ho; exact absurd ho (h2 x)
    · rename_i f args ts ho; exact absurd ho (h3 _)
    · split at h
      · rename_i v A' e
        obtain ⟨rfl, hk⟩ := h
        refine ⟨v, ?_, hk⟩
        exact e
      · exact h.elim
theorem OpC.aoper (h : OpC P w0 o a A v) (nr : Bool) {next : Act → St → Prop} (Q : Exit → Act → St → Prop) (hn : next (a.put o.dst v) A) : aoper P w0 nr o a A next Q := by
  unfold OpC at h
  unfold Fw.aoper
  split at h
  · rename_i f args ts ho
    simp only [ho]
    refine ⟨h.1, ?_⟩
    have key : ∀ e A', fin v A e A' → afterCall o.dst a next Q e A' := by
      rintro e A' ⟨rfl, rfl⟩; exact hn
    have h2 := h.2
    unfold ACallV at h2 ⊢
    split at h2
    · exact h2.mono key
    · exact h2.mono key
    · exact h2.elim
  · exact h.elim
  · exact h.elim
  · rename_i h1 h2 h3
    split
    · rename_i f args ts ho; exact absurd ho (h1 f args ts)
    · rename_i x ho; exact absurd ho (h2 x)
    · rename_i f args ts ho; exact absurd ho (h3 _)
    · simp only [h]; exact hn

theorem aop0_congr {op : Op} {ρ ρ' : Operand → Value} (h : ∀ x ∈ op.operands, ρ x = ρ' x) : aop0 P op ρ A = aop0 P op ρ' A := by
  cases op with
  | move x => simp only [aop0]; rw [h x (by simp [Op.operands])]
  | assign x => simp only [aop0]; rw [h x (by simp [Op.operands])]
  | pick x y z => simp only [aop0]; rw [h x (by simp [Op.operands]), h y (by simp [Op.operands]), h z (by simp [Op.operands])]
  | alloc t => rfl
  | box t x => simp only [aop0]; rw [h x (by simp [Op.operands])]
  | build t ps =>
    simp only [aop0]
    rw [Array.map_congr_left (g := fun (i, x) => (i, ρ' x)) fun p hp => by
      obtain ⟨i, x⟩ := p
      simp only [Prod.mk.injEq, true_and]
      exact h x (by simp only [Op.operands, List.mem_toArray, List.mem_map, Array.mem_toList_iff]; exact ⟨_, hp, rfl⟩)]
  | buildSlice t n ps =>
    simp only [aop0]
    rw [Array.map_congr_left (g := fun (i, x) => (i, ρ' x)) fun p hp => by
      obtain ⟨i, x⟩ := p
      simp only [Prod.mk.injEq, true_and]
      exact h x (by simp only [Op.operands, List.mem_toArray, List.mem_map, Array.mem_toList_iff]; exact ⟨_, hp, rfl⟩)]
  | load t x => simp only [aop0]; rw [h x (by simp [Op.operands])]
  | store t x y => simp only [aop0]; rw [h x (by simp [Op.operands]), h y (by simp [Op.operands])]
  | nilCheck x => simp only [aop0]; rw [h x (by simp [Op.operands])]
  | binOp op t x y yt => simp only [aop0]; rw [h x (by simp [Op.operands]), h y (by simp [Op.operands])]
  | unOp op t x => simp only [aop0]; rw [h x (by simp [Op.operands])]
  | convert s t x => simp only [aop0]; rw [h x (by simp [Op.operands])]
  | makeInterface t x => simp only [aop0]; rw [h x (by simp [Op.operands])]
  | makeFunc f x y =>
    simp only [aop0]
    rw [Array.map_congr_left (g := ρ') (xs := x) fun p hp => h p (by simp [Op.operands, hp]), Array.map_congr_left (g := ρ') (xs := y) fun p hp => h p (by simp [Op.operands, hp])]
  | makeSlice t x y => simp only [aop0]; rw [h x (by simp [Op.operands]), h y (by simp [Op.operands])]
  | slice t x l hi m =>
    simp only [aop0]
    have e1 : l.map ρ = l.map ρ' := by cases l with | none => rfl | some y => simp [h y (by simp [Op.operands])]
    have e2 : hi.map ρ = hi.map ρ' := by cases hi with | none => rfl | some y => simp [h y (by simp [Op.operands])]
    have e3 : m.map ρ = m.map ρ' := by cases m with | none => rfl | some y => simp [h y (by simp [Op.operands])]
    rw [h x (by simp [Op.operands]), e1, e2, e3]
  | fieldAddr t x f => simp only [aop0]; rw [h x (by simp [Op.operands])]
  | field t x f => simp only [aop0]; rw [h x (by simp [Op.operands])]
  | indexAddr t x y => simp only [aop0]; rw [h x (by simp [Op.operands]), h y (by simp [Op.operands])]
  | index t x y => simp only [aop0]; rw [h x (by simp [Op.operands]), h y (by simp [Op.operands])]
  | extract x i => simp only [aop0]; rw [h x (by simp [Op.operands])]
  | typeAssert x t u ok => simp only [aop0]; rw [h x (by simp [Op.operands])]
  | lookup t x y ok => simp only [aop0]; rw [h x (by simp [Op.operands]), h y (by simp [Op.operands])]
  | mapUpdate t x y z => simp only [aop0]; rw [h x (by simp [Op.operands]), h y (by simp [Op.operands]), h z (by simp [Op.operands])]
  | makeMap t r => cases r <;> rfl
  | call c =>
    obtain ⟨cl, args, ts⟩ := c
    cases cl with
    | builtin b =>
      simp only [aop0]
      rw [List.map_congr_left (g := ρ') fun p hp => h p (by simp [Op.operands, Call.operands]; exact Array.mem_toList_iff.1 hp)]
    | _ => rfl
  | _ => rfl
theorem OpC.congr (h : OpC P w0 o a A v) (he : ∀ x ∈ o.op.operands, a.eval x = a'.eval x) : OpC P w0 o a' A v := by
  unfold OpC at h ⊢
  split at h
  · rename_i f args ts ho
    simp only [ho] at he ⊢
    rw [← he f (by simp [Op.operands, Call.operands]), ← Array.map_congr_left (f := a.eval) (g := a'.eval) fun p hp => he p (by simp [Op.operands, Call.operands, hp])]
    exact h
  · exact h.elim
  · exact h.elim
  · unfold aop at h ⊢
    rw [← aop0_congr he]; exact h
end

/-! The order of a region. -/
def dIx (ops : Array Oper) (t : Nat) : Option Nat := (List.range ops.size).find? fun j => (ops[j]?).bind (·.dst) == some t
def hasE (o : Oper) (j : Nat) : Bool := o.after.any fun e => Region.binds .any e && e.on == j
/-- An edge that binds in the compiler's other order alone. -/
def isGcO (e : Edge) : Bool := match e.ground with | .gcOnly _ => true | _ => false
def gcFree (ops : Array Oper) (pre : List Nat) (k : Nat) : Bool := match ops[k]? with | none => false | some o => o.after.all fun e => !Region.binds .gc e || pre.contains e.on
/-- An order for the compiler's other edges. -/
def gcOrd (ops : Array Oper) : Nat → List Nat → List Nat
  | 0, acc => acc.reverse
  | n + 1, acc => match (List.range ops.size).find? fun k => !acc.contains k && gcFree ops acc k with | none => acc.reverse | some k => gcOrd ops n (k :: acc)
def gcChk (ops : Array Oper) : List Nat → List Nat → Bool
  | _, [] => true
  | pre, k :: r => gcFree ops pre k && gcChk ops (k :: pre) r
def gcOk (ops : Array Oper) : Bool := ops.all (fun o => o.after.all fun e => !isGcO e) || (gcChk ops [] (gcOrd ops ops.size []) && (List.range ops.size).all fun k => (gcOrd ops ops.size []).contains k)
def drawOk (ops : Array Oper) : Bool := gcOk ops && (List.range ops.size).all fun i =>
  match ops[i]? with
  | none => true
  | some o =>
    o.after.all (fun e => decide (e.on < i) || isGcO e) &&
    (match o.dst with | none => true | some t => dIx ops t == some i) &&
    (o.looksAt ops).all (fun t => match dIx ops t with | none => true | some j => j == i || hasE o j || match ops[j]? with | some oj => hasE oj i | none => true)
def env (ops : Array Oper) (vals : Nat → Value) (ρ : Nat → Value) (L : Nat → Bool) (t : Nat) : Value := match dIx ops t with | some j => if L j then vals j else ρ t | none => ρ t
def updO (ρ : Nat → Value) (d : Option Tmp) (v : Value) : Nat → Value := match d with | some t => upd ρ t v | none => ρ
theorem put_EO (n : Nat) (ρ : Nat → Value) (ds : List Deferred) (d : Option Tmp) (v : Value) : (E n ρ ds).put d v = E n (updO ρ d v) ds := by
  cases d with
  | none => rfl
  | some t => exact put_E ..

section
variable {ops : Array Oper} {vals ρ : Nat → Value}
theorem dIx_some {t j : Nat} (h : dIx ops t = some j) : ∃ o, ops[j]? = some o ∧ o.dst = some t := by
  have := List.find?_some h
  simp only [beq_iff_eq] at this
  cases ho : ops[j]? with
  | none => simp [ho] at this
  | some o => exact ⟨o, rfl, by simpa [ho] using this⟩
theorem drawOk_at (h : drawOk ops = true) {i : Nat} {o : Oper} (ho : ops[i]? = some o) :
    (∀ e ∈ o.after, Region.binds .any e = true → e.on < i) ∧ (∀ t, o.dst = some t → dIx ops t = some i) ∧ (∀ t ∈ o.looksAt ops, ∀ j, dIx ops t = some j → j = i ∨ hasE o j = true ∨ ∃ oj, ops[j]? = some oj ∧ hasE oj i = true) := by
  have hi : i < ops.size := (Array.getElem?_eq_some_iff.1 ho).1
  have h1 := List.all_eq_true.1 (Bool.and_eq_true_iff.1 h).2 i (List.mem_range.2 hi)
  simp only [ho, Bool.and_eq_true] at h1
  obtain ⟨⟨h1, h2⟩, h3⟩ := h1
  refine ⟨fun e he hb => ?_, fun t ht => ?_, fun t ht j hj => ?_⟩
  · have := Array.all_eq_true'.1 h1 e he
    simp only [Bool.or_eq_true, decide_eq_true_eq] at this
    rcases this with h | h
    · exact h
    · unfold isGcO at h
      unfold Region.binds at hb
      split at h
      · rename_i hg; rw [hg] at hb; cases hb
      · simp at h
  · rw [ht] at h2; simpa using h2
  · have := List.all_eq_true.1 h3 t ht
    rw [hj] at this
    simp only [Bool.or_eq_true, beq_iff_eq] at this
    rcases this with (h | h) | h
    · exact .inl h
    · exact .inr (.inl h)
    · obtain ⟨oj, hoj, _⟩ := dIx_some hj
      rw [hoj] at h
      exact .inr (.inr ⟨oj, hoj, h⟩)
theorem env_add (h : drawOk ops = true) {i : Nat} {o : Oper} (ho : ops[i]? = some o) (L : Nat → Bool) : env ops vals ρ (fun j => j == i || L j) = updO (env ops vals ρ L) o.dst (vals i) := by
  funext t
  have hd := (drawOk_at h ho).2.1
  cases hod : o.dst with
  | none =>
    simp only [updO, env]
    cases hx : dIx ops t with
    | none => rfl
    | some j =>
      obtain ⟨oj, hoj, hjd⟩ := dIx_some hx
      have : j ≠ i := by rintro rfl; rw [ho] at hoj; cases hoj; rw [hod] at hjd; cases hjd
      simp [this]
  | some t' =>
    simp only [updO, upd]
    by_cases ht : t = t'
    · subst ht
      rw [if_pos rfl, env, hd t hod]; simp
    · rw [if_neg ht]
      simp only [env]
      cases hx : dIx ops t with
      | none => rfl
      | some j =>
        obtain ⟨oj, hoj, hjd⟩ := dIx_some hx
        have : j ≠ i := by rintro rfl; rw [ho] at hoj; cases hoj; rw [hod] at hjd; cases hjd; exact ht rfl
        simp [this]
def below (i : Nat) (j : Nat) : Bool := decide (j < i)
theorem env_zero : env ops vals ρ (below 0) = ρ := by
  funext t; unfold env below; split <;> simp
theorem below_succ (i : Nat) : below (i + 1) = fun j => j == i || below i j := by
  funext j; unfold below
  by_cases h : j = i
  · subst h; simp
  · simp only [beq_iff_eq, h, Bool.false_or, beq_eq_false_iff_ne.2 h]
    by_cases h2 : j < i
    · simp [h2]; omega
    · simp [h2]; omega
/-- What an operation sees, at its turn in any order, is what it sees in the text's order. -/
theorem env_sees (h : drawOk ops = true) {i : Nat} {o : Oper} (ho : ops[i]? = some o) {L : Nat → Bool} (hi : L i = false) (hpre : ∀ e ∈ o.after, Region.binds .any e = true → L e.on = true)
    (hcl : ∀ j oj, L j = true → ops[j]? = some oj → ∀ e ∈ oj.after, Region.binds .any e = true → L e.on = true) {t : Nat} (ht : t ∈ o.looksAt ops) : env ops vals ρ (below i) t = env ops vals ρ L t := by
  unfold env
  cases hx : dIx ops t with
  | none => rfl
  | some j =>
    obtain ⟨h1, h2, h3⟩ := drawOk_at h ho
    have hE : ∀ {o : Oper} {k : Nat}, hasE o k = true → ∃ e ∈ o.after, Region.binds .any e = true ∧ e.on = k := by
      intro o k h
      unfold hasE at h
      rw [Array.any_eq_true'] at h
      obtain ⟨e, he, hb⟩ := h
      simp only [Bool.and_eq_true, beq_iff_eq] at hb
      exact ⟨e, he, hb.1, hb.2⟩
    have : below i j = L j := by
      rcases h3 t ht j hx with rfl | h4 | ⟨oj, hoj, h4⟩
      · rw [hi]; simp [below]
      · obtain ⟨e, he, hb, rfl⟩ := hE h4
        rw [hpre e he hb]; simp [below, h1 e he hb]
      · obtain ⟨e, he, hb, hon⟩ := hE h4
        have hlt := (drawOk_at h hoj).1 e he hb
        have : L j = false := by
          cases hj : L j with
          | false => rfl
          | true => have := hcl j oj hj hoj e he hb; rw [hon, hi] at this; cases this
        rw [this]; simp [below]; omega
    simp only [this]
end

section
variable {P : Program} {w0 : World} {n0 n : Nat} {nr : Bool} {Q : Exit → Act → St → Prop} {A : St} {ops : Array Oper} {ρ : Nat → Value} {ds : List Deferred}
def StepC (P : Program) (w0 : World) (dst : List (Option Tmp)) (o : Oper) (a : Act) (A : St) (v : Value) : Prop := (wanted' dst o.guard a.tmps = true ∧ OpC P w0 o a A v) ∨ (wanted' dst o.guard a.tmps = false ∧ v = undef)

theorem aopsC_vals (hok : drawOk ops = true) : ∀ (m i : Nat), i + m = ops.size → ∀ {vals0 : Nat → Value}, aopsC P w0 (ops.toList.map (·.dst)) Q (ops.toList.drop i) (E n (env ops vals0 ρ (below i)) ds) A →
    ∃ vals : Nat → Value, (∀ j, j < i → vals j = vals0 j) ∧ (∀ j o, i ≤ j → ops[j]? = some o → StepC P w0 (ops.toList.map (·.dst)) o (E n (env ops vals ρ (below j)) ds) A (vals j)) ∧ Q .normal (E n (env ops vals ρ (below ops.size)) ds) A
  | 0, i, hi, vals0, h => by
    rw [List.drop_of_length_le (by simp; omega)] at h
    refine ⟨vals0, fun _ _ => rfl, fun j o hj ho => ?_, ?_⟩
    · have := (Array.getElem?_eq_some_iff.1 ho).1; omega
    · have : i = ops.size := by omega
      subst this; exact h
  | m + 1, i, hi, vals0, h => by
    have hlt : i < ops.size := by omega
    have hoi : ops[i]? = some ops[i] := Array.getElem?_eq_getElem hlt
    rw [List.drop_eq_getElem_cons (by simpa using hlt)] at h
    simp only [Array.getElem_toList] at h
    have henv : ∀ (vals : Nat → Value), (∀ j, j < i → vals j = vals0 j) → env ops vals ρ (below i) = env ops vals0 ρ (below i) := by
      intro vals hv
      funext t
      unfold env
      split
      · rename_i j hj
        by_cases hji : j < i
        · simp [below, hji, hv j hji]
        · simp [below, hji]
      · rfl
    have go : ∀ v, StepC P w0 (ops.toList.map (·.dst)) ops[i] (E n (env ops vals0 ρ (below i)) ds) A v → aopsC P w0 (ops.toList.map (·.dst)) Q (ops.toList.drop (i + 1)) ((E n (env ops vals0 ρ (below i)) ds).put ops[i].dst v) A →
        ∃ vals : Nat → Value, (∀ j, j < i → vals j = vals0 j) ∧ (∀ j o, i ≤ j → ops[j]? = some o → StepC P w0 (ops.toList.map (·.dst)) o (E n (env ops vals ρ (below j)) ds) A (vals j)) ∧ Q .normal (E n (env ops vals ρ (below ops.size)) ds) A := by
      intro v hs hk
      obtain ⟨vals1, hv1⟩ : ∃ vals1 : Nat → Value, vals1 = fun j => if j = i then v else vals0 j := ⟨_, rfl⟩
      have e1 : env ops vals1 ρ (below i) = env ops vals0 ρ (below i) := henv _ fun j hj => by rw [hv1]; exact if_neg (by omega)
      have e2 : (E n (env ops vals0 ρ (below i)) ds).put ops[i].dst v = E n (env ops vals1 ρ (below (i + 1))) ds := by
        rw [below_succ, env_add hok hoi, put_EO, e1, hv1]; simp
      rw [e2] at hk
      obtain ⟨vals, q1, q2, q3⟩ := aopsC_vals hok m (i + 1) (by omega) hk
      refine ⟨vals, fun j hj => ?_, fun j o hj ho => ?_, q3⟩
      · rw [q1 j (by omega), hv1]; exact if_neg (by omega)
      · by_cases hji : j = i
        · subst hji
          rw [hoi] at ho; cases ho
          rw [henv vals fun k hk => by rw [q1 k (by omega), hv1]; exact if_neg (by omega)]
          rw [q1 j (by omega), hv1]
          simpa using hs
        · exact q2 j o (by omega) ho
    rw [aopsC_cons] at h
    cases hw : wanted' (ops.toList.map (·.dst)) ops[i].guard (E n (env ops vals0 ρ (below i)) ds).tmps with
    | true =>
      rw [hw, ifB_true] at h
      obtain ⟨v, h1, h2⟩ := stepC_opC h
      exact go v (.inl ⟨hw, h1⟩) h2
    | false =>
      rw [hw, ifB_false, skipC_eq] at h
      exact go undef (.inr ⟨hw, rfl⟩) h

theorem binds_any {md : Region.Mode} {e : Edge} (h : Region.binds .any e = true) : Region.binds md e = true := by
  unfold Region.binds at *
  split at h
  · simp at h
  · simp at h
  · rfl

theorem StepC.at {o : Oper} {v : Value} {ρ1 ρ2 : Nat → Value} (h : StepC P w0 (ops.toList.map (·.dst)) o (E n ρ1 ds) A v) (he : ∀ t ∈ o.looksAt ops, ρ1 t = ρ2 t) : StepC P w0 (ops.toList.map (·.dst)) o (E n ρ2 ds) A v := by
  have hw : wanted' (ops.toList.map (·.dst)) o.guard (E n ρ1 ds).tmps = wanted' (ops.toList.map (·.dst)) o.guard (E n ρ2 ds).tmps := by
    cases hg : o.guard with
    | none => rfl
    | some x =>
      obtain ⟨j, b⟩ := x
      rw [wanted_some, wanted_some]
      congr 2
      cases hd0 : (ops.toList.map (·.dst))[j]? with
      | none => rfl
      | some o0 =>
      cases o0 with
      | none => rfl
      | some t =>
        simp only [lookT, E_tmps, tm_get?]
        rw [he t]
        have hd' : (ops[j]?).bind (·.dst) = some t := by
          rw [List.getElem?_map, Array.getElem?_toList] at hd0
          cases hj : ops[j]? with
          | none => rw [hj] at hd0; cases hd0
          | some oj => rw [hj] at hd0; simp only [Option.map_some, Option.some.injEq] at hd0; exact hd0
        unfold Oper.looksAt
        rw [hg]
        exact List.mem_append_right _ (by simp [hd'])
  unfold StepC at h ⊢
  rw [← hw]
  rcases h with ⟨h1, h2⟩ | h
  · refine .inl ⟨h1, h2.congr fun x hx => ?_⟩
    cases x with
    | tmp t =>
      rw [eval_tmp, eval_tmp, rd, rd, he t]
      unfold Oper.looksAt
      exact List.mem_append_left _ (List.mem_filterMap.2 ⟨.tmp t, by simpa using hx, rfl⟩)
    | _ => rfl
  · exact .inr h

theorem not_stuck {md : Region.Mode} (hok : drawOk ops = true) {listed : Array Bool} (hs : listed.size = ops.size) {j : Nat} (hj : j < ops.size) (hb : listed.getD j false = false) (hlow : ∀ k, k < j → listed.getD k false = true) (hnil : Region.ready md ops listed = []) : False := by
  have off : ∀ k, k < ops.size → listed.getD k false = false → listed.getD k true = false := fun k hk h => by
    have hk' : k < listed.size := by omega
    have h1 : listed.getD k false = listed[k] := by simp [Array.getD, hk']
    have h2 : listed.getD k true = listed[k] := by simp [Array.getD, hk']
    rw [h2, ← h1]; exact h
  have no : ∀ k, k ∉ Region.ready md ops listed := fun k h => by rw [hnil] at h; cases h
  by_cases hall : ∀ e ∈ ops[j].after, Region.binds md e = true → listed.getD e.on false = true
  · exact no j (mem_ready.2 ⟨off j hj hb, ops[j], Array.getElem?_eq_getElem hj, hall⟩)
  · simp only [Classical.not_forall] at hall
    obtain ⟨e, he, hbe, hl⟩ := hall
    have hl' : listed.getD e.on false = false := by simpa using hl
    have hge : ¬ e.on < j := fun h => by rw [hlow _ h] at hl'; cases hl'
    obtain ⟨hgc, hok'⟩ := Bool.and_eq_true_iff.1 hok
    have h1 := List.all_eq_true.1 hok' j (List.mem_range.2 hj)
    rw [Array.getElem?_eq_getElem hj] at h1
    simp only [Bool.and_eq_true] at h1
    have h2 := Array.all_eq_true'.1 h1.1.1 e he
    simp only [Bool.or_eq_true, decide_eq_true_eq, hge, false_or] at h2
    have hmd : md = .gc := by
      unfold isGcO at h2
      unfold Region.binds at hbe
      split at h2
      · rename_i hg; rw [hg] at hbe; simpa using hbe
      · simp at h2
    subst hmd
    unfold gcOk at hgc
    rcases Bool.or_eq_true_iff.1 hgc with hgc | hgc
    · have := Array.all_eq_true'.1 hgc ops[j] (Array.getElem_mem hj)
      have := Array.all_eq_true'.1 this e he
      rw [h2] at this; cases this
    · obtain ⟨hc, hin⟩ := Bool.and_eq_true_iff.1 hgc
      have hjin := List.all_eq_true.1 hin j (List.mem_range.2 hj)
      have key : ∀ (ord pre : List Nat), gcChk ops pre ord = true → (∀ k ∈ pre, listed.getD k false = true) → j ∈ ord → False := by
        intro ord
        induction ord with
        | nil => intro pre _ _ h; cases h
        | cons k r ih =>
          intro pre hck hpre hmem
          obtain ⟨hfr, hck'⟩ := Bool.and_eq_true_iff.1 hck
          unfold gcFree at hfr
          cases hok2 : ops[k]? with
          | none => rw [hok2] at hfr; cases hfr
          | some o =>
            rw [hok2] at hfr
            have hk := (Array.getElem?_eq_some_iff.1 hok2).1
            cases hlk : listed.getD k false with
            | false =>
              refine no k (mem_ready.2 ⟨off k hk hlk, o, hok2, fun e' he' hb' => ?_⟩)
              have := Array.all_eq_true'.1 hfr e' he'
              simp only [Bool.or_eq_true, hb', Bool.not_true, Bool.false_eq_true, false_or, List.contains_iff_mem] at this
              exact hpre _ this
            | true =>
              refine ih (k :: pre) hck' (fun q hq => ?_) ?_
              · rcases List.mem_cons.1 hq with rfl | hq
                · exact hlk
                · exact hpre q hq
              · rcases List.mem_cons.1 hmem with rfl | hmem
                · rw [hlk] at hb; cases hb
                · exact hmem
      exact key _ [] hc (fun k hk => by cases hk) (by simpa using hjin)

theorem draw_go {md : Region.Mode} {vals : Nat → Value} (hok : drawOk ops = true) (hv : ∀ j o, ops[j]? = some o → StepC P w0 (ops.toList.map (·.dst)) o (E n (env ops vals ρ (below j)) ds) A (vals j)) (hq : Q .normal (E n (env ops vals ρ (below ops.size)) ds) A) :
    ∀ (fuel t : Nat) (listed : Array Bool), listed.size = ops.size → listed.toList.count false ≤ fuel →
      (∀ j oj, listed.getD j false = true → ops[j]? = some oj → ∀ e ∈ oj.after, Region.binds .any e = true → listed.getD e.on false = true) →
      aopsI P w0 nr ops Q (Region.linearise.go md ops fuel t listed []) (E n (env ops vals ρ (fun j => listed.getD j false)) ds) A := by
  have finish : ∀ listed : Array Bool, listed.size = ops.size → (∀ j, j < ops.size → listed.getD j false = true) → Q .normal (E n (env ops vals ρ (fun j => listed.getD j false)) ds) A := by
    intro listed hs hall
    have : env ops vals ρ (fun j => listed.getD j false) = env ops vals ρ (below ops.size) := by
      funext t
      unfold env
      cases hx : dIx ops t with
      | none => rfl
      | some j =>
        obtain ⟨o, ho, _⟩ := dIx_some hx
        have hj := (Array.getElem?_eq_some_iff.1 ho).1
        simp only [hall j hj, below, hj, decide_true]
    rw [this]; exact hq
  intro fuel
  induction fuel with
  | zero =>
    intro t listed hs hc hcl
    simp only [Region.linearise.go, List.reverse_nil, aopsI]
    refine finish listed hs fun j hj => ?_
    have h0 : listed.toList.count false = 0 := by omega
    rw [List.count_eq_zero] at h0
    have hj' : j < listed.size := by omega
    cases hb : listed.getD j false with
    | true => rfl
    | false =>
      exfalso
      apply h0
      have : listed.getD j false = listed[j] := by simp [Array.getD, hj']
      rw [this] at hb
      rw [← hb]
      exact Array.getElem_mem_toList hj'
  | succ fuel ih =>
    intro t listed hs hc hcl
    simp only [Region.linearise.go]
    change aopsI P w0 nr ops Q (match (Region.ready md ops listed)[t % (Region.ready md ops listed).length]? with
      | some i => Region.linearise.go md ops fuel (t / (Region.ready md ops listed).length) (listed.setIfInBounds i true) [i]
      | none => [].reverse) _ A
    cases hi : (Region.ready md ops listed)[t % (Region.ready md ops listed).length]? with
    | none =>
      have hnil : Region.ready md ops listed = [] := by
        cases hr : Region.ready md ops listed with
        | nil => rfl
        | cons x xs =>
          rw [hr] at hi
          have hlt : t % (x :: xs).length < (x :: xs).length := Nat.mod_lt _ (by simp)
          rw [List.getElem?_eq_none_iff] at hi
          omega
      simp only [List.reverse_nil, aopsI]
      refine finish listed hs fun j => ?_
      induction j using Nat.strongRecOn with
      | _ j ihj =>
        intro hj
        cases hb : listed.getD j false with
        | true => rfl
        | false =>
          exfalso
          exact not_stuck hok hs hj hb (fun k hk => ihj k hk (by omega)) hnil
    | some i =>
      simp only []
      rw [linearise_go_acc, List.reverse_singleton, List.singleton_append]
      have hmem := mem_ready.1 (List.mem_of_getElem? hi)
      obtain ⟨hun, o, ho, hpre⟩ := hmem
      have hilt : i < ops.size := (Array.getElem?_eq_some_iff.1 ho).1
      have hil : i < listed.size := by omega
      have hif : listed.getD i false = false := by
        have h1 : listed.getD i false = listed[i] := by simp [Array.getD, hil]
        have h2 : listed.getD i true = listed[i] := by simp [Array.getD, hil]
        rw [h1, ← h2]; exact hun
      have hset : (fun j => (listed.setIfInBounds i true).getD j false) = fun j => j == i || listed.getD j false := by
        funext j
        by_cases hji : j = i
        · subst hji; simp [Array.getD, hil]
        · rw [getD_set_ne false (Ne.symm hji)]; simp [hji]
      have hstep := (hv i o ho).at (ρ2 := env ops vals ρ (fun j => listed.getD j false)) fun u hu => env_sees hok ho hif (fun e he hb => hpre e he (binds_any hb)) hcl hu
      have hnext := ih (t / (Region.ready md ops listed).length) (listed.setIfInBounds i true) (by simpa using hs) (by
          have h1 : listed.toList.count false = (listed.toList.set i true).count false + 1 := by
            have hpos : 0 < listed.toList.count false := by
              rw [List.count_pos_iff]
              have h1 : listed.getD i false = listed[i] := by simp [Array.getD, hil]
              rw [← hif, h1]
              exact Array.getElem_mem_toList hil
            have h3 : listed[i] = false := by
              have h1 : listed.getD i false = listed[i] := by simp [Array.getD, hil]
              rw [← h1]; exact hif
            rw [List.count_set (by simpa using hil)]
            have h4 : listed.toList[i]'(by simpa using hil) = false := by rw [Array.getElem_toList]; exact h3
            rw [h4, if_pos (by decide), if_neg (by decide)]
            omega
          rw [Array.toList_setIfInBounds]
          omega) (fun j oj hj hoj e he hb => by
          by_cases hji : j = i
          · subst hji
            rw [ho] at hoj; cases hoj
            exact getD_set_true (hpre e he (binds_any hb))
          · rw [getD_set_ne false (Ne.symm hji)] at hj
            exact getD_set_true (hcl j oj hj hoj e he hb))
      rw [hset, env_add hok ho] at hnext
      simp only [aopsI, ho]
      rw [wanted_eq]
      rcases hstep with ⟨h1, h2⟩ | ⟨h1, h2⟩
      · rw [if_pos h1]
        exact h2.aoper nr Q (by rw [put_EO]; exact hnext)
      · rw [if_neg (by rw [h1]; decide), put_EO]
        rw [h2] at hnext
        exact hnext

/-- **A drawn region** whose operations leave the heap as it is: walked as the text has it. -/
theorem aw_draw {id : Nat} (hok : drawOk ops = true) (h : aopsC P w0 (ops.toList.map (·.dst)) Q ops.toList (E n ρ ds) A) : AW P w0 n0 nr (.region id ops true) Q (E n ρ ds) A := by
  refine aw_region_draw fun t => ?_
  obtain ⟨vals, _, h2, h3⟩ := aopsC_vals (vals0 := fun _ => undef) (ρ := ρ) (n := n) (ds := ds) hok ops.size 0 (by omega) (by rw [env_zero, List.drop_zero]; exact h)
  have key : ∀ (md : Region.Mode) (t : Nat), aopsI P w0 nr ops Q (Region.linearise md ops t) (E n ρ ds) A := by
    intro md t
    have := draw_go (nr := nr) (md := md) hok (fun j o ho => h2 j o (Nat.zero_le _) ho) h3 ops.size t (Array.replicate ops.size false) (by simp) (by simp) (fun j oj hj => by simp [Array.getElem?_replicate] at hj; split at hj <;> simp at hj)
    have he : env ops vals ρ (fun j => (Array.replicate ops.size false).getD j false) = ρ := by
      funext u
      unfold env
      split
      · rename_i j hj
        simp [Array.getElem?_replicate]
        intro h; split at h <;> simp at h
      · rfl
    rw [he] at this
    exact this
  unfold Region.schedule
  split
  · exact key _ _
  · exact key _ _
end
end Go.Fw

