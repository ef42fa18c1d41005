import Derived.Test.YtphfkbagjpcmpaaFw20
/-! Drawn regions whose operations turn the heap from one told heap to the next: any order comes to the same. -/
set_option linter.unusedSimpArgs false
set_option linter.unusedVariables false
namespace Go.Fw
open Go.RowKit

/-- What an operation comes to, from one heap to another. -/
def OpT (P : Program) (w0 : World) (o : Oper) (a : Act) (A A' : St) (v : Value) : Prop :=
  match o.op with
  | .call { callee := .value f, args, argTypes := _ } => (okO f && args.all okO) = true ∧ ACallV P w0 (a.eval f) (args.map a.eval) A (fin v A')
  | .panic _ => False
  | .defer _ => False
  | op => aop P op a.eval A = some (v, A')
def to (A0 : St) (K : Act → St → Prop) (a : Act) (A : St) : Prop := A = A0 ∧ K a A
theorem to_same (A : St) (K : Act → St → Prop) (a : Act) : to A K a A = K a A := by simp [to]
/-- A step to a told heap. -/
def stepT (P : Program) (w0 : World) (o : Oper) (A' : St) (K : Act → St → Prop) (a : Act) (A : St) : Prop :=
  match o.op with
  | .call { callee := .value f, args, argTypes := _ } => callV (okO f && args.all okO) (∃ v, ACallV P w0 (a.eval f) (args.map a.eval) A (fin v A') ∧ K (a.put o.dst v) A')
  | .panic _ => False
  | .defer _ => False
  | _ => aoper P w0 true o a A (to A' K) noQ
section
variable {P : Program} {w0 : World} {o : Oper} {a a' : Act} {A A' : St} {v : Value} {K : Act → St → Prop}
theorem stepT_opT (h : stepT P w0 o A' K a A) : ∃ v, OpT P w0 o a A A' v ∧ K (a.put o.dst v) A' := by
  obtain ⟨d, op, ty, pos, aft, g⟩ := o
  unfold stepT at h
  unfold OpT
  split at h
  · rename_i f args ts ho
    obtain ⟨h1, v, h2, h3⟩ := h
    simp only at ho
    subst ho
    exact ⟨v, ⟨h1, h2⟩, h3⟩
  · exact h.elim
  · exact h.elim
  · rename_i h1 h2 h3
    simp only at h1 h2 h3
    unfold aoper at h
    split at h
    · rename_i f args ts ho; exact absurd ho (h1 f args ts)
    · rename_i x ho; exact absurd ho (h2 x)
    · rename_i f args ts ho; exact absurd ho (h3 _)
    · split at h
      · rename_i v A1 e
        obtain ⟨rfl, hk⟩ := h
        exact ⟨v, e, hk⟩
      · exact h.elim
theorem OpT.aoper (h : OpT P w0 o a A A' v) (nr : Bool) {next : Act → St → Prop} (Q : Exit → Act → St → Prop) (hn : next (a.put o.dst v) A') : aoper P w0 nr o a A next Q := by
  unfold OpT at h
  unfold Fw.aoper
  split at h
  · rename_i f args ts ho
    simp only [ho]
    refine ⟨h.1, ?_⟩
    have key : ∀ e A1, fin v A' e A1 → afterCall o.dst a next Q e A1 := by
      rintro e A1 ⟨rfl, rfl⟩; exact hn
    have h2 := h.2
    unfold ACallV at h2 ⊢
    split at h2
    · exact h2.mono key
    · exact h2.mono key
    · exact h2.elim
  · exact h.elim
  · exact h.elim
  · rename_i h1 h2 h3
    split
    · rename_i f args ts ho; exact absurd ho (h1 f args ts)
    · rename_i x ho; exact absurd ho (h2 x)
    · rename_i f args ts ho; exact absurd ho (h3 _)
    · simp only [h]; exact hn
theorem OpT.congr (h : OpT P w0 o a A A' v) (he : ∀ x ∈ o.op.operands, a.eval x = a'.eval x) : OpT P w0 o a' A A' v := by
  unfold OpT at h ⊢
  split at h
  · rename_i f args ts ho
    simp only [ho] at he ⊢
    rw [← he f (by simp [Op.operands, Call.operands]), ← Array.map_congr_left (f := a.eval) (g := a'.eval) fun p hp => he p (by simp [Op.operands, Call.operands, hp])]
    exact h
  · exact h.elim
  · exact h.elim
  · unfold aop at h ⊢
    rw [← aop0_congr he]; exact h
end

/-- Operations that look at no heap. -/
def pureOp : Op → Bool
  | .move _ | .assign _ | .pick _ _ _ | .nilCheck _ | .unOp _ _ _ | .makeInterface _ _ | .makeFunc _ _ _ | .slice _ _ _ _ _ | .fieldAddr _ _ _ | .field _ _ _ | .indexAddr _ _ _ | .index _ _ _ | .extract _ _ | .typeAssert _ _ _ _ | .build _ _ => true
  | .call { callee := .builtin .len, .. } => true
  | .binOp _ t _ _ _ => decide (t ≠ bptr)
  | _ => false
theorem mapA {x : Option Value} {A A' : St} {v : Value} (h : (x.map (·, A)) = some (v, A')) (B : St) : (x.map (·, B)) = some (v, B) := by
  cases x with
  | none => simp at h
  | some y => simp at h; simp [h.1]
theorem pure_any {P : Program} {op : Op} (hp : pureOp op = true) {ρ : Operand → Value} {A A' : St} {v : Value} (h : aop P op ρ A = some (v, A')) (B : St) : aop P op ρ B = some (v, B) := by
  unfold aop at h ⊢
  split at h
  · rename_i hall
    rw [if_pos hall]
    clear hall
    cases op with
    | move x => simp only [aop0] at h ⊢; simp at h; simp [h.1]
    | assign x => simp only [aop0] at h ⊢; simp at h; simp [h.1]
    | pick x y z =>
      simp only [aop0] at h ⊢
      split at h
      · simp at h; simp [h.1]
      · cases h
    | nilCheck x => exact mapA h B
    | binOp op t x y yt =>
      have ht : t ≠ bptr := of_decide_eq_true hp
      simp only [aop0, if_neg ht] at h ⊢
      exact mapA h B
    | unOp op t x => exact mapA h B
    | makeInterface t x => exact mapA h B
    | makeFunc f x y =>
      simp only [aop0] at h ⊢
      split at h
      · rename_i hf
        rw [if_pos hf]
        simp at h; simp [h.1]
      · cases h
    | slice t x l hi m => exact mapA h B
    | fieldAddr t x f => exact mapA h B
    | field t x f => exact mapA h B
    | indexAddr t x y => exact mapA h B
    | index t x y => exact mapA h B
    | extract x i => exact mapA h B
    | typeAssert x t u ok => exact mapA h B
    | build t ps => exact mapA h B
    | call c =>
      obtain ⟨cl, args, ts⟩ := c
      cases cl with
      | builtin b =>
        cases b with
        | len =>
          simp only [aop0, abuiltin] at h ⊢
          revert h
          generalize ts.toList = tl
          generalize List.map ρ args.toList = xl
          intro h
          match tl, xl, h with
          | [t], [x], h => exact mapA h B
        | _ => cases hp
      | _ => cases hp
    | _ => cases hp
  · cases h

/-- Further levels at which an operation comes to the same. -/
def allC (l : List Nat) (p : Nat → Prop) : Prop := match l with | [] => True | c :: r => p c ∧ allC r p
theorem allC_nil (p : Nat → Prop) : allC [] p = True := Eq.trans rfl rfl
theorem allC_cons (c : Nat) (r : List Nat) (p : Nat → Prop) : allC (c :: r) p = (p c ∧ allC r p) := Eq.trans rfl rfl
theorem allC_mem {p : Nat → Prop} : ∀ {l : List Nat}, allC l p → ∀ c ∈ l, p c
  | [], _, c, h => by cases h
  | x :: r, h, c, hc => by
    rcases List.mem_cons.1 hc with rfl | hc
    · exact h.1
    · exact allC_mem h.2 c hc
def hs (l : List St) (i : Nat) : St := l.getD i St.empty
theorem hs_zero (A : St) (l : List St) : hs (A :: l) 0 = A := Eq.trans rfl rfl
theorem hs_succ (A : St) (l : List St) (i : Nat) : hs (A :: l) (i + 1) = hs l i := Eq.trans rfl rfl
def sameA (a1 : Act) (a : Act) (_ : St) : Prop := a = a1
theorem sameA_eq (a1 a : Act) (A : St) : sameA a1 a A = (a = a1) := Eq.trans rfl rfl
/-- What is told of an operation's place: does it turn the heap; what comes before it; the levels at which it may run. -/
structure Cert where
  heavy : Bool
  anc : List Nat
  lev : List Nat
def lightK (P : Program) (w0 : World) (o : Oper) (H : List St) (a : Act) (lev : List Nat) (K : Act → St → Prop) (a1 : Act) (A : St) : Prop :=
  allC lev (fun c => stepT P w0 o (hs H c) (sameA a1) a (hs H c)) ∧ K a1 A
def stepX (P : Program) (w0 : World) (o : Oper) (c : Cert) (H : List St) (K : Act → St → Prop) (a : Act) (A : St) : Prop :=
  match c.lev with
  | [] => False
  | l :: ls => if c.heavy then ls = [] ∧ stepT P w0 o (hs H (l + 1)) K a (hs H l) else if pureOp o.op then stepT P w0 o (hs H l) K a (hs H l) else stepT P w0 o (hs H l) (lightK P w0 o H a ls K) a (hs H l)
def aopsX (P : Program) (w0 : World) (ds : List (Option Tmp)) (Q : Exit → Act → St → Prop) (H : List St) (n : Nat) : List Oper → List Cert → Act → St → Prop
  | [], _, a, _ => Q .normal a (hs H n)
  | _ :: _, [], _, _ => False
  | o :: rest, c :: cs, a, A => ifB (wanted' ds o.guard a.tmps) (stepX P w0 o c H (aopsX P w0 ds Q H n rest cs)) (skipC o (aopsX P w0 ds Q H n rest cs)) a A
theorem aopsX_nil (P : Program) (w0 : World) (ds : List (Option Tmp)) (Q : Exit → Act → St → Prop) (H : List St) (n : Nat) (cs : List Cert) (a : Act) (A : St) : aopsX P w0 ds Q H n [] cs a A = Q .normal a (hs H n) := Eq.trans rfl rfl
theorem aopsX_cons (P : Program) (w0 : World) (ds : List (Option Tmp)) (Q : Exit → Act → St → Prop) (H : List St) (n : Nat) (o : Oper) (rest : List Oper) (c : Cert) (cs : List Cert) (a : Act) (A : St) : aopsX P w0 ds Q H n (o :: rest) (c :: cs) a A = ifB (wanted' ds o.guard a.tmps) (stepX P w0 o c H (aopsX P w0 ds Q H n rest cs)) (skipC o (aopsX P w0 ds Q H n rest cs)) a A := Eq.trans rfl rfl
theorem stepX_heavy (P : Program) (w0 : World) (o : Oper) (anc : List Nat) (l : Nat) (H : List St) (K : Act → St → Prop) (a : Act) (A : St) : stepX P w0 o ⟨true, anc, [l]⟩ H K a A = stepT P w0 o (hs H (l + 1)) K a (hs H l) := by simp [stepX]
theorem stepX_light (P : Program) (w0 : World) (o : Oper) (anc : List Nat) (l : Nat) (ls : List Nat) (H : List St) (K : Act → St → Prop) (a : Act) (A : St) : stepX P w0 o ⟨false, anc, l :: ls⟩ H K a A = if pureOp o.op = true then stepT P w0 o (hs H l) K a (hs H l) else stepT P w0 o (hs H l) (lightK P w0 o H a ls K) a (hs H l) := by simp [stepX]
theorem lightK_eq (P : Program) (w0 : World) (o : Oper) (H : List St) (a : Act) (lev : List Nat) (K : Act → St → Prop) (a1 : Act) (A : St) : lightK P w0 o H a lev K a1 A = (allC lev (fun c => stepT P w0 o (hs H c) (sameA a1) a (hs H c)) ∧ K a1 A) := Eq.trans rfl rfl
end Go.Fw
