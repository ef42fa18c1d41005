import Derived.Test.YtphfkbagjpcmpaaFw12
/-! What is said of code and of calls, over abstract heaps. -/
set_option linter.unusedSimpArgs false
set_option linter.unusedVariables false
namespace Go.Fw
open Go.RowKit

def wideR (rd : Option Nat) : Fence := { Fence.wide with round := rd }
theorem wideR_room (rd : Option Nat) (k : Nat) : (wideR rd).room k := fun d hd => by cases hd

/-- Deferred calls, one by one. -/
inductive DR (φ : Nat → Option Loc) (n : Nat) : Deferred → Deferred → Prop
  | fn (f : Fn) (c c' args args' : Array Value) (hf : ∀ l, f ≠ .yield l) (hc : CR φ n c c') (ha : CR φ n args args') : DR φ n ⟨.fn f c, args⟩ ⟨.fn f c', args'⟩
  | coll (r r' : Nat) (hr : r < n) (h : ∀ l, φ r = some l → r' = l.block) : DR φ n ⟨.collected r, #[]⟩ ⟨.collected r', #[]⟩
inductive DsR (φ : Nat → Option Loc) (n : Nat) : List Deferred → List Deferred → Prop
  | nil : DsR φ n [] []
  | cons {d d' : Deferred} {ds ds' : List Deferred} (h : DR φ n d d') (t : DsR φ n ds ds') : DsR φ n (d :: ds) (d' :: ds')
inductive ChR (φ : Nat → Option Loc) (n : Nat) : List PanicEntry → List PanicEntry → Prop
  | nil : ChR φ n [] []
  | cons {v v' : Value} {r g : Bool} {ds ds' : List PanicEntry} (h : VR φ n v v') (t : ChR φ n ds ds') : ChR φ n (⟨v, r, g⟩ :: ds) (⟨v', r, g⟩ :: ds')
theorem DR.mono {φ φ' : Nat → Option Loc} {n n' : Nat} (hn : n ≤ n') (he : Ext n φ φ') {d d' : Deferred} (h : DR φ n d d') : DR φ' n' d d' := by
  cases h with
  | fn f c c' args args' hf hc ha => exact .fn f c c' args args' hf (hc.mono hn he) (ha.mono hn he)
  | coll r r' hr h => exact .coll r r' (by omega) fun l e => h l (he.some hr e)
theorem DsR.mono {φ φ' : Nat → Option Loc} {n n' : Nat} (hn : n ≤ n') (he : Ext n φ φ') {d d' : List Deferred} (h : DsR φ n d d') : DsR φ' n' d d' := by
  induction h with
  | nil => exact .nil
  | cons h _ ih => exact .cons (h.mono hn he) ih
theorem ChR.mono {φ φ' : Nat → Option Loc} {n n' : Nat} (hn : n ≤ n') (he : Ext n φ φ') {d d' : List PanicEntry} (h : ChR φ n d d') : ChR φ' n' d d' := by
  induction h with
  | nil => exact .nil
  | cons h _ ih => exact .cons (h.mono hn he) ih

def ActR (φ : Nat → Option Loc) (n : Nat) (a ca : Act) : Prop := CR φ n a.tmps ca.tmps ∧ DsR φ n a.defers ca.defers
theorem ActR.mono {φ φ' : Nat → Option Loc} {n n' : Nat} (hn : n ≤ n') (he : Ext n φ φ') {a ca : Act} (h : ActR φ n a ca) : ActR φ' n' a ca := ⟨h.1.mono hn he, h.2.mono hn he⟩
theorem ActR.put {φ : Nat → Option Loc} {n : Nat} {a ca : Act} (h : ActR φ n a ca) (d : Option Tmp) {v v' : Value} (hv : VR φ n v v') : ActR φ n (a.put d v) (ca.put d v') := by
  cases d with
  | none => exact h
  | some d => exact ⟨h.1.set hv d, h.2⟩
theorem CR.getD {φ : Nat → Option Loc} {n : Nat} {c c' : Array Value} (h : CR φ n c c') (i : Nat) : VR φ n (c.getD i Go.undef) (c'.getD i Go.undef) := by
  cases hc : c[i]? with
  | none =>
    have hc' := h.none i hc
    simp only [Array.getD_eq_getD_getElem?, hc, hc', Option.getD_none]; exact VR.undef
  | some v =>
    obtain ⟨v', h1, h2⟩ := h.at i v hc
    simp only [Array.getD_eq_getD_getElem?, hc, h1, Option.getD_some]; exact h2
theorem ActR.eval {φ : Nat → Option Loc} {n : Nat} {a ca : Act} (h : ActR φ n a ca) (x : Operand) (hx : okO x = true) : VR φ n (a.eval x) (ca.eval x) := by
  cases x with
  | tmp t => exact h.1.getD t
  | const v => exact VR.plain hx
  | global g => simp [okO] at hx
  | func f => exact .func _ _ _ _ _ (by intro l hl; cases hl) rfl rfl (by intro i v v' h; simp at h) (by intro i v v' h; simp at h)

inductive ExitR (φ : Nat → Option Loc) (n : Nat) : Exit → Exit → Prop
  | normal : ExitR φ n .normal .normal
  | exit (i : Nat) : ExitR φ n (.exit i) (.exit i)
  | goto (i : Nat) : ExitR φ n (.goto i) (.goto i)
  | ret : ExitR φ n .ret .ret
  | panic {c c' : List PanicEntry} (h : ChR φ n c c') : ExitR φ n (.panic c) (.panic c')
inductive EndR (φ : Nat → Option Loc) (n : Nat) : Ending → Ending → Prop
  | returned {v v' : Value} (h : VR φ n v v') : EndR φ n (.returned v) (.returned v')
  | panicked {c c' : List PanicEntry} (h : ChR φ n c c') : EndR φ n (.panicked c) (.panicked c')

def PostR (w0 : World) (n0 : Nat) (φ : Nat → Option Loc) (Q : Exit → Act → St → Prop) (ce : Exit) (ca : Act) (w : World) : Prop :=
  ∃ e φ' a A, Q e a A ∧ ExitR φ' A.next e ce ∧ Sim w0 φ' A w ∧ ActR φ' A.next a ca ∧ n0 ≤ A.next ∧ Ext n0 φ φ'
def EndP (w0 : World) (n0 : Nat) (φ : Nat → Option Loc) (R : Ending → St → Prop) (ce : Ending) (w : World) : Prop :=
  ∃ e φ' A, R e A ∧ EndR φ' A.next e ce ∧ Sim w0 φ' A w ∧ n0 ≤ A.next ∧ Ext n0 φ φ'

/-- Code, from an activation and a heap on (n0: what the caller may still name; nr: not in a round). -/
def AW (P : Program) (w0 : World) (n0 : Nat) (nr : Bool) (c : Code) (Q : Exit → Act → St → Prop) (a : Act) (A : St) : Prop :=
  ∀ (rd : Option Nat) (φ : Nat → Option Loc) (w : World) (ca : Act), (nr = true → rd = none) → n0 ≤ A.next → Sim w0 φ A w → ActR φ A.next a ca → c.wpIn (wideR rd) 0 P (PostR w0 n0 φ Q) ca w
def Enters (P : Program) (f : Nat) : Prop := ∀ (args : Array Value) (w : World), (callFunc f args).run P w = .ok (.enter f args) w
/-- A call of a Go function. -/
def ACalls (P : Program) (w0 : World) (f : Nat) (args : Array Value) (A : St) (R : Ending → St → Prop) : Prop :=
  Enters P f ∧ ∀ (φ : Nat → Option Loc) (w : World) (ca : Array Value), Sim w0 φ A w → CR φ A.next args ca → CallsIn Fence.wide 0 P f ca w (EndP w0 A.next φ R)
/-- A call of a loop's 'yield'. -/
def AYield (P : Program) (w0 : World) (l : Nat) (args : Array Value) (A : St) (R : Ending → St → Prop) : Prop :=
  ∀ (φ : Nat → Option Loc) (w : World) (ca : Array Value) (l' : Nat), Sim w0 φ A w → CR φ A.next args ca → (∀ loc, φ l = some loc → l' = loc.block) →
    ∃ f tmps asg body, (Instr.yield l' ca).run P w = .ok (.round l' f tmps asg body) w ∧ RoundIn Fence.wide 0 P l' f tmps asg body w (EndP w0 A.next φ R)
/-- A function without a text, by what its call comes to at once. -/
def noBody (P : Program) (f : Nat) : Bool := match P.funcs[f]? with | some fn => fn.body.isNone | none => true
def AExt (P : Program) (w0 : World) (f : Nat) (args : Array Value) (A : St) (R : Ending → St → Prop) : Prop :=
  ∀ (φ : Nat → Option Loc) (w : World) (ca : Array Value), Sim w0 φ A w → CR φ A.next args ca → ∃ cv w', (callFunc f ca).run P w = .ok (.value cv) w' ∧ EndP w0 A.next φ R (.returned cv) w'
def ACallF (P : Program) (w0 : World) (b : Bool) (f : Nat) (args : Array Value) (A : St) (R : Ending → St → Prop) : Prop := if b = true then AExt P w0 f args A R else ACalls P w0 f args A R
def ACallV (P : Program) (w0 : World) (fv : Value) (args : Array Value) (A : St) (R : Ending → St → Prop) : Prop :=
  match fv with
  | .func (.func f) first cap => ACallF P w0 (noBody P f) f (first ++ args ++ cap) A R
  | .func (.yield l) _ _ => AYield P w0 l args A R
  | _ => False

/-- What follows a call. -/
def afterCall (dst : Option Tmp) (a : Act) (next : Act → St → Prop) (Q : Exit → Act → St → Prop) (e : Ending) (A' : St) : Prop :=
  match e with
  | .returned v => next (a.put dst v) A'
  | .panicked ch => Q (.panic ch) a A'
  | .outgrown => False
/-- One operation, with what follows. -/
def aoper (P : Program) (w0 : World) (nr : Bool) (o : Oper) (a : Act) (A : St) (next : Act → St → Prop) (Q : Exit → Act → St → Prop) : Prop :=
  match o.op with
  | .call { callee := .value f, args, argTypes := _ } =>
    (okO f && args.all okO) = true ∧ ACallV P w0 (a.eval f) (args.map a.eval) A (afterCall o.dst a next Q)
  | .panic x =>
    okO x = true ∧ match a.eval x with
    | .iface t v => Q (.panic [⟨.iface t v, false, false⟩]) a A
    | _ => False
  | .defer { callee := .value f, args, argTypes := _ } =>
    nr = true ∧ (okO f && args.all okO) = true ∧ match a.eval f with
    | .func (.func g) first cap => next ({ a with defers := ⟨.fn (.func g) cap, first ++ args.map a.eval⟩ :: a.defers }.put o.dst undef) A
    | _ => False
  | op =>
    match aop P op a.eval A with
    | some (v, A') => next (a.put o.dst v) A'
    | none => False
def aopsI (P : Program) (w0 : World) (nr : Bool) (ops : Array Oper) (Q : Exit → Act → St → Prop) : List Nat → Act → St → Prop
  | [], a, A => Q .normal a A
  | i :: rest, a, A =>
    match ops[i]? with
    | none => aopsI P w0 nr ops Q rest a A
    | some o => if Region.wanted o (yielded ops a.tmps) then aoper P w0 nr o a A (aopsI P w0 nr ops Q rest) Q else aopsI P w0 nr ops Q rest (a.put o.dst undef) A

section
variable {P : Program} {w0 : World} {n0 : Nat} {nr : Bool}

theorem PostR.ext {φ φ1 : Nat → Option Loc} {n1 : Nat} {Q : Exit → Act → St → Prop} {ce : Exit} {ca : Act} {w : World} (he : Ext n1 φ φ1) (hn : n0 ≤ n1) (h : PostR w0 n0 φ1 Q ce ca w) : PostR w0 n0 φ Q ce ca w := by
  obtain ⟨e, φ', a, A, h1, h2, h3, h4, h5, h6⟩ := h
  exact ⟨e, φ', a, A, h1, h2, h3, h4, h5, (he.le hn).trans h6 (Nat.le_refl _)⟩

theorem callsIn_wideR {rd : Option Nat} {n : Nat} {f : FuncId} {args : Array Value} {w : World} {R : Ending → World → Prop} (h : CallsIn Fence.wide 0 P f args w R) : CallsIn (wideR rd) n P f args w R := h.more (Nat.zero_le _)
theorem roundIn_wideR {rd : Option Nat} {n : Nat} {l : Nat} {f : FuncId} {tmps : Array Value} {asg body : Code} {w : World} {R : Ending → World → Prop} (h : RoundIn Fence.wide 0 P l f tmps asg body w R) : RoundIn (wideR rd) n P l f tmps asg body w R :=
  ⟨trivial, fun c cs hr => h.2 c cs (fun d hd => by cases hd)⟩

theorem yielded_rel {φ : Nat → Option Loc} {n : Nat} {a ca : Act} (h : ActR φ n a ca) (ops : Array Oper) : yielded ops ca.tmps = yielded ops a.tmps := by
  funext j
  unfold yielded
  cases hd : ((ops[j]?).bind (·.dst)) with
  | none => rfl
  | some d =>
    simp only [Option.bind_some]
    cases hc : a.tmps[d]? with
    | none => rw [h.1.none d hc]
    | some v =>
      obtain ⟨v', h1, h2⟩ := h.1.at d v hc
      rw [h1]
      cases h2 <;> rfl

theorem aoper_sound {o : Oper} {a : Act} {A : St} {next : Act → St → Prop} {Q : Exit → Act → St → Prop} (h : aoper P w0 nr o a A next Q) {rd : Option Nat} (hrd : nr = true → rd = none) {φ : Nat → Option Loc} {w : World} {ca : Act} (hn : n0 ≤ A.next) (hs : Sim w0 φ A w) (ha : ActR φ A.next a ca)
    {cnext : Act → World → Prop} (hnext : ∀ a' A' φ' ca' w', next a' A' → n0 ≤ A'.next → Sim w0 φ' A' w' → ActR φ' A'.next a' ca' → Ext n0 φ φ' → cnext ca' w') :
    o.wpIn (wideR rd) 0 P ca w cnext (PostR w0 n0 φ Q) := by
  refine ⟨fun _ _ => trivial, ?_⟩
  -- an operation of the plain kind
  have plain : (∀ c, o.op ≠ .defer c) → ∀ v A', aop P o.op a.eval A = some (v, A') → next (a.put o.dst v) A' → o.uponIn (wideR rd) 0 P ca cnext (PostR w0 n0 φ Q) ((o.semAt (wideR rd).round ca.eval).run P w) := by
    intro hnd v A' e hx
    obtain ⟨nx, v', w', φ', h1, h2, h3, h4, h5, h6⟩ := aop_sound (o := o) hs (fun x hx => ha.eval x hx) e
    rw [Oper.semAt_eq _ _ _ hnd, h1]
    have hq := hnext _ _ φ' (ca.put o.dst v') w' hx (by omega) h4 ((ha.mono h5 h6).put o.dst h3) (h6.le hn)
    rcases h2 with rfl | ⟨rfl, rfl⟩
    · exact hq
    · exact hq
  have argsR : ∀ args : Array Operand, args.all okO = true → CR φ A.next (args.map a.eval) (args.map ca.eval) := fun args hall => CR.map args _ _ fun x hx => ha.eval x (by rw [Array.all_eq_true'] at hall; exact hall x hx)
  unfold aoper at h
  split at h
  · rename_i f args ts ho
    obtain ⟨hok, h⟩ := h
    simp only [Bool.and_eq_true] at hok
    have hf := ha.eval f hok.1
    have hargs := argsR args hok.2
    rw [Oper.semAt_eq _ _ _ (by simp [ho])]
    have hex : execOp ca.eval o = (do let d ← Deferred.ofValue (ca.eval f) (args.map ca.eval); invoke d.target d.args) := by simp only [execOp, ho, resolve]
    rw [hex]
    have post : ∀ ce w', EndP w0 A.next φ (afterCall o.dst a next Q) ce w' → (match ce, w' with
        | .returned v, w'' => cnext (ca.put o.dst v) w''
        | .panicked chain, w'' => PostR w0 n0 φ Q (.panic chain) ca w''
        | .outgrown, _ => LetsOut (PostR w0 n0 φ Q)) := by
      rintro ce w' ⟨e, φ', A', h1, h2, h3, h4, h5⟩
      cases h2 with
      | returned hv => exact hnext _ _ φ' _ _ h1 (by omega) h3 ((ha.mono h4 h5).put o.dst hv) (h5.le hn)
      | panicked hc => exact ⟨_, φ', a, A', h1, .panic hc, h3, ha.mono h4 h5, by omega, h5.le hn⟩
    unfold ACallV at h
    split at h
    · rename_i g first cap heq
      rw [heq] at hf
      obtain ⟨first', cap', hcf, c1, c2⟩ : ∃ first' cap', ca.eval f = .func (.func g) first' cap' ∧ CR φ A.next first first' ∧ CR φ A.next cap cap' := by
        generalize ca.eval f = y at hf
        cases hf with | func _ _ f' _ c' hfn h1 h2 h3 h4 => exact ⟨f', c', rfl, ⟨h1, h3⟩, ⟨h2, h4⟩⟩
      rw [hcf]
      simp only [Deferred.ofValue, pure_bind, invoke]
      unfold ACallF at h
      split at h
      · obtain ⟨cv, w', hr, he⟩ := h φ w (first' ++ args.map ca.eval ++ cap') hs ((c1.append hargs).append c2)
        rw [hr]
        exact post (.returned cv) w' he
      rw [h.1]
      have := h.2 φ w (first' ++ args.map ca.eval ++ cap') hs ((c1.append hargs).append c2)
      exact ⟨fun hd => (by cases hd), callsIn_wideR (this.mono post)⟩
    · rename_i l f0 c0 heq
      rw [heq] at hf
      obtain ⟨l', hcf, h2⟩ : ∃ l', ca.eval f = .func (.yield l') #[] #[] ∧ ∀ loc, φ l = some loc → l' = loc.block := by
        generalize ca.eval f = y at hf
        cases hf with
        | func _ _ f' _ c' hfn => exact absurd rfl (hfn l)
        | yield b b' hb h => exact ⟨b', rfl, h⟩
      rw [hcf]
      simp only [Deferred.ofValue, pure_bind, invoke, Array.empty_append]
      obtain ⟨f1, tmps, asg, body, q1, q2⟩ := h φ w (args.map ca.eval) l' hs hargs h2
      rw [q1]
      exact ⟨fun hd => (by cases hd), roundIn_wideR (q2.mono post)⟩
    · exact h.elim
  · rename_i x ho
    obtain ⟨hok, h⟩ := h
    have hx := ha.eval x hok
    rw [Oper.semAt_eq _ _ _ (by simp [ho])]
    split at h
    · rename_i t v heq
      rw [heq] at hx
      obtain ⟨v', hv', hr⟩ := hx.iface_inv
      have : (execOp ca.eval o).run P w = .halt (.panic (.iface t v')) w := by simp [execOp, ho, hv', Instr.panic, goPanic]
      rw [this]
      exact ⟨_, φ, a, A, h, .panic (.cons (.iface _ _ _ hr) .nil), hs, ha, hn, Ext.refl _ _⟩
    · exact h.elim
  · rename_i f args ts ho
    obtain ⟨hnr, hok, h⟩ := h
    obtain rfl := hrd hnr
    simp only [Bool.and_eq_true] at hok
    have hf := ha.eval f hok.1
    have hargs := argsR args hok.2
    split at h
    · rename_i g first cap heq
      rw [heq] at hf
      obtain ⟨first', cap', hcf, c1, c2⟩ : ∃ first' cap', ca.eval f = .func (.func g) first' cap' ∧ CR φ A.next first first' ∧ CR φ A.next cap cap' := by
        generalize ca.eval f = y at hf
        cases hf with | func _ _ f' _ c' hfn h1 h2 h3 h4 => exact ⟨f', c', rfl, ⟨h1, h3⟩, ⟨h2, h4⟩⟩
      have : ((o.semAt (wideR none).round ca.eval).run P w) = .ok (.defer ⟨.fn (.func g) cap', first' ++ args.map ca.eval⟩) w := by
        show (execOp ca.eval o).run P w = _
        simp [execOp, ho, resolve, hcf, Deferred.ofValue]
      rw [this]
      refine hnext _ _ φ _ _ h hn hs (ActR.put (a := { a with defers := ⟨.fn (.func g) cap, first ++ args.map a.eval⟩ :: a.defers }) (ca := { ca with defers := ⟨.fn (.func g) cap', first' ++ args.map ca.eval⟩ :: ca.defers }) ⟨ha.1, .cons (.fn _ _ _ _ _ (by intro l hl; cases hl) c2 (c1.append hargs)) ha.2⟩ o.dst VR.undef) (Ext.refl _ _)
    · exact h.elim
  · rename_i h1 h2 h3
    split at h
    · rename_i v A' e
      by_cases hd : ∀ c, o.op ≠ .defer c
      · exact plain hd v A' e h
      · obtain ⟨c, hc⟩ := Classical.not_forall.1 hd
        have hc := Classical.not_not.1 hc
        rw [hc] at e
        unfold aop at e
        split at e
        · unfold aop0 at e; cases e
        · cases e
    · exact h.elim

theorem aopsI_sound {ops : Array Oper} {Q : Exit → Act → St → Prop} {rd : Option Nat} (hrd : nr = true → rd = none) {φ0 : Nat → Option Loc} : ∀ (l : List Nat) {a : Act} {A : St} {φ : Nat → Option Loc} {w : World} {ca : Act}, aopsI P w0 nr ops Q l a A → n0 ≤ A.next → Sim w0 φ A w → ActR φ A.next a ca → Ext n0 φ0 φ →
    wpOpsIn (wideR rd) 0 P ops (PostR w0 n0 φ0 Q) l ca w
  | [], a, A, φ, w, ca, h, hn, hs, ha, he => ⟨.normal, φ, a, A, h, .normal, hs, ha, hn, he⟩
  | i :: rest, a, A, φ, w, ca, h, hn, hs, ha, he => by
    unfold aopsI at h
    unfold wpOpsIn
    split at h
    · rename_i ho
      simp only [ho]
      exact aopsI_sound hrd rest h hn hs ha he
    · rename_i o ho
      simp only [ho]
      rw [yielded_rel ha]
      split at h
      · rename_i hw
        rw [if_pos hw]
        have := aoper_sound (n0 := n0) h hrd hn hs ha (cnext := wpOpsIn (wideR rd) 0 P ops (PostR w0 n0 φ0 Q) rest) (fun a' A' φ' ca' w' h1 h2 h3 h4 h5 => aopsI_sound hrd rest h1 h2 h3 h4 (he.trans h5 (Nat.le_refl _)))
        refine ⟨this.1, ?_⟩
        have h2 := this.2
        revert h2
        generalize (o.semAt (wideR rd).round ca.eval).run P w = r
        intro h2
        have hp : ∀ ce ca w, PostR w0 n0 φ Q ce ca w → PostR w0 n0 φ0 Q ce ca w := fun ce ca w h => h.ext he (Nat.le_refl _)
        cases r with
        | ok nx w' =>
          cases nx with
          | enter f args => exact ⟨h2.1, h2.2.mono fun e w'' hq => by cases e with | returned v => exact hq | panicked c => exact hp _ _ _ hq | outgrown => obtain ⟨a0, w1, hq⟩ := hq; exact ⟨a0, w1, hp _ _ _ hq⟩⟩
          | round l f tmps asg body => exact ⟨h2.1, h2.2.mono fun e w'' hq => by cases e with | returned v => exact hq | panicked c => exact hp _ _ _ hq | outgrown => obtain ⟨a0, w1, hq⟩ := hq; exact ⟨a0, w1, hp _ _ _ hq⟩⟩
          | _ => exact h2
        | halt x w' =>
          cases x with
          | panic v => exact hp _ _ _ h2
          | _ => exact h2
      · rename_i hw
        rw [if_neg hw]
        exact ⟨fun _ _ => trivial, aopsI_sound hrd rest h hn hs (ha.put o.dst VR.undef) he⟩
end
end Go.Fw
