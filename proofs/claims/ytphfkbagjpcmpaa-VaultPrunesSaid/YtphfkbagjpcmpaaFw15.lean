import Derived.Test.YtphfkbagjpcmpaaFw14
/-! A call out of a body's walk. -/
set_option linter.unusedSimpArgs false
set_option linter.unusedVariables false
namespace Go.Fw
open Go.RowKit

def ares1 (P : Program) (A : St) (tm : Array Value) : ResultVar → Option Value
  | .tmp t => some (tm.getD t undef)
  | .cell a t => aload P A t (tm.getD a undef)
def aresL (P : Program) (A : St) (tm : Array Value) : List ResultVar → Option (List Value)
  | [] => some []
  | r :: rs => match ares1 P A tm r, aresL P A tm rs with | some v, some vs => some (v :: vs) | _, _ => none
/-- What a body's result variables come to. -/
def aresults (P : Program) (fn : Func) (A : St) (tm : Array Value) : Option Value :=
  match aresL P A tm fn.results.toList with
  | some [v] => some v
  | some vs => some (.tuple vs.toArray)
  | none => none

inductive BndE (n : Nat) : Ending → Prop
  | returned {v : Value} (h : Bnd n v) : BndE n (.returned v)
  | panicked {c : List PanicEntry} (h : ∀ p ∈ c, Bnd n p.v) : BndE n (.panicked c)
/-- The end of a call: as it stands, or without what nobody speaks of any more. -/
def GcE (A : St) (R : Ending → St → Prop) (e : Ending) (A' : St) : Prop := R e A' ∨ ∃ B, Sub B A' ∧ A.next ≤ B.next ∧ WF B ∧ BndE B.next e ∧ R e B

/-- A deferred call of a Go function, at a plain return: it returns. -/
def ADef (P : Program) (w0 : World) (f : Nat) (args : Array Value) (A : St) (R : St → Prop) : Prop :=
  ∀ (φ : Nat → Option Loc) (w : World) (ca : Array Value), Sim w0 φ A w → CR φ A.next args ca → CallsDIn Fence.wide 0 P f ca .returning w fun e u' w' => u' = .returning ∧ ∃ v, e = .returned v ∧ ∃ φ' A', R A' ∧ Sim w0 φ' A' w' ∧ A.next ≤ A'.next ∧ Ext A.next φ φ'
/-- The deferred calls at a plain return: marks of loops over functions, and Go functions that return. -/
def aleave (P : Program) (w0 : World) (fn : Func) (tm : Array Value) (R : Ending → St → Prop) : List Deferred → St → Prop
  | [], A => ∃ v, aresults P fn A tm = some v ∧ R (.returned v) A
  | ⟨.collected D, _⟩ :: ds, A => A.get D = some (.dfr false) ∧ aleave P w0 fn tm R ds (A.upd D (some (.dfr true)))
  | ⟨.fn (.func g) cap, args⟩ :: ds, A => Enters P g ∧ ADef P w0 g (args ++ cap) A fun A' => aleave P w0 fn tm R ds A'
  | _ :: _, _ => False

section
variable {P : Program} {w0 : World} {φ : Nat → Option Loc} {A : St} {w : World}

/-- One result variable, in the machine. -/
def res1 (tm : Array Value) : ResultVar → Sem Value
  | .tmp t => pure (tm.getD t undef)
  | .cell a t => do loadVar t (← asAddr (tm.getD a undef))
theorem results_eq (fn : Func) (tm : Array Value) : results fn tm = (do let vs ← fn.results.mapM (res1 tm); pure (if h : vs.size = 1 then vs[0] else .tuple vs)) := rfl

theorem ares1_sound (h : Sim w0 φ A w) {tm tm' : Array Value} (ht : CR φ A.next tm tm') {r : ResultVar} {v : Value} (e : ares1 P A tm r = some v) :
    ∃ v', (res1 tm' r).run P w = .ok v' w ∧ VR φ A.next v v' := by
  cases r with
  | tmp t => cases e; exact ⟨_, rfl, ht.getD t⟩
  | cell a t =>
    have ha := ht.getD a
    obtain ⟨v', h1, h2⟩ := aload_sound (P := P) h e ha
    refine ⟨v', ?_, h2⟩
    simp only [ares1, aload] at e
    split at e
    · rename_i b off heq
      rw [heq] at ha
      obtain ⟨ca, hca, _⟩ := ha.ptr_inv
      rw [hca] at h1
      simpa [res1, hca, Instr.loadAt, Instr.sureAddr, asAddr] using h1
    · cases e
theorem aresL_sound (h : Sim w0 φ A w) {tm tm' : Array Value} (ht : CR φ A.next tm tm') : ∀ {rs : List ResultVar} {vs : List Value}, aresL P A tm rs = some vs →
    ∃ vs', (rs.mapM (res1 tm')).run P w = .ok vs' w ∧ CR φ A.next vs.toArray vs'.toArray
  | [], vs, e => by cases e; exact ⟨[], rfl, CR.empty⟩
  | r :: rs, vs, e => by
    unfold aresL at e
    split at e
    · rename_i v vs0 h1 h2
      cases e
      obtain ⟨v', q1, q2⟩ := ares1_sound (P := P) h ht h1
      obtain ⟨vs', q3, q4⟩ := aresL_sound h ht h2
      refine ⟨v' :: vs', ?_, ?_⟩
      · simp only [List.mapM_cons, Sem.run_bind, q1, q3, Result.andThen_ok, Sem.run_pure]
      · have := (CR.one q2).append q4
        simpa using this
    · cases e
theorem aresults_sound (h : Sim w0 φ A w) {fn : Func} {tm tm' : Array Value} (ht : CR φ A.next tm tm') {v : Value} (e : aresults P fn A tm = some v) : ∃ v', (results fn tm').run P w = .ok v' w ∧ VR φ A.next v v' := by
  unfold aresults at e
  have key : ∀ vs, aresL P A tm fn.results.toList = some vs → ∃ vs' : Array Value, (fn.results.mapM (res1 tm')).run P w = .ok vs' w ∧ CR φ A.next vs.toArray vs' := by
    intro vs hv
    obtain ⟨vs', h1, h2⟩ := aresL_sound (P := P) h ht hv
    refine ⟨vs'.toArray, ?_, h2⟩
    have : fn.results = fn.results.toList.toArray := by simp
    rw [this, List.mapM_toArray]
    simp only [Sem.run_map, h1, Result.andThen_ok]
  split at e
  · rename_i v0 hv
    cases e
    obtain ⟨vs', h1, h2⟩ := key _ hv
    have hs : vs'.size = 1 := by have := h2.1; simp at this; exact this.symm
    refine ⟨vs'[0], ?_, h2.2 0 _ _ (by simp) (Array.getElem?_eq_getElem (by omega))⟩
    simp only [results_eq, Sem.run_bind]
    rw [h1]
    simp only [Result.andThen_ok, hs, dite_true, Sem.run_pure]
  · rename_i vs hne hv
    cases e
    obtain ⟨vs', h1, h2⟩ := key _ hv
    have hs : vs'.size ≠ 1 := by
      intro h0
      have := h2.1
      simp only [List.size_toArray] at this
      match vs, this with
      | [x], _ => exact hne x rfl
      | [], h3 => simp at h3; omega
      | _ :: _ :: _, h3 => simp at h3; omega
    refine ⟨.tuple vs', ?_, .tuple _ _ h2.1 h2.2⟩
    simp only [results_eq, Sem.run_bind]
    rw [h1]
    simp only [Result.andThen_ok, dif_neg hs, Sem.run_pure]
  · cases e

theorem ChR.cut {n n' : Nat} {c c' : List PanicEntry} (h : ChR φ n c c') (hb : ∀ p ∈ c, Bnd n' p.v) : ChR (Fw.cut n' φ) n' c c' := by
  induction h with
  | nil => exact .nil
  | cons h _ ih => exact .cons (h.cut (hb _ (List.mem_cons_self ..))) (ih fun p hp => hb p (List.mem_cons_of_mem _ hp))

theorem endP_of {R : Ending → St → Prop} {A A' : St} {φ φ' : Nat → Option Loc} {e ce : Ending} {w' : World} (h : GcE A R e A') (he : EndR φ' A'.next e ce) (hs : Sim w0 φ' A' w') (hn : A.next ≤ A'.next) (hx : Ext A.next φ φ') : EndP w0 A.next φ R ce w' := by
  rcases h with h | ⟨B, h1, h2, h3, h4, h5⟩
  · exact ⟨e, φ', A', h, he, hs, hn, hx⟩
  · refine ⟨e, Fw.cut B.next φ', B, h5, ?_, hs.gc h1 h3, h2, hx.cut h2⟩
    cases h4 with
    | returned hb => cases he with | returned hv => exact .returned (hv.cut hb)
    | panicked hb => cases he with | panicked hv => exact .panicked (hv.cut hb)

theorem aleave_sound {R : Ending → St → Prop} {fn : Func} {A0 : St} {φ0 : Nat → Option Loc} : ∀ {ds cds : List Deferred} {A : St} {φ : Nat → Option Loc} {w : World} {tm tm' : Array Value}, aleave P w0 fn tm (GcE A0 R) ds A → Sim w0 φ A w → CR φ A.next tm tm' → DsR φ A.next ds cds → A0.next ≤ A.next → Ext A0.next φ0 φ →
    LeavesInM Fence.wide 0 P fn tm' (EndP w0 A0.next φ0 R) cds .returning w
  | [], cds, A, φ, w, tm, tm', h, hs, ht, hd, hn, hx => by
    obtain rfl := hd.nil_inv
    obtain ⟨v, h1, h2⟩ := h
    obtain ⟨v', q1, q2⟩ := aresults_sound (P := P) hs ht h1
    exact ⟨v', q1, endP_of h2 (.returned q2) hs hn hx⟩
  | ⟨t, args⟩ :: ds, cds, A, φ, w, tm, tm', h, hs, ht, hd, hn, hx => by
    cases hd with
    | cons hdd htt =>
      cases hdd with
      | fn f c c' args args' hf hc ha =>
        cases f with
        | func g =>
          unfold aleave at h
          obtain ⟨hen, h⟩ := h
          refine ⟨by simp, .inr ⟨fun hd => (by cases hd), .func g, c', g, args' ++ c', rfl, by simp only [invoke]; exact hen _ _, fun _ _ => trivial, ?_⟩⟩
          refine (h φ w (args' ++ c') hs (ha.append hc)).mono ?_
          rintro e u' w' ⟨rfl, v, rfl, φ', A', h1, h2, h3, h4⟩
          exact aleave_sound h1 h2 (ht.mono h3 h4) (htt.mono h3 h4) (by omega) (hx.trans h4 hn)
        | _ => unfold aleave at h; exact h.elim
      | coll r r' hr hr' =>
        unfold aleave at h
        obtain ⟨h1, h2⟩ := h
        obtain ⟨_, l, hl, hb0, hb1⟩ := hs.blk r _ h1
        obtain rfl := hr' l hl
        have hsim : Sim w0 φ (A.upd r (some (.dfr true))) (w.putObj l.block (.deferred none)) := hs.putObj h1 hl (by simp [roBlk]) _ hb0 ⟨hb0, putObj_same hb1⟩
        refine ⟨by simp, .inl ⟨l.block, _, rfl, run_takeDeferred hb1, ?_⟩⟩
        exact aleave_sound h2 hsim ht htt hn hx

/-- **A call**, out of its body's walk. -/
theorem acalls_of {f : Nat} {fn : Func} {c : Code} {args : Array Value} {A : St} {R : Ending → St → Prop} (hen : Enters P f) (hf : P.funcs[f]? = some fn) (hb : fn.body = some c)
    (h : WF A → BndA A.next args → AW P w0 A.next true c (fun e a' A' => (e = .normal ∨ e = .ret) ∧ aleave P w0 fn a'.tmps (GcE A R) a'.defers A' ∨ ∃ ch, e = .panic ch ∧ a'.defers = [] ∧ GcE A R (.panicked ch) A') { tmps := args ++ Array.replicate (fn.ntmps - args.size) undef, defers := [] } A) :
    ACalls P w0 f args A R := by
  refine ⟨hen, fun φ w ca hs hc => ?_⟩
  refine callsIn_of_wp_marks (F := Fence.wide) hf hb trivial ?_
  have hact : ActR φ A.next { tmps := args ++ Array.replicate (fn.ntmps - args.size) undef, defers := [] } { tmps := ca ++ Array.replicate (fn.ntmps - ca.size) undef, defers := [] } := by
    refine ⟨?_, .nil⟩
    show CR φ A.next _ _
    have h1 := hc.1
    simp only [← h1]
    exact hc.append (CR.replicate _ VR.undef)
  refine wpIn_mono (h hs.wf hc.bnd none φ w _ (by simp) (Nat.le_refl _) hs hact) ?_
  rintro ce ca' w' ⟨e, φ', a', A', h1, h2, h3, h4, h5, h6⟩
  rcases h1 with ⟨he, h1⟩ | ⟨ch, rfl, hd, h1⟩
  · rcases he with rfl | rfl
    · cases h2; exact aleave_sound h1 h3 h4.1 h4.2 h5 h6
    · cases h2; exact aleave_sound h1 h3 h4.1 h4.2 h5 h6
  · cases h2 with
    | panic hch =>
      have : ca'.defers = [] := by have := h4.2; rw [hd] at this; exact this.nil_inv
      show LeavesInM Fence.wide 0 P fn ca'.tmps _ ca'.defers _ w'
      rw [this]
      exact endP_of h1 (.panicked hch) h3 h5 h6

/-- A deferred call, out of its body's walk. -/
theorem adef_of {f : Nat} {fn : Func} {c : Code} {args : Array Value} {A : St} {R : St → Prop} (hf : P.funcs[f]? = some fn) (hb : fn.body = some c)
    (h : WF A → BndA A.next args → AW P w0 A.next true c (fun e a' A' => (e = .normal ∨ e = .ret) ∧ a'.defers = [] ∧ ∃ v, aresults P fn A' a'.tmps = some v ∧ R A') { tmps := args ++ Array.replicate (fn.ntmps - args.size) undef, defers := [] } A) :
    ADef P w0 f args A R := by
  intro φ w ca hs hc
  have hact : ActR φ A.next { tmps := args ++ Array.replicate (fn.ntmps - args.size) undef, defers := [] } { tmps := ca ++ Array.replicate (fn.ntmps - ca.size) undef, defers := [] } := by
    refine ⟨?_, .nil⟩
    show CR φ A.next _ _
    have h1 := hc.1
    simp only [← h1]
    exact hc.append (CR.replicate _ VR.undef)
  have hbody := callsDIn_of_wp (F := Fence.wide) (n := 0) (u := .returning) (args := ca) (w := w) (R := fun e w' => ∃ v, e = .returned v ∧ ∃ φ' A', R A' ∧ Sim w0 φ' A' w' ∧ A.next ≤ A'.next ∧ Ext A.next φ φ') hf hb trivial (by
    refine wpIn_mono (h hs.wf hc.bnd none φ w _ (by simp) (Nat.le_refl _) hs hact) ?_
    rintro ce ca' w' ⟨e, φ', a', A', ⟨he, hd, v, hv, hR⟩, h2, h3, h4, h5, h6⟩
    have hcd : ca'.defers = [] := by have := h4.2; rw [hd] at this; exact this.nil_inv
    obtain ⟨v', q1, q2⟩ := aresults_sound (P := P) h3 h4.1 hv
    rcases he with rfl | rfl
    · cases h2; exact ⟨hcd, v', q1, v', rfl, φ', A', hR, h3, h5, h6⟩
    · cases h2; exact ⟨hcd, v', q1, v', rfl, φ', A', hR, h3, h5, h6⟩)
  exact hbody.mono fun e u' w' ⟨h1, h2⟩ => ⟨h1, h2⟩
theorem ACalls.mono {f : Nat} {args : Array Value} {A : St} {R R' : Ending → St → Prop} (h : ACalls P w0 f args A R) (hr : ∀ e A', R e A' → R' e A') : ACalls P w0 f args A R' :=
  ⟨h.1, fun φ w ca hs hc => (h.2 φ w ca hs hc).mono fun ce w' ⟨e, φ', A', h1, h2⟩ => ⟨e, φ', A', hr _ _ h1, h2⟩⟩
theorem AExt.mono {f : Nat} {args : Array Value} {A : St} {R R' : Ending → St → Prop} (h : AExt P w0 f args A R) (hr : ∀ e A', R e A' → R' e A') : AExt P w0 f args A R' :=
  fun φ w ca hs hc => let ⟨cv, w', h1, e, φ', A', h2, h3⟩ := h φ w ca hs hc; ⟨cv, w', h1, e, φ', A', hr _ _ h2, h3⟩
theorem ACallF.mono {b : Bool} {f : Nat} {args : Array Value} {A : St} {R R' : Ending → St → Prop} (h : ACallF P w0 b f args A R) (hr : ∀ e A', R e A' → R' e A') : ACallF P w0 b f args A R' := by
  unfold ACallF at h ⊢
  split
  · rename_i hb; rw [if_pos hb] at h; exact h.mono hr
  · rename_i hb; rw [if_neg hb] at h; exact h.mono hr
theorem AYield.mono {l : Nat} {args : Array Value} {A : St} {R R' : Ending → St → Prop} (h : AYield P w0 l args A R) (hr : ∀ e A', R e A' → R' e A') : AYield P w0 l args A R' :=
  fun φ w ca l' hs hc hl => let ⟨f, tm, asg, body, h1, h2⟩ := h φ w ca l' hs hc hl; ⟨f, tm, asg, body, h1, h2.mono fun ce w' ⟨e, φ', A', h3, h4⟩ => ⟨e, φ', A', hr _ _ h3, h4⟩⟩
/-- What is known of the heap at a call may be used. -/
theorem ACalls.wf {f : Nat} {args : Array Value} {A : St} {R : Ending → St → Prop} (hen : Enters P f) (h : WF A → BndA A.next args → ACalls P w0 f args A R) : ACalls P w0 f args A R :=
  ⟨hen, fun φ w ca hs hc => (h hs.wf hc.bnd).2 φ w ca hs hc⟩
theorem enters_of {f : Nat} {fn : Func} {c : Code} (hf : P.funcs[f]? = some fn) (hb : fn.body = some c) (hn : (fn.name == "runtime.NumGoroutine") = false) : Enters P f := by
  intro args w
  simp only [callFunc, Sem.run_bind, run_program, Result.andThen_ok, hf, hn, hb, Option.isNone_some, Bool.false_eq_true, if_false, Sem.run_pure]
end
end Go.Fw
