import Derived.Test.YtmfccnnkolegmaaFw37
/-! Panics under deferred calls that recover. -/
set_option linter.unusedSimpArgs false
set_option linter.unusedVariables false
namespace Go.Fw
open Go.RowKit
section
variable {P : Program} {w0 : World} {φ : Nat → Option Loc} {A : St} {w : World}
/-- How a frame leaves: it returns, or it panics with one value that nobody has recovered yet. -/
def ModeR (φ : Nat → Option Loc) (n : Nat) (m : Option Value) (u : FrameMode) : Prop :=
  match m with
  | none => u = .returning
  | some v => ∃ v', u = .panicking [⟨v', false, false⟩] ∧ VR φ n v v'
theorem ModeR.mono {φ φ' : Nat → Option Loc} {n n' : Nat} {m : Option Value} {u : FrameMode} (h : ModeR φ n m u) (hn : n ≤ n') (hx : Ext n φ φ') : ModeR φ' n' m u := by
  cases m with
  | none => exact h
  | some v => obtain ⟨v', e, r⟩ := h; exact ⟨v', e, r.mono hn hx⟩
/-- A deferred call of a Go function: it returns, and what was panicked with is recovered. -/
def ADefR (P : Program) (w0 : World) (g : Nat) (args : Array Value) (m : Option Value) (A : St) (K : St → Prop) : Prop :=
  ∀ (φ : Nat → Option Loc) (w : World) (ca : Array Value) (cu : FrameMode), Sim w0 φ A w → CR φ A.next args ca → ModeR φ A.next m cu →
    CallsDIn Fence.wide 0 P g ca cu w fun e u' w' => settle u' = .returning ∧ ∃ v, e = .returned v ∧ ∃ φ' A', K A' ∧ Sim w0 φ' A' w' ∧ A.next ≤ A'.next ∧ Ext A.next φ φ'
theorem ADefR.mono {g : Nat} {args : Array Value} {m : Option Value} {K K' : St → Prop} (h : ADefR P w0 g args m A K) (hk : ∀ A', K A' → K' A') : ADefR P w0 g args m A K' := fun φ w ca cu hs hc hm => by
  refine (h φ w ca cu hs hc hm).mono ?_
  rintro e u' w' ⟨h0, v, h1, φ', A', h2, h3⟩
  exact ⟨h0, v, h1, φ', A', hk _ h2, h3⟩
/-- The deferred calls at a return, or at a panic. -/
def aleaveR (P : Program) (w0 : World) (fn : Func) (tm : Array Value) (R : Ending → St → Prop) : Option Value → List Deferred → St → Prop
  | none, [], A => ∃ v, aresults P fn A tm = some v ∧ R (.returned v) A
  | some v, [], A => R (.panicked [⟨v, false, false⟩]) A
  | m, ⟨.fn (.func g) cap, args⟩ :: ds, A => Enters P g ∧ ADefR P w0 g (args ++ cap) m A fun A' => aleaveR P w0 fn tm R none ds A'
  | _, _ :: _, _ => False
theorem aleaveR_sound {R : Ending → St → Prop} {fn : Func} {A0 : St} {φ0 : Nat → Option Loc} : ∀ {ds cds : List Deferred} {m : Option Value} {cu : FrameMode} {A : St} {φ : Nat → Option Loc} {w : World} {tm tm' : Array Value}, aleaveR P w0 fn tm (GcE A0 R) m ds A → Sim w0 φ A w → CR φ A.next tm tm' → DsR φ A.next ds cds → ModeR φ A.next m cu → A0.next ≤ A.next → Ext A0.next φ0 φ →
    LeavesInM Fence.wide 0 P fn tm' (EndP w0 A0.next φ0 R) cds cu w
  | [], cds, none, cu, A, φ, w, tm, tm', h, hs, ht, hd, hm, hn, hx => by
    obtain rfl := hd.nil_inv
    obtain ⟨v, h1, h2⟩ := h
    obtain ⟨v', q1, q2⟩ := aresults_sound (P := P) hs ht h1
    cases hm
    exact ⟨v', q1, endP_of h2 (.returned q2) hs hn hx⟩
  | [], cds, some v, cu, A, φ, w, tm, tm', h, hs, ht, hd, hm, hn, hx => by
    obtain rfl := hd.nil_inv
    obtain ⟨v', rfl, hv⟩ := hm
    exact endP_of h (.panicked (.cons hv .nil)) hs hn hx
  | ⟨t, args⟩ :: ds, cds, m, cu, A, φ, w, tm, tm', h, hs, ht, hd, hm, hn, hx => by
    have hrun : cu ≠ .run := by
      cases m with
      | none => cases hm; simp
      | some v => obtain ⟨v', rfl, _⟩ := hm; simp
    cases hd with
    | cons hdd htt =>
      cases hdd with
      | fn f c c' args args' hf hc ha =>
        cases f with
        | func g =>
          have h' : Enters P g ∧ ADefR P w0 g (args ++ c) m A fun A' => aleaveR P w0 fn tm (GcE A0 R) none ds A' := by
            cases m <;> exact h
          obtain ⟨hen, h⟩ := h'
          refine ⟨hrun, .inr ⟨fun hd => (by cases hd), .func g, c', g, args' ++ c', rfl, by simp only [invoke]; exact hen _ _, fun _ _ => trivial, ?_⟩⟩
          refine (h φ w (args' ++ c') cu hs (ha.append hc) hm).mono ?_
          rintro e u' w' ⟨hse, v, rfl, φ', A', h1, h2, h3, h4⟩
          show LeavesInM Fence.wide 0 P fn tm' _ _ (settle u') w'
          rw [hse]
          exact aleaveR_sound h1 h2 (ht.mono h3 h4) (htt.mono h3 h4) (m := none) rfl (by omega) (hx.trans h4 hn)
        | _ => cases m <;> exact h.elim
      | coll r r' hr hr' => cases m <;> exact h.elim
/-- The end of a body whose panics are recovered by what it deferred. -/
def funQR (P : Program) (w0 : World) (fn : Func) (A : St) (R : Ending → St → Prop) (e : Exit) (a' : Act) (A' : St) : Prop :=
  (e = .normal ∨ e = .ret) ∧ aleaveR P w0 fn a'.tmps (GcE A R) none a'.defers A' ∨ ∃ v, e = .panic [⟨v, false, false⟩] ∧ aleaveR P w0 fn a'.tmps (GcE A R) (some v) a'.defers A'
theorem acalls_ofR {f : Nat} {fn : Func} {c : Code} {args : Array Value} {A : St} {R : Ending → St → Prop} (hen : Enters P f) (hf : P.funcs[f]? = some fn) (hb : fn.body = some c)
    (h : WF A → BndA A.next args → AW P w0 A.next true c (funQR P w0 fn A R) { tmps := args ++ Array.replicate (fn.ntmps - args.size) undef, defers := [] } A) :
    ACalls P w0 f args A R := by
  refine ⟨hen, fun φ w ca hs hc => ?_⟩
  refine callsIn_of_wp_marks (F := Fence.wide) hf hb trivial ?_
  have hact : ActR φ A.next { tmps := args ++ Array.replicate (fn.ntmps - args.size) undef, defers := [] } { tmps := ca ++ Array.replicate (fn.ntmps - ca.size) undef, defers := [] } := by
    refine ⟨?_, .nil⟩
    show CR φ A.next _ _
    have h1 := hc.1
    simp only [← h1]
    exact hc.append (CR.replicate _ VR.undef)
  refine wpIn_mono (h hs.wf hc.bnd none φ w _ (by simp) (Nat.le_refl _) hs hact) ?_
  rintro ce ca' w' ⟨e, φ', a', A', h1, h2, h3, h4, h5, h6⟩
  rcases h1 with ⟨he, h1⟩ | ⟨v, rfl, h1⟩
  · rcases he with rfl | rfl
    · cases h2; exact aleaveR_sound h1 h3 h4.1 h4.2 (m := none) rfl h5 h6
    · cases h2; exact aleaveR_sound h1 h3 h4.1 h4.2 (m := none) rfl h5 h6
  · cases h2 with
    | panic hch =>
      cases hch with
      | cons hv ht =>
        cases ht
        exact aleaveR_sound h1 h3 h4.1 h4.2 (m := some v) ⟨_, rfl, hv⟩ h5 h6
theorem call_ER {f : Nat} {fn : Func} {c : Code} {l : List Value} {R : Ending → St → Prop} (hen : Enters P f) (hf : P.funcs[f]? = some fn) (hb : fn.body = some c) (hl : l.length ≤ fn.ntmps)
    (h : WF A → BndA A.next l.toArray → wpA P w0 A.next true c (funQR P w0 fn A R) (E fn.ntmps (ar l) []) A) : ACalls P w0 f l.toArray A R :=
  acalls_ofR hen hf hb fun hw hbd => aw_of (by rw [ent_E _ _ hl]; exact h hw hbd)
/-- What is left to do, by name. -/
def leaveKR (P : Program) (w0 : World) (fn : Func) (t : Array Value) (R : Ending → St → Prop) (m : Option Value) (ds : List Deferred) (A' : St) : Prop := aleaveR P w0 fn t R m ds A'
def leaveFR (P : Program) (w0 : World) (g : Nat) (args : Array Value) (m : Option Value) (A : St) (K : St → Prop) : Prop := Enters P g ∧ ADefR P w0 g args m A K
theorem funQR_ret {fn : Func} {R : Ending → St → Prop} {A' : St} {n : Nat} {ρ : Nat → Value} {ds : List Deferred} : funQR P w0 fn A R .ret (E n ρ ds) A' = leaveKR P w0 fn (tm n ρ) (GcE A R) none ds A' := by
  unfold funQR leaveKR; simp [E_tmps, E_defers]
theorem funQR_panic {fn : Func} {R : Ending → St → Prop} {A' : St} {n : Nat} {ρ : Nat → Value} {ds : List Deferred} {v : Value} : funQR P w0 fn A R (.panic [⟨v, false, false⟩]) (E n ρ ds) A' = leaveKR P w0 fn (tm n ρ) (GcE A R) (some v) ds A' := by
  unfold funQR leaveKR; simp [E_tmps, E_defers]
theorem leaveKR_nil (fn : Func) (t : Array Value) (R : Ending → St → Prop) : leaveKR P w0 fn t R none [] A = retV (finR (aresL P A t fn.results.toList)) R A := by
  show (∃ v, aresults P fn A t = some v ∧ R (.returned v) A) = _
  unfold retV aresults finR; rfl
theorem leaveKR_fn (fn : Func) (t : Array Value) (R : Ending → St → Prop) (m : Option Value) (g : Nat) (cap args : Array Value) (ds : List Deferred) : leaveKR P w0 fn t R m (⟨.fn (.func g) cap, args⟩ :: ds) A = leaveFR P w0 g (args ++ cap) m A (leaveKR P w0 fn t R none ds) := by
  cases m <;> rfl
/-- **A deferred function that recovers first of all.** -/
theorem adefR_of {f : Nat} {fn : Func} {id : Nat} {d : Tmp} {ty : TypeId} {pos : String} {aft : Array Edge} {ts : Array TypeId} {rest : Code} {args : Array Value} {m : Option Value} {K : St → Prop} (hf : P.funcs[f]? = some fn)
    (hb : fn.body = some (.seq (.region id #[⟨some d, .call { callee := .builtin .recover, args := #[], argTypes := ts }, ty, pos, aft, none⟩] false) rest))
    (hm : ∀ v, m = some v → Bnd A.next v)
    (h : WF A → BndA A.next args → AW P w0 A.next true rest (fun e a' A' => (e = .normal ∨ e = .ret) ∧ a'.defers = [] ∧ ∃ v, aresults P fn A' a'.tmps = some v ∧ K A') ((({ tmps := args ++ Array.replicate (fn.ntmps - args.size) undef, defers := [] } : Act).put (some d) (m.getD .nilIface))) A) :
    ADefR P w0 f args m A K := by
  intro φ w ca cu hs hc hmode
  have hact : ActR φ A.next { tmps := args ++ Array.replicate (fn.ntmps - args.size) undef, defers := [] } { tmps := ca ++ Array.replicate (fn.ntmps - ca.size) undef, defers := [] } := by
    refine ⟨?_, .nil⟩
    show CR φ A.next _ _
    have h1 := hc.1
    simp only [← h1]
    exact hc.append (CR.replicate _ VR.undef)
  -- the rest of the body, behind the value that was recovered
  have hrest : ∀ (cv : Value) (c₀ : Frame) (cs : List Frame) (u' : FrameMode), VR φ A.next (m.getD .nilIface) cv → settle u' = .returning → rest.wpSIn Fence.wide 0 P (bodyPostS P fn c₀ cs (fun e u' w' => settle u' = .returning ∧ ∃ v, e = .returned v ∧ ∃ φ' A', K A' ∧ Sim w0 φ' A' w' ∧ A.next ≤ A'.next ∧ Ext A.next φ φ'))
      ((({ tmps := ca ++ Array.replicate (fn.ntmps - ca.size) undef, defers := [] } : Act).put (some d) cv)) ({ c₀ with mode := u' } :: cs) w := by
    intro cv c₀ cs u' hcv hset
    refine wpSIn_of_wpIn rfl ?_
    refine wpIn_mono (h hs.wf hc.bnd none φ w _ (by simp) (Nat.le_refl _) hs (hact.put (some d) hcv)) ?_
    rintro ce ca' w' ⟨e, φ', a', A', ⟨he, hd, v, hv, hR⟩, h2, h3, h4, h5, h6⟩
    have hcd : ca'.defers = [] := by have := h4.2; rw [hd] at this; exact this.nil_inv
    obtain ⟨v', q1, q2⟩ := aresults_sound (P := P) h3 h4.1 hv
    rcases he with rfl | rfl
    · cases h2; exact ⟨hcd, u', rfl, v', q1, hset, v', rfl, φ', A', hR, h3, h5, h6⟩
    · cases h2; exact ⟨hcd, u', rfl, v', q1, hset, v', rfl, φ', A', hR, h3, h5, h6⟩
  refine callsDIn_of_wpSIn hf hb trivial fun c₀ cs hu => ?_
  refine wpSIn_seq (wpSIn_region ?_)
  have hex : ∀ a : Act, (execOp a.eval (⟨some d, .call { callee := .builtin .recover, args := #[], argTypes := ts }, ty, pos, aft, none⟩ : Oper)).run P w = .ok .recover w := fun a => by rfl
  show wpOpsSIn Fence.wide 0 P _ _ [0] _ _ _
  simp only [wpOpsSIn, List.getElem?_toArray, List.getElem?_cons_zero]
  refine ⟨fun _ _ => trivial, ?_⟩
  rw [if_pos (by rfl), hex]
  simp only
  cases m with
  | none =>
    cases hmode
    have hr : recoverD (c₀ :: cs) = none := by simp [recoverD, hu]
    rw [hr]
    have := hrest .nilIface c₀ cs .returning .nilIface rfl
    have hc0 : ({ c₀ with mode := .returning } : Frame) = c₀ := by rw [← hu]
    rw [hc0] at this
    exact this
  | some v =>
    obtain ⟨v', rfl, hv⟩ := hmode
    have hr : recoverD (c₀ :: cs) = some (v', { c₀ with mode := .panicking [⟨v', true, false⟩] } :: cs) := by simp [recoverD, hu]
    rw [hr]
    exact hrest v' c₀ cs (.panicking [⟨v', true, false⟩]) hv rfl
theorem adefR_E {f : Nat} {fn : Func} {id : Nat} {d : Tmp} {ty : TypeId} {pos : String} {aft : Array Edge} {ts : Array TypeId} {rest : Code} {l : List Value} {m : Option Value} {K : St → Prop} (hf : P.funcs[f]? = some fn)
    (hb : fn.body = some (.seq (.region id #[⟨some d, .call { callee := .builtin .recover, args := #[], argTypes := ts }, ty, pos, aft, none⟩] false) rest)) (hl : l.length ≤ fn.ntmps) (hm : ∀ v, m = some v → Bnd A.next v)
    (h : WF A → BndA A.next l.toArray → wpA P w0 A.next true rest (defQ P fn K) (E fn.ntmps (upd (ar l) d (m.getD .nilIface)) []) A) : ADefR P w0 f l.toArray m A K :=
  adefR_of hf hb hm fun hw hbd => by rw [ent_E _ _ hl, put_E]; exact aw_of (h hw hbd)
/-- An exact end by a panic. -/
def pan (v : Value) (A : St) (e : Ending) (A' : St) : Prop := e = .panicked [⟨v, false, false⟩] ∧ A' = A
theorem gc_pan {A' : St} {v : Value} (hw : WF A) (h : Over A A') (hb : Bnd A.next v) : GcE A (pan v A) (.panicked [⟨v, false, false⟩]) A' :=
  .inr ⟨A, h.sub hw, Nat.le_refl _, hw, .panicked (fun p hp => by rw [List.mem_singleton.1 hp]; exact hb), rfl, rfl⟩
theorem callp {f : Nat} {args : Array Value} {v : Value} {A' : St} {R : Ending → St → Prop} (h : ACalls P w0 f args A (pan v A')) (hr : R (.panicked [⟨v, false, false⟩]) A') : ACalls P w0 f args A R :=
  h.mono fun e A1 ⟨h1, h2⟩ => by subst h1 h2; exact hr
theorem after_pan (d : Option Tmp) (a : Act) (next : Act → St → Prop) (Q : Exit → Act → St → Prop) (c : List PanicEntry) (A' : St) : afterCall d a next Q (.panicked c) A' = Q (.panic c) a A' := Eq.trans rfl rfl
end
end Go.Fw
