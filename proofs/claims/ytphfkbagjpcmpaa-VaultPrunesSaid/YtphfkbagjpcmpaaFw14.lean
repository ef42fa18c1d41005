import Derived.Test.YtphfkbagjpcmpaaFw13
import Derived.RangeFuncRecord
/-! The rules of the code: sequences, branches, loops, regions; ranges over functions; calls out of bodies. -/
set_option linter.unusedSimpArgs false
set_option linter.unusedVariables false
namespace Go.Fw
open Go.RowKit
section
variable {P : Program} {w0 : World} {n0 : Nat} {nr : Bool} {Q : Exit → Act → St → Prop} {a : Act} {A : St}

theorem AW.mono {c : Code} {Q' : Exit → Act → St → Prop} (h : AW P w0 n0 nr c Q a A) (hq : ∀ e a A, Q e a A → Q' e a A) : AW P w0 n0 nr c Q' a A :=
  fun rd φ w ca hrd hn hs ha => wpIn_mono (h rd φ w ca hrd hn hs ha) fun ce ca' w' ⟨e, φ', a', A', h1, h2⟩ => ⟨e, φ', a', A', hq _ _ _ h1, h2⟩

theorem post_here {φ : Nat → Option Loc} {w : World} {ca : Act} {e : Exit} (h : Q e a A) (he : ExitR φ A.next e e) (hn : n0 ≤ A.next) (hs : Sim w0 φ A w) (ha : ActR φ A.next a ca) : PostR w0 n0 φ Q e ca w :=
  ⟨e, φ, a, A, h, he, hs, ha, hn, Ext.refl _ _⟩

theorem aw_skip (h : Q .normal a A) : AW P w0 n0 nr .skip Q a A := fun rd φ w ca hrd hn hs ha => wpIn_skip (post_here h .normal hn hs ha)
theorem aw_label {l : Nat} (h : Q .normal a A) : AW P w0 n0 nr (.label l) Q a A := fun rd φ w ca hrd hn hs ha => wpIn_label (post_here h .normal hn hs ha)
theorem aw_exit {i : Nat} (h : Q (.exit i) a A) : AW P w0 n0 nr (.exit i) Q a A := fun rd φ w ca hrd hn hs ha => wpIn_exit (post_here h (.exit i) hn hs ha)
theorem aw_goto {i : Nat} (h : Q (.goto i) a A) : AW P w0 n0 nr (.goto i) Q a A := fun rd φ w ca hrd hn hs ha => wpIn_goto (post_here h (.goto i) hn hs ha)
theorem aw_ret (h : Q .ret a A) : AW P w0 n0 nr .ret Q a A := fun rd φ w ca hrd hn hs ha => wpIn_ret (post_here h .ret hn hs ha)

def thenQ (next : Act → St → Prop) (Q : Exit → Act → St → Prop) : Exit → Act → St → Prop
  | .normal, a, A => next a A
  | e, a, A => Q e a A

theorem aw_seq {x y : Code} (h : AW P w0 n0 nr x (thenQ (AW P w0 n0 nr y Q) Q) a A) : AW P w0 n0 nr (.seq x y) Q a A := by
  intro rd φ w ca hrd hn hs ha
  refine wpIn_seq (wpIn_mono (h rd φ w ca hrd hn hs ha) ?_)
  rintro ce ca' w' ⟨e, φ', a', A', h1, h2, h3, h4, h5, h6⟩
  cases h2 with
  | normal => exact wpIn_mono (h1 rd φ' w' ca' hrd h5 h3 h4) fun _ _ _ hq => hq.ext h6 (Nat.le_refl _)
  | exit i => exact ⟨_, φ', a', A', h1, .exit i, h3, h4, h5, h6⟩
  | goto i => exact ⟨_, φ', a', A', h1, .goto i, h3, h4, h5, h6⟩
  | ret => exact ⟨_, φ', a', A', h1, .ret, h3, h4, h5, h6⟩
  | panic hc => exact ⟨_, φ', a', A', h1, .panic hc, h3, h4, h5, h6⟩
theorem aw_seq_k {x y : Code} (h : ∀ K : Act → St → Prop, (∀ a A, AW P w0 n0 nr y Q a A → K a A) → AW P w0 n0 nr x (thenQ K Q) a A) : AW P w0 n0 nr (.seq x y) Q a A := aw_seq (h _ fun _ _ h => h)

theorem aw_cond {c : Operand} {x y : Code} {t : Bool} (hc : a.eval c = .bool t) (ho : okO c = true) (ht : t = true → AW P w0 n0 nr x Q a A) (hf : t = false → AW P w0 n0 nr y Q a A) : AW P w0 n0 nr (.cond c x y) Q a A := by
  intro rd φ w ca hrd hn hs ha
  have h1 := ha.eval c ho
  rw [hc] at h1
  refine wpIn_cond (t := t) h1.bool_inv ?_
  cases t with
  | true => exact ht rfl rd φ w ca hrd hn hs ha
  | false => exact hf rfl rd φ w ca hrd hn hs ha

def blockQ (id : Nat) (Q : Exit → Act → St → Prop) : Exit → Act → St → Prop
  | .exit i, a, A => if i = id then Q .normal a A else Q (.exit i) a A
  | e, a, A => Q e a A
theorem aw_block {id : Nat} {c : Code} (h : AW P w0 n0 nr c (blockQ id Q) a A) : AW P w0 n0 nr (.block id c) Q a A := by
  intro rd φ w ca hrd hn hs ha
  refine wpIn_block (wpIn_mono (h rd φ w ca hrd hn hs ha) ?_)
  rintro ce ca' w' ⟨e, φ', a', A', h1, h2, h3, h4, h5, h6⟩
  cases h2 with
  | normal => exact ⟨_, φ', a', A', h1, .normal, h3, h4, h5, h6⟩
  | exit i =>
    simp only [blockQ] at h1
    simp only [Exit.inBlock]
    by_cases hi : i = id
    · rw [if_pos hi] at h1 ⊢; exact ⟨_, φ', a', A', h1, .normal, h3, h4, h5, h6⟩
    · rw [if_neg hi] at h1 ⊢; exact ⟨_, φ', a', A', h1, .exit i, h3, h4, h5, h6⟩
  | goto i => exact ⟨_, φ', a', A', h1, .goto i, h3, h4, h5, h6⟩
  | ret => exact ⟨_, φ', a', A', h1, .ret, h3, h4, h5, h6⟩
  | panic hc => exact ⟨_, φ', a', A', h1, .panic hc, h3, h4, h5, h6⟩

/-- A loop, by what holds at each round's head and a number that falls. -/
theorem aw_loop {c : Code} (I : Nat → Act → St → Prop) (m : Nat) (h0 : I m a A)
    (round : ∀ m a A, I m a A → AW P w0 n0 nr c (thenQ (fun a' A' => ∃ m', m' < m ∧ I m' a' A') Q) a A) : AW P w0 n0 nr (.loop c) Q a A := by
  intro rd φ w ca hrd hn hs ha b k cs hro hb hr
  have key : ∀ j a A φ1 w ca, I j a A → n0 ≤ A.next → Sim w0 φ1 A w → ActR φ1 A.next a ca → Ext n0 φ φ1 →
      ∃ e a' w', PostR w0 n0 φ Q e a' w' ∧ ArrivesIn (Machine.fenced P (wideR rd)) P (lone (b.atR ca (.code c :: .inLoop c :: k)) cs w) b k cs e a' w' := by
    intro j
    induction j using Nat.strongRecOn with
    | _ j ih =>
      intro a A φ1 w ca hI hn hs ha he
      obtain ⟨e, a₁, w₁, hq, harr⟩ := round j a A hI rd φ1 w ca hrd hn hs ha b (.inLoop c :: k) cs hro hb hr
      obtain ⟨e', φ', a', A', h1, h2, h3, h4, h5, h6⟩ := hq
      have he' := he.trans h6 (Nat.le_refl _)
      cases h2 with
      | normal =>
        obtain ⟨j', hlt, hI'⟩ := h1
        obtain ⟨e₂, a₂, w₂, hq₂, harr₂⟩ := ih j' hlt a' A' φ' w₁ a₁ hI' h5 h3 h4 he'
        exact ⟨e₂, a₂, w₂, hq₂, .of_steps (StepsIn.trans harr (.one (fenced_calm hb hr rfl) stepR_inLoop)) harr₂⟩
      | exit id => exact ⟨_, a₁, w₁, ⟨_, φ', a', A', h1, .exit id, h3, h4, h5, he'⟩, .pass (x := .inLoop c) rfl (fun _ _ => .inl (by simp)) harr⟩
      | goto l => exact ⟨_, a₁, w₁, ⟨_, φ', a', A', h1, .goto l, h3, h4, h5, he'⟩, .pass (x := .inLoop c) rfl (fun _ _ => .inl (by simp)) harr⟩
      | ret => exact ⟨_, a₁, w₁, ⟨_, φ', a', A', h1, .ret, h3, h4, h5, he'⟩, .pass (x := .inLoop c) rfl (fun _ _ => .inl (by simp)) harr⟩
      | panic hc => exact ⟨_, a₁, w₁, ⟨_, φ', a', A', h1, .panic hc, h3, h4, h5, he'⟩, .pass (x := .inLoop c) rfl (fun _ _ => .inl (by simp)) harr⟩
  obtain ⟨e, a', w', hq, harr⟩ := key m a A φ w ca h0 hn hs ha (Ext.refl _ _)
  exact ⟨e, a', w', hq, .of_steps (.one (fenced_calm hb hr rfl) stepR_loop) harr⟩

theorem aw_region {id : Nat} {ops : Array Oper} (h : aopsI P w0 nr ops Q (List.range ops.size) a A) : AW P w0 n0 nr (.region id ops false) Q a A :=
  fun rd φ w ca hrd hn hs ha => wpIn_region (aopsI_sound hrd _ h hn hs ha (Ext.refl _ _))
theorem aw_region_draw {id : Nat} {ops : Array Oper} (h : ∀ t, aopsI P w0 nr ops Q (Region.schedule (P.follows .mixedOrders) ops t) a A) : AW P w0 n0 nr (.region id ops true) Q a A :=
  fun rd φ w ca hrd hn hs ha => wpIn_region_draw fun t => aopsI_sound hrd _ (h t) hn hs.drew ha (Ext.refl _ _)

theorem DsR.nil_inv {φ : Nat → Option Loc} {n : Nat} {d : List Deferred} (h : DsR φ n [] d) : d = [] := by cases h; rfl
/-- What nobody speaks of is let go, in the middle of a body. -/
theorem aw_gc {c : Code} {B : St} (hs : Sub B A) (hw : WF B) (hn : n0 ≤ B.next) (hb : BndA B.next a.tmps) (hd : a.defers = []) (h : AW P w0 n0 nr c Q a B) : AW P w0 n0 nr c Q a A := by
  intro rd φ w ca hrd _ hS ha
  have hd' : ca.defers = [] := by have := ha.2; rw [hd] at this; exact this.nil_inv
  refine wpIn_mono (h rd (cut B.next φ) w ca hrd hn (hS.gc hs hw) ⟨ha.1.cut hb, by rw [hd, hd']; exact .nil⟩) ?_
  rintro ce ca' w' ⟨e, φ', a', A', h1, h2, h3, h4, h5, h6⟩
  refine ⟨e, φ', a', A', h1, h2, h3, h4, h5, fun b hb => ?_⟩
  have : cut B.next φ b = φ b := if_pos (by omega)
  rw [← this]; exact h6 b hb
end

section
variable {P : Program} {w0 : World} {φ : Nat → Option Loc} {A : St} {w : World}
theorem putObj_heap {r : Nat} {o : Obj} {k : Nat} (h : k ≠ r) : (w.putObj r o).heap[k]? = w.heap[k]? := by
  simp only [World.putObj, Array.getElem?_setIfInBounds]
  rw [if_neg (by omega)]
theorem putObj_same {r : Nat} {o o' : Obj} (h : w.heap[r]? = some o') : (w.putObj r o).heap[r]? = some o := by
  have := (Array.getElem?_eq_some_iff.1 h).1
  simp [World.putObj, Array.getElem?_setIfInBounds, this]
theorem Below.putObj {B : Nat} {a : World} (h : Below B a w) {r : Nat} (hr : B ≤ r) (o : Obj) : Below B a (w.putObj r o) :=
  ⟨h.os, h.tape, h.output, by have := h.size; simp [World.putObj]; exact this, fun k hk => (putObj_heap (by omega)).trans (h.block k hk)⟩
theorem Sim.putObj (h : Sim w0 φ A w) {b : Nat} {B B' : Blk} (hb : A.get b = some B) {l : Loc} (hl : φ b = some l) (hnr : ¬ roBlk (some B)) (o : Obj) (hw : w0.heap.size ≤ l.block) (hB : BlkR w0 φ A.next l (w.putObj l.block o) B') : Sim w0 φ (A.upd b (some B')) (w.putObj l.block o) :=
  h.turn hb hl hnr (Below.putObj h.below hw o) (fun k hk _ => putObj_heap hk) hB

/-- The loop's record, turned. -/
theorem Sim.turnLoop (h : Sim w0 φ A w) {b : Nat} {st st' : LoopState} {pe pe' : Option Code} {tm : Array Value} {ps : Array Tmp} {asg body : Code} (hb : A.get b = some (.loop st pe tm ps asg body)) :
    ∃ l r, φ b = some l ∧ w.heap[l.block]? = some (.loop r) ∧ r.state = st ∧ r.pending = pe ∧ CR φ A.next tm r.tmps ∧ r.params = ps ∧ r.assign = asg ∧ r.body = body ∧
      Sim w0 φ (A.upd b (some (.loop st' pe' tm ps asg body))) (w.putObj l.block (.loop { r with state := st', pending := pe' })) := by
  obtain ⟨_, l, hl, h0, tm', fn, df, h1, h2⟩ := h.blk b _ hb
  refine ⟨l, _, hl, h1, rfl, rfl, h2, rfl, rfl, rfl, ?_⟩
  exact h.putObj hb hl (by simp [roBlk]) _ h0 ⟨h0, tm', fn, df, putObj_same h1, h2⟩

def setArgs (tm : Array Value) (ps : Array Tmp) (args : Array Value) : Array Value := (ps.zip args).foldl (fun t (p, v) => t.setIfInBounds p v) tm
theorem CR.setArgs {n : Nat} {tm tm' args args' : Array Value} (ps : Array Tmp) (h : CR φ n tm tm') (k : CR φ n args args') : CR φ n (Fw.setArgs tm ps args) (Fw.setArgs tm' ps args') := by
  obtain ⟨ps⟩ := ps
  obtain ⟨args⟩ := args
  obtain ⟨args'⟩ := args'
  unfold Fw.setArgs
  simp only [List.zip_toArray, List.foldl_toArray']
  induction ps generalizing tm tm' args args' with
  | nil => exact h
  | cons p ps ih =>
    cases args with
    | nil =>
      have := k.1
      obtain rfl : args' = [] := List.eq_nil_of_length_eq_zero (by simpa using this.symm)
      exact h
    | cons v args =>
      cases args' with
      | nil => have := k.1; simp at this
      | cons v' args' =>
        simp only [List.zip_cons_cons, List.foldl_cons]
        exact ih (h.set (k.2 0 v v' (by simp) (by simp)) p) args args' ⟨by have := k.1; simpa using this, fun i x x' a b => k.2 (i + 1) x x' (by simpa using a) (by simpa using b)⟩

/-- How a round ends, by the way its body is left. -/
def roundQ (l : Nat) (R : Ending → St → Prop) (e : Exit) (_ : Act) (A : St) : Prop :=
  ∃ pe tm ps asg body, A.get l = some (.loop .busy pe tm ps asg body) ∧ match e with
    | .normal => R (.returned (.bool true)) (A.upd l (some (.loop .ready none tm ps asg body)))
    | .ret => R (.returned (.bool false)) (A.upd l (some (.loop .done (some .ret) tm ps asg body)))
    | .exit i => R (.returned (.bool false)) (A.upd l (some (.loop .done (some (.exit i)) tm ps asg body)))
    | .goto i => R (.returned (.bool false)) (A.upd l (some (.loop .done (some (.goto i)) tm ps asg body)))
    | _ => False

/-- **A round**: the loop's variables are set, the body runs. -/
theorem ayield {l : Nat} {args : Array Value} {R : Ending → St → Prop} {pe : Option Code} {tm : Array Value} {ps : Array Tmp} {asg body : Code} (hl : A.get l = some (.loop .ready pe tm ps asg body)) (hsz : args.size = ps.size)
    (h : AW P w0 A.next false asg (fun e a1 A1 => e = .normal ∧ ∃ pe1 tm1 ps1 asg1 body1, A1.get l = some (.loop .ready pe1 tm1 ps1 asg1 body1) ∧
      AW P w0 A.next false body (roundQ l R) a1 (A1.upd l (some (.loop .busy pe1 tm1 ps1 asg1 body1)))) { tmps := setArgs tm ps args, defers := [] } A) : AYield P w0 l args A R := by
  intro φ w ca l' hs hc hl'
  obtain ⟨loc, r, hφ, hr, hst, hpe, htm, hps, hasg, hbody, _⟩ := hs.turnLoop (st' := .busy) (pe' := none) hl
  obtain rfl := hl' loc hφ
  subst hps hasg hbody
  refine ⟨r.fn, setArgs r.tmps r.params ca, r.assign, r.body, run_yield hr (hc.1.symm.trans hsz), ?_⟩
  refine roundIn_of_wpIn (F := Fence.wide) trivial ?_
  have h1 := h (some loc.block) φ w { tmps := setArgs r.tmps r.params ca, defers := [] } (by simp) (Nat.le_refl _) hs ⟨htm.setArgs r.params hc, .nil⟩
  refine wpIn_mono h1 ?_
  rintro ce ca1 w1 ⟨e, φ1, a1, A1, ⟨rfl, pe1, tm1, ps1, asg1, body1, hl1, hb1⟩, h2, h3, h4, h5, h6⟩
  cases h2
  have hmine : ∀ loc1, φ1 l = some loc1 → loc1 = loc := fun loc1 e => by
    have := h6.some (hs.blk l _ hl).1 e
    rw [hφ] at this; cases this; rfl
  obtain ⟨loc1, r1, hφ1, hr1, hst1, hpe1, htm1, hps1, hasg1, hbody1, hsim1⟩ := h3.turnLoop (st' := .busy) (pe' := pe1) hl1
  obtain rfl := hmine loc1 hφ1
  subst hpe1
  refine ⟨_, run_beginRound hr1 hst1, ?_⟩
  refine wpIn_mono (hb1 (some loc1.block) φ1 _ ca1 (by simp) h5 hsim1 h4) ?_
  rintro ce2 ca2 w2 ⟨e2, φ2, a2, A2, k1, k2, k3, k4, k5, k6⟩
  have hend : ∀ (jump : Option Code) (st : LoopState), st = (if jump.isNone then .ready else .done) → ∀ pe2 tm2 ps2 asg2 body2, A2.get l = some (.loop .busy pe2 tm2 ps2 asg2 body2) → R (.returned (.bool jump.isNone)) (A2.upd l (some (.loop st jump tm2 ps2 asg2 body2))) →
      ∃ v w', (Instr.endRound loc1.block jump).run P w2 = .ok v w' ∧ EndP w0 A.next φ R (.returned v) w' := by
    intro jump st hst pe2 tm2 ps2 asg2 body2 hg hR
    obtain ⟨loc2, r2, hφ2, hr2, hst2, hpe2, htm2, _, _, _, hsim2⟩ := k3.turnLoop (st' := st) (pe' := jump) hg
    have : loc2 = loc1 := hmine loc2 (k6.some (by have := (h3.blk l _ hl1).1; have := (hs.blk l _ hl).1; exact this) hφ2)
    subst this
    exact ⟨_, _, run_endRound jump hr2, _, φ2, _, hR, .returned (.bool _), by rw [← hst]; exact hsim2, k5, h6.trans k6 (Nat.le_refl _)⟩
  obtain ⟨pe2, tm2, ps2, asg2, body2, hg, k1⟩ := k1
  cases k2 with
  | normal => exact hend none .ready rfl _ _ _ _ _ hg k1
  | ret => exact hend (some .ret) .done rfl _ _ _ _ _ hg k1
  | exit i => exact hend (some (.exit i)) .done rfl _ _ _ _ _ hg k1
  | goto i => exact hend (some (.goto i)) .done rfl _ _ _ _ _ hg k1
  | panic hc => exact k1.elim

/-- **A range over a function** (not within a round): the record is laid, the function is called with 'yield', the jump that a round has left is taken up. -/
theorem aw_rangeFunc {n0 : Nat} {Q : Exit → Act → St → Prop} {a : Act} {g : Operand} {ps : Array Tmp} {asg body : Code} {gf : Nat} {first cap : Array Value} (hg : a.eval g = .func (.func gf) first cap) (hgo : okO g = true)
    (h : ACalls P w0 gf (first ++ #[.func (.yield (A.next + 1)) #[] #[]] ++ cap) ((A.alloc (.dfr false)).alloc (.loop .ready none a.tmps ps asg body)) fun e A2 =>
      ∃ v, e = .returned v ∧ ∃ st pe tm ps' asg' body', A2.get (A.next + 1) = some (.loop st pe tm ps' asg' body') ∧ st ≠ .busy ∧
        match pe with
        | none => Q .normal { a with defers := ⟨.collected A.next, #[]⟩ :: a.defers } (A2.upd (A.next + 1) (some (.loop .exhausted none tm ps' asg' body')))
        | some c => AW P w0 n0 true c Q { a with defers := ⟨.collected A.next, #[]⟩ :: a.defers } (A2.upd (A.next + 1) (some (.loop .exhausted (some c) tm ps' asg' body')))) :
    AW P w0 n0 true (.rangeFunc g ps asg body) Q a A := by
  intro rd φ w ca hrd hn hs ha
  obtain rfl := hrd rfl
  have hf := ha.eval g hgo
  rw [hg] at hf
  obtain ⟨first', cap', hcf, c1, c2⟩ : ∃ first' cap', ca.eval g = .func (.func gf) first' cap' ∧ CR φ A.next first first' ∧ CR φ A.next cap cap' := by
    generalize ca.eval g = y at hf
    cases hf with | func _ _ f' _ c' hfn h1 h2 h3 h4 => exact ⟨f', c', rfl, ⟨h1, h3⟩, ⟨h2, h4⟩⟩
  refine wpIn_rangeFunc fun fn _ => ?_
  -- the two blocks
  obtain ⟨hs1, he1⟩ := hs.new (.dfr false) (.deferred (some [])) ⟨w.heap.size, 0, 0⟩ rfl ⟨hs.old, heap_alloc_new w _⟩
  obtain ⟨φ1, hφ1⟩ : ∃ φ1 : Nat → Option Loc, φ1 = fun m => if m = A.next then some ⟨w.heap.size, 0, 0⟩ else φ m := ⟨_, rfl⟩
  rw [← hφ1] at hs1 he1
  obtain ⟨hs2, he2⟩ := hs1.new (.loop .ready none a.tmps ps asg body) (.loop { state := .ready, pending := none, fn, tmps := ca.tmps, params := ps, assign := asg, body, defers := w.heap.size }) ⟨w.heap.size + 1, 0, 0⟩ (by simp)
    ⟨by have := hs.old; simp; omega, ca.tmps, fn, w.heap.size, by have := heap_alloc_new (w.alloc (.deferred (some []))) (.loop { state := .ready, pending := none, fn, tmps := ca.tmps, params := ps, assign := asg, body, defers := w.heap.size }); simpa using this,
      ha.1.mono (by simp; omega) (he1.trans (fun b hb => .inl (if_neg (by simp; omega))) (Nat.le_refl _))⟩
  obtain ⟨φ2, hφ2⟩ : ∃ φ2 : Nat → Option Loc, φ2 = fun m => if m = (A.alloc (.dfr false)).next then some ⟨w.heap.size + 1, 0, 0⟩ else φ1 m := ⟨_, rfl⟩
  rw [← hφ2] at hs2 he2
  have he : Ext A.next φ φ2 := he1.trans he2 (by simp)
  have hD : φ2 A.next = some ⟨w.heap.size, 0, 0⟩ := by rw [hφ2, hφ1]; simp
  have hL : φ2 (A.next + 1) = some ⟨w.heap.size + 1, 0, 0⟩ := by rw [hφ2]; simp
  have hy : VR φ2 (A.next + 1 + 1) (.func (.yield (A.next + 1)) #[] #[]) (.func (.yield (w.heap.size + 1)) #[] #[]) := .yield _ _ (by omega) fun l e => by rw [hL] at e; cases e; rfl
  have hargs : CR φ2 (A.next + 1 + 1) (first ++ #[.func (.yield (A.next + 1)) #[] #[]] ++ cap) (first' ++ #[.func (.yield (w.heap.size + 1)) #[] #[]] ++ cap') := ((c1.mono (by omega) he).append (CR.one hy)).append (c2.mono (by omega) he)
  obtain ⟨W2, hW2⟩ : ∃ W2, W2 = (w.alloc (.deferred (some []))).alloc (.loop { state := .ready, pending := none, fn, tmps := ca.tmps, params := ps, assign := asg, body, defers := w.heap.size }) := ⟨_, rfl⟩
  rw [← hW2] at hs2
  refine ⟨w.heap.size + 1, [⟨.collected w.heap.size, #[]⟩], W2, ⟨.fn (.func gf) cap', first' ++ #[.func (.yield (w.heap.size + 1)) #[] #[]]⟩, W2, gf, first' ++ #[.func (.yield (w.heap.size + 1)) #[] #[]] ++ cap', W2, (by rw [hW2]; exact run_enterLoop_outer fn ca.tmps ps asg body), ?_, fun _ _ => trivial, ?_, fun hd => (by cases hd), ?_⟩
  · have harr : (#[Operand.const (Value.func (.yield (w.heap.size + 1)) #[] #[])]).map ca.eval = #[Value.func (.yield (w.heap.size + 1)) #[] #[]] := by simp [Act.eval]
    simp only [resolve, rangeCall, hcf, Deferred.ofValue, Sem.run_pure, harr]
  · simp only [invoke]; exact h.1 _ _
  · refine callsIn_wideR ((h.2 φ2 _ _ hs2 hargs).mono ?_)
    rintro ce w3 ⟨e, φ3, A2, ⟨v, rfl, st, pe, tm, ps', asg', body', hg2, hst, hq⟩, k2, k3, k4, k5⟩
    cases k2 with
    | returned hv =>
      obtain ⟨loc, r, hφ3, hr, hrst, hrpe, _, _, _, _, hsim⟩ := k3.turnLoop (st' := .exhausted) (pe' := pe) hg2
      have hloc : loc.block = w.heap.size + 1 := by
        have := k5.some (by simp) hφ3
        rw [hL] at this; cases this; rfl
      rw [← hloc]
      have hne : r.state ≠ .busy := by rw [hrst]; exact hst
      subst hrpe
      refine ⟨r.pending, _, run_endLoop hr hne, ?_⟩
      have hact : ActR φ3 A2.next { a with defers := ⟨.collected A.next, #[]⟩ :: a.defers } { ca with defers := [⟨.collected w.heap.size, #[]⟩] ++ ca.defers } := by
        have k4' : A.next + 1 + 1 ≤ A2.next := k4
        have hm := (ha.mono (n' := A2.next) (by omega) (he.trans k5 (by simp; omega)))
        refine ⟨hm.1, .cons (.coll _ _ (by omega) fun l e => ?_) hm.2⟩
        have := k5.some (by simp; omega) e
        rw [hD] at this; cases this; rfl
      have hext : Ext n0 φ φ3 := (he.trans k5 (by simp; omega)).le hn
      have k4' : A.next + 1 + 1 ≤ A2.next := k4
      cases hp : r.pending with
      | none =>
        simp only [hp] at hq hsim ⊢
        exact ⟨_, φ3, _, _, hq, .normal, hsim, hact, by simp; omega, hext⟩
      | some c =>
        simp only [hp] at hq hsim ⊢
        exact wpIn_mono (hq none φ3 _ _ (by simp) (by simp; omega) hsim hact) fun _ _ _ x => x.ext hext (Nat.le_refl _)
end
end Go.Fw
