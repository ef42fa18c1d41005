import Derived.Test.YtphfkbagjpcmpaaFw15
/-! For walks: a region's operations as a list; equations by which a walk is reckoned; a law's end. -/
set_option linter.unusedSimpArgs false
set_option linter.unusedVariables false
namespace Go.Fw
open Go.RowKit

/-- Is an operation wanted: its guard, by the place that the guarding operation writes. -/
def wanted' (ds : List (Option Tmp)) (g : Option (Nat × Bool)) (tm : Array Value) : Bool :=
  match g with
  | none => true
  | some (j, want) => (match ((ds[j]?).bind id).bind (tm[·]?) with | some (.bool b) => some b | _ => none) == some want
def aopsL (P : Program) (w0 : World) (nr : Bool) (ds : List (Option Tmp)) (Q : Exit → Act → St → Prop) : List Oper → Act → St → Prop
  | [], a, A => Q .normal a A
  | o :: rest, a, A => if wanted' ds o.guard a.tmps then aoper P w0 nr o a A (aopsL P w0 nr ds Q rest) Q else aopsL P w0 nr ds Q rest (a.put o.dst undef) A

theorem wanted_eq (ops : Array Oper) (o : Oper) (tm : Array Value) : Region.wanted o (yielded ops tm) = wanted' (ops.toList.map (·.dst)) o.guard tm := by
  unfold Region.wanted wanted'
  cases o.guard with
  | none => rfl
  | some x =>
    obtain ⟨j, want⟩ := x
    simp only [yielded]
    have : ((ops[j]?).bind (·.dst)) = (((ops.toList.map (·.dst))[j]?).bind id) := by
      rw [List.getElem?_map, Array.getElem?_toList]
      cases ops[j]? <;> rfl
    rw [this]
    rfl
theorem aopsI_range {P : Program} {w0 : World} {nr : Bool} {ops : Array Oper} {Q : Exit → Act → St → Prop} : ∀ (m k : Nat), k + m = ops.size → ∀ {a : Act} {A : St}, aopsI P w0 nr ops Q (List.range' k m) a A = aopsL P w0 nr (ops.toList.map (·.dst)) Q (ops.toList.drop k) a A
  | 0, k, h, a, A => by
    rw [List.drop_of_length_le (by simp; omega)]; rfl
  | m + 1, k, h, a, A => by
    have hk : k < ops.size := by omega
    have hd : ops.toList.drop k = ops[k] :: ops.toList.drop (k + 1) := by
      rw [List.drop_eq_getElem_cons (by simpa using hk)]; simp
    rw [hd]
    simp only [List.range'_succ, aopsI, aopsL, Array.getElem?_eq_getElem hk, wanted_eq]
    have hf : (aopsI P w0 nr ops Q (List.range' (k + 1) m)) = aopsL P w0 nr (ops.toList.map (·.dst)) Q (ops.toList.drop (k + 1)) := by
      funext a A; exact aopsI_range m (k + 1) (by omega)
    rw [hf]
section
variable {P : Program} {w0 : World} {n0 : Nat} {nr : Bool} {Q : Exit → Act → St → Prop} {a : Act} {A : St}
theorem aw_reg {id : Nat} {ops : Array Oper} (h : aopsL P w0 nr (ops.toList.map (·.dst)) Q ops.toList a A) : AW P w0 n0 nr (.region id ops false) Q a A := by
  refine aw_region ?_
  rw [List.range_eq_range', aopsI_range ops.size 0 (by omega)]
  exact h

/-- What is to be shown of code without loops. -/
def wpA (P : Program) (w0 : World) (n0 : Nat) (nr : Bool) : Code → (Exit → Act → St → Prop) → Act → St → Prop
  | .skip, Q, a, A => Q .normal a A
  | .label _, Q, a, A => Q .normal a A
  | .exit i, Q, a, A => Q (.exit i) a A
  | .goto i, Q, a, A => Q (.goto i) a A
  | .ret, Q, a, A => Q .ret a A
  | .seq x y, Q, a, A => wpA P w0 n0 nr x (thenQ (wpA P w0 n0 nr y Q) Q) a A
  | .block i c, Q, a, A => wpA P w0 n0 nr c (blockQ i Q) a A
  | .cond (.tmp t) x y, Q, a, A => match a.tmps.getD t undef with | .bool b => (b = true → wpA P w0 n0 nr x Q a A) ∧ (b = false → wpA P w0 n0 nr y Q a A) | _ => False
  | .region _ ops false, Q, a, A => aopsL P w0 nr (ops.toList.map (·.dst)) Q ops.toList a A
  | c, Q, a, A => AW P w0 n0 nr c Q a A
theorem aw_of {c : Code} : ∀ {Q : Exit → Act → St → Prop} {a : Act} {A : St}, wpA P w0 n0 nr c Q a A → AW P w0 n0 nr c Q a A := by
  induction c with
  | skip => exact fun h => aw_skip h
  | label l => exact fun h => aw_label h
  | exit i => exact fun h => aw_exit h
  | goto i => exact fun h => aw_goto h
  | ret => exact fun h => aw_ret h
  | seq x y ihx ihy =>
    intro Q a A h
    refine aw_seq ((ihx h).mono fun e a A h => ?_)
    cases e with
    | normal => exact ihy h
    | _ => exact h
  | block i c ih => exact fun h => aw_block (ih h)
  | cond c x y ihx ihy =>
    intro Q a A h
    cases c with
    | tmp t =>
      simp only [wpA] at h
      split at h
      · rename_i b hb
        exact aw_cond (t := b) hb rfl (fun hb => ihx (h.1 hb)) (fun hb => ihy (h.2 hb))
      · exact h.elim
    | _ => exact h
  | region id ops d =>
    intro Q a A h
    cases d with
    | false => exact aw_reg h
    | true => exact h
  | _ => exact fun h => h

theorem thenQ_normal (K : Act → St → Prop) : thenQ K Q .normal a A = K a A := Eq.trans rfl rfl
theorem thenQ_exit (K : Act → St → Prop) (i : Nat) : thenQ K Q (.exit i) a A = Q (.exit i) a A := Eq.trans rfl rfl
theorem thenQ_ret (K : Act → St → Prop) : thenQ K Q .ret a A = Q .ret a A := Eq.trans rfl rfl
theorem thenQ_panic (K : Act → St → Prop) (c : List PanicEntry) : thenQ K Q (.panic c) a A = Q (.panic c) a A := Eq.trans rfl rfl
theorem blockQ_normal (i : Nat) : blockQ i Q .normal a A = Q .normal a A := Eq.trans rfl rfl
theorem blockQ_ret (i : Nat) : blockQ i Q .ret a A = Q .ret a A := Eq.trans rfl rfl
theorem blockQ_panic (i : Nat) (c : List PanicEntry) : blockQ i Q (.panic c) a A = Q (.panic c) a A := Eq.trans rfl rfl
theorem blockQ_exit (i j : Nat) : blockQ i Q (.exit j) a A = if j = i then Q .normal a A else Q (.exit j) a A := Eq.trans rfl rfl

/-- The end of a function's body. -/
def funQ (P : Program) (w0 : World) (fn : Func) (A : St) (R : Ending → St → Prop) (e : Exit) (a' : Act) (A' : St) : Prop :=
  (e = .normal ∨ e = .ret) ∧ aleave P w0 fn a'.tmps (GcE A R) a'.defers A' ∨ ∃ ch, e = .panic ch ∧ a'.defers = [] ∧ GcE A R (.panicked ch) A'
theorem funQ_ret {fn : Func} {R : Ending → St → Prop} {A' : St} {a' : Act} : funQ P w0 fn A R .ret a' A' = aleave P w0 fn a'.tmps (GcE A R) a'.defers A' := by
  unfold funQ; simp
theorem funQ_normal {fn : Func} {R : Ending → St → Prop} {A' : St} {a' : Act} : funQ P w0 fn A R .normal a' A' = aleave P w0 fn a'.tmps (GcE A R) a'.defers A' := by
  unfold funQ; simp
theorem funQ_panic {fn : Func} {R : Ending → St → Prop} {A' : St} {a' : Act} {ch : List PanicEntry} : funQ P w0 fn A R (.panic ch) a' A' = (a'.defers = [] ∧ GcE A R (.panicked ch) A') := by
  unfold funQ; simp
/-- **A call**, out of what its body comes to. -/
theorem call_of {f : Nat} {fn : Func} {c : Code} {args : Array Value} {R : Ending → St → Prop} (hen : Enters P f) (hf : P.funcs[f]? = some fn) (hb : fn.body = some c)
    (h : WF A → BndA A.next args → wpA P w0 A.next true c (funQ P w0 fn A R) { tmps := args ++ Array.replicate (fn.ntmps - args.size) undef, defers := [] } A) : ACalls P w0 f args A R :=
  acalls_of hen hf hb fun hw hbd => aw_of (h hw hbd)

def St.empty : St := ⟨fun _ => none, 0⟩
theorem sim_empty (w : World) : Sim w (fun _ => none) St.empty w := ⟨Below.refl _ _, fun b B e => (by cases e), fun _ _ => rfl, fun b b' l l' _ e => (by cases e)⟩

/-- A law over values without references. -/
theorem calls_of_law {f : Nat} {args : Array Value} {w : World} (h : ACalls P w f args St.empty fun e _ => e = .returned (.bool true)) (ha : CR (fun _ => none) 0 args args) : Calls P f args w fun e w' => e = .returned (.bool true) ∧ Below w.heap.size w w' := by
  refine (callsIn_wide.1 (h.2 _ w args (sim_empty w) ha)).mono ?_
  rintro ce w' ⟨e, φ', A', rfl, h2, h3, _⟩
  cases h2 with
  | returned hv => exact ⟨by rw [hv.bool_inv], h3.below⟩
end
end Go.Fw
