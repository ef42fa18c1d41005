import Derived.Test.YtphfkbagjpcmpaaFw5
import Derived.Laws.BytesArg
/-! Other operations without memory of their own: shapes, parts, places; conversions. -/
set_option linter.unusedSimpArgs false
set_option linter.unusedVariables false
namespace Go.Fw
open Go.RowKit

def aun (op : UnOp) : Value → Option Value
  | .int k i => match op with | .neg => some (.int k (k.wrap (0 - i))) | .xor => some (.int k (ibits .xor k (if k.signed then -1 else k.max) i)) | _ => none
  | .bool b => match op with | .not => some (.bool (!b)) | _ => none
  | _ => none

/-- One bound: at least 0, at most y. -/
def abound1 (y : Nat) : Value → Option Nat
  | .int _ i => if 0 ≤ i ∧ i ≤ y then some i.toNat else none
  | _ => none
/-- The bounds of a slice: low, high, most, as places. -/
def abounds (len cap : Nat) (lo hi mx : Option Value) : Option (Nat × Nat × Nat) :=
  (match mx with | none => some cap | some v => abound1 cap v).bind fun m =>
    (match hi with | none => (if mx.isSome then none else some len) | some v => abound1 m v).bind fun h =>
      (match lo with | none => some 0 | some v => abound1 h v).map fun l => (l, h, m)
def asliceS (s : ByteArray) (lo hi : Option Value) : Option Value := (abounds s.size s.size lo hi none).map fun (l, h, _) => .string (s.extract l h)
def asliceL (sz : Nat) (a : Option Addr) (len cap : Nat) (lo hi mx : Option Value) : Option Value :=
  match abounds len cap lo hi mx with
  | none => none
  | some (l, h, m) =>
    match a with
    | none => some (.slice none (h - l) (m - l))
    | some ⟨b, off, sp⟩ =>
      match sp, mx.isSome with
      | none, _ | some 0, false => some (.slice (some ⟨b, off + l * sz, sp⟩) (h - l) (m - l))
      | some (k + 1), false => if k + 1 = sz then some (.slice (some ⟨b, off + l * sz, sp⟩) (h - l) (m - l)) else none
      | _, true => some (.slice (some ⟨b, off + l * sz, none⟩) (h - l) (m - l))
def aslice (P : Program) (t : TypeId) (x : Value) (lo hi mx : Option Value) : Option Value :=
  match P.underlying t, x with
  | some .string, .string s => if mx.isSome then none else asliceS s lo hi
  | some (.slice e), .slice a len cap => (tsz P e).bind fun sz => asliceL sz a len cap lo hi mx
  | some (.array n e), .pointer (some ⟨b, off, none⟩) => (tsz P e).bind fun sz => asliceL sz (some ⟨b, off, none⟩) n n lo hi mx
  | _, _ => none

def afieldAddr (P : Program) (s : TypeId) (x : Value) (f : Nat) : Option Value :=
  match P.underlying s, x with
  | some (.struct fs), .pointer (some ⟨b, off, none⟩) =>
    match fs[f]? with
    | some fd => match tsz P fd.type with | some (_ + 1) => some (.pointer (some ⟨b, off + fd.offset, none⟩)) | _ => none
    | none => none
  | _, _ => none
def afield (P : Program) (s : TypeId) (x : Value) (f : Nat) : Option Value :=
  match P.underlying s, x with
  | some (.struct fs), .agg cs => match fs[f]? with | some fd => apart P fd.type cs fd.offset | none => none
  | _, _ => none
def aindexAddr (P : Program) (t : TypeId) (x i : Value) : Option Value :=
  match P.underlying t, x, i with
  | some (.array n e), .pointer (some ⟨b, off, none⟩), .int _ j => if 0 ≤ j ∧ j < n then (tsz P e).map fun sz => .pointer (some ⟨b, off + j.toNat * sz, none⟩) else none
  | some (.slice e), .slice (some ⟨b, off, _⟩) len _, .int _ j => if 0 ≤ j ∧ j < len then (tsz P e).map fun sz => .pointer (some ⟨b, off + j.toNat * sz, none⟩) else none
  | _, _, _ => none
/-- A byte of a string. -/
def sbt (s : ByteArray) (i : Nat) : Int := if h : i < s.size then ((s[i]'h).toNat : Int) else 0
def aindex (P : Program) (t : TypeId) (x i : Value) : Option Value :=
  match P.underlying t, x, i with
  | some (.array n e), .agg cs, .int _ j => if 0 ≤ j ∧ j < n then (tsz P e).bind fun sz => apart P e cs (j.toNat * sz) else none
  | some .string, .string s, .int _ j => if 0 ≤ j ∧ j < s.size then some (.int .u8 (sbt s j.toNat)) else none
  | _, _, _ => none
def aextract (x : Value) (i : Nat) : Option Value := match x with | .tuple vs => vs[i]? | _ => none
def aassert (P : Program) (x : Value) (t : TypeId) (ok : Bool) : Option Value :=
  match P.underlying t, x with
  | some (.interface _), _ => none
  | some _, .nilIface => if ok then (tzero P t).map fun z => .tuple #[z, .bool false] else none
  | some _, .iface u v => if u = t then some (if ok then .tuple #[v, .bool true] else v) else if ok then (tzero P t).map fun z => .tuple #[z, .bool false] else none
  | _, _ => none
def amkIface (P : Program) (t : TypeId) (x : Value) : Option Value :=
  match P.underlying t with
  | some (.interface _) | none => none
  | _ => some (.iface t x)
def alen (P : Program) (t : TypeId) (x : Value) : Option Value :=
  match P.underlying t, x with
  | some .string, .string s => some (.int .i64 s.size)
  | some (.array n _), _ => some (.int .i64 n)
  | some (.slice _), .slice _ n _ => some (.int .i64 n)
  | some (.map _ _), .map none => some (.int .i64 0)
  | _, _ => none
def acap (P : Program) (t : TypeId) (x : Value) : Option Value :=
  match P.underlying t, x with
  | some (.slice _), .slice none _ c => some (.int .i64 c)
  | some (.slice _), .slice (some ⟨_, _, none⟩) _ c => if c = 0 then none else some (.int .i64 c)
  | _, _ => none
def amax2 (mx : Bool) : Value → Value → Option Value
  | .int k x, .int _ y => some (.int k (if mx then (if y > x then y else x) else (if y < x then y else x)))
  | _, _ => none
def amm (mx : Bool) : List Value → Option Value
  | .int k a :: r => r.foldlM (amax2 mx) (.int k a)
  | _ => none
def plain1L (l : List Value) : Bool := l.all plain1

section
variable {P : Program} {φ : Nat → Option Loc} {n : Nat} {w : World}

theorem aun_sound {op : UnOp} {x cx v : Value} (e : aun op x = some v) (hx : VR φ n x cx) : (Op.unary op cx).run P w = .ok v w ∧ VR φ n v v := by
  unfold aun at e
  split at e
  · obtain rfl := hx.int_inv
    split at e
    · cases e; exact ⟨rfl, .int _ _⟩
    · cases e; exact ⟨rfl, .int _ _⟩
    · cases e
  · obtain rfl := hx.bool_inv
    split at e
    · cases e; exact ⟨rfl, .bool _⟩
    · cases e
  · cases e

/-- How an operand that may be absent stands to the machine's. -/
inductive OR (φ : Nat → Option Loc) (n : Nat) : Option Value → Option Value → Prop
  | none : OR φ n none none
  | some {x y : Value} (h : VR φ n x y) : OR φ n (some x) (some y)

theorem abound1_sound {y y' : Nat} {v v' : Value} {l : Nat} {c : BoundsCode} (e : abound1 y v = some l) (hv : VR φ n v v') (hy : y ≤ y') : (Instr.sliceBound v' y' c).run P w = .ok l w ∧ l ≤ y := by
  unfold abound1 at e
  split at e
  · obtain rfl := hv.int_inv
    split at e
    · cases e
      refine ⟨?_, by omega⟩
      simp only [Instr.sliceBound, asIntOf, pure_bind, Sem.run_ite, Sem.run_pure]
      rw [if_pos (by omega)]
    · cases e
  · cases e

theorem abounds_sound {len cap ccap : Nat} {lo hi mx lo' hi' mx' : Option Value} {l h m : Nat} (e : abounds len cap lo hi mx = some (l, h, m)) (hlo : OR φ n lo lo') (hhi : OR φ n hi hi') (hmx : OR φ n mx mx') (hcap : cap ≤ ccap) (b : Bool) :
    (Instr.sliceBounds b len ccap lo' hi' mx').run P w = .ok (l, h, if mx.isSome then m else ccap) w ∧ l ≤ h ∧ (h ≤ m ∨ (hi = none ∧ h = len)) ∧ m ≤ cap ∧ (mx = none → m = cap) := by
  unfold abounds at e
  simp only [Option.bind_eq_some_iff, Option.map_eq_some_iff] at e
  obtain ⟨m0, e1, h0, e2, l0, e3, e4⟩ := e
  cases e4
  cases hmx with
  | none =>
    cases e1
    cases hhi with
    | none =>
      simp only [Option.isSome_none, Bool.false_eq_true, if_false, Option.some.injEq] at e2
      subst e2
      cases hlo with
      | none => cases e3; exact ⟨rfl, by omega, .inr ⟨rfl, rfl⟩, Nat.le_refl _, fun _ => rfl⟩
      | some q3 =>
        obtain ⟨r3, i3⟩ := abound1_sound (P := P) (w := w) (c := .sliceB) e3 q3 (Nat.le_refl _)
        exact ⟨by simp only [Instr.sliceBounds, pure_bind, Option.isSome_none, Bool.false_eq_true, if_false, Sem.run_bind, r3, Result.andThen_ok, Sem.run_pure], i3, .inr ⟨rfl, rfl⟩, Nat.le_refl _, fun _ => rfl⟩
    | some q2 =>
      obtain ⟨r2, i2⟩ := abound1_sound (P := P) (w := w) (c := if b then .sliceAcap else .sliceAlen) e2 q2 hcap
      cases hlo with
      | none => cases e3; exact ⟨by simp only [Instr.sliceBounds, pure_bind, Option.isSome_none, Bool.false_eq_true, if_false, Sem.run_bind, r2, Result.andThen_ok, Sem.run_pure], by omega, .inl i2, Nat.le_refl _, fun _ => rfl⟩
      | some q3 =>
        obtain ⟨r3, i3⟩ := abound1_sound (P := P) (w := w) (c := .sliceB) e3 q3 (Nat.le_refl _)
        exact ⟨by simp only [Instr.sliceBounds, pure_bind, Option.isSome_none, Bool.false_eq_true, if_false, Sem.run_bind, r2, r3, Result.andThen_ok, Sem.run_pure], i3, .inl i2, Nat.le_refl _, fun _ => rfl⟩
  | some q1 =>
    obtain ⟨r1, i1⟩ := abound1_sound (P := P) (w := w) (c := if b then .slice3Acap else .slice3Alen) e1 q1 hcap
    cases hhi with
    | none => simp at e2
    | some q2 =>
      obtain ⟨r2, i2⟩ := abound1_sound (P := P) (w := w) (c := .slice3B) e2 q2 (Nat.le_refl _)
      cases hlo with
      | none => cases e3; exact ⟨by simp only [Instr.sliceBounds, pure_bind, Option.isSome_some, if_true, Sem.run_bind, r1, r2, Result.andThen_ok, Sem.run_pure], by omega, .inl i2, i1, by simp⟩
      | some q3 =>
        obtain ⟨r3, i3⟩ := abound1_sound (P := P) (w := w) (c := .slice3C) e3 q3 (Nat.le_refl _)
        exact ⟨by simp only [Instr.sliceBounds, pure_bind, Option.isSome_some, if_true, Sem.run_bind, r1, r2, r3, Result.andThen_ok, Sem.run_pure], i3, .inl i2, i1, by simp⟩
end
end Go.Fw
