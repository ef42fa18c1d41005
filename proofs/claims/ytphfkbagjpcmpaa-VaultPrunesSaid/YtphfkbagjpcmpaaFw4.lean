import Derived.Test.YtphfkbagjpcmpaaFw3
import Derived.Laws.StructEq
import Derived.Laws.Small
import Derived.Laws.Pointers
import Derived.Laws.Cover3
/-! Operations that touch no memory. -/
namespace Go.Fw
open Go.RowKit

def isC : Operand → Bool
  | .const _ => true
  | _ => false

def ibits (op : BinOp) (k : IntKind) (a b : Int) : Int :=
  let x := BitVec.ofInt k.bits a
  let y := BitVec.ofInt k.bits b
  match op with
  | .and => k.wrap (x &&& y).toNat
  | .or => k.wrap (x ||| y).toNat
  | .xor => k.wrap (x ^^^ y).toNat
  | _ => k.wrap (x &&& ~~~y).toNat

def ibin (op : BinOp) (k : IntKind) (a b : Int) : Option Value :=
  match op with
  | .add => some (.int k (k.wrap (a + b)))
  | .sub => some (.int k (k.wrap (a - b)))
  | .mul => some (.int k (k.wrap (a * b)))
  | .quo => if b = 0 then none else some (.int k (k.wrap (a.tdiv b)))
  | .rem => if b = 0 then none else some (.int k (a.tmod b))
  | .and => some (.int k (ibits .and k a b))
  | .or => some (.int k (ibits .or k a b))
  | .xor => some (.int k (ibits .xor k a b))
  | .andNot => some (.int k (ibits .andNot k a b))
  | .eql => some (.bool (a == b))
  | .neq => some (.bool (a != b))
  | .lss => some (.bool (decide (a < b)))
  | .leq => some (.bool (decide (a ≤ b)))
  | .gtr => some (.bool (decide (a > b)))
  | .geq => some (.bool (decide (a ≥ b)))
  | _ => none
def ishl (k : IntKind) (a b : Int) : Int := k.wrap (a * 2 ^ (min b.toNat k.bits))
def ishr (k : IntKind) (a b : Int) : Int := a.fdiv (2 ^ (min b.toNat k.bits))

def sbin (op : BinOp) (a b : ByteArray) : Option Value :=
  match op with
  | .add => if a.size + b.size ≤ 9223372036854775807 then some (.string (a ++ b)) else none
  | .eql => some (.bool (a == b))
  | .neq => some (.bool (!(a == b)))
  | .lss => some (.bool (Op.bytesLess a.toList b.toList))
  | .leq => some (.bool (Op.bytesLess a.toList b.toList || a == b))
  | .gtr => some (.bool (!(Op.bytesLess a.toList b.toList || a == b)))
  | .geq => some (.bool (!(Op.bytesLess a.toList b.toList)))
  | _ => none

def apart (P : Program) (t : TypeId) (cs : Array Value) (off : Nat) : Option Value :=
  match tagg P t with
  | some true => (tsz P t).map fun n => .agg (cs.extract off (off + n))
  | some false => cs[off]?
  | none => none
def intsOf (k : IntKind) : List Value → Option (List Int)
  | [] => some []
  | .int k' i :: r => if k' = k then (intsOf k r).map (i :: ·) else none
  | _ => none

/-- '==' of values that hold no reference. -/
def aeqFields (eq : TypeId → Value → Value → Option Bool) (P : Program) (xs ys : Array Value) : List Field → Option Bool
  | [] => some true
  | f :: fs =>
    if f.name ≠ "_" then
      match apart P f.type xs f.offset, apart P f.type ys f.offset with
      | some a, some b =>
        match eq f.type a b with
        | some true => aeqFields eq P xs ys fs
        | some false => some false
        | none => none
      | _, _ => none
    else aeqFields eq P xs ys fs
def aeqIn (P : Program) : Nat → TypeId → Value → Value → Option Bool
  | 0, _, _, _ => none
  | d + 1, t, x, y =>
    match P.underlying t, x, y with
    | some .bool, .bool a, .bool b => some (a == b)
    | some (.int _), .int k a, .int k' b => if k = k' then some (a == b) else none
    | some .string, .string a, .string b => some (a == b)
    | some (.struct fs), .agg xs, .agg ys => if P.stoodInHeld t then none else aeqFields (aeqIn P d) P xs ys fs.toList
    | some (.array n e), .agg xs, .agg ys =>
      match P.underlying e, tsz P e with
      | some (.int k), some 1 =>
        if xs.size = n ∧ ys.size = n ∧ d ≠ 0 then
          match intsOf k xs.toList, intsOf k ys.toList with
          | some a, some b => some (a == b)
          | _, _ => none
        else none
      | _, _ => none
    | _, _, _ => none

def abin (P : Program) (op : BinOp) (t : TypeId) (xo yo : Operand) (x y : Value) : Option Value :=
  match x, y with
  | .int k a, .int k' b =>
    match op with
    | .shl => if b < 0 then none else some (.int k (ishl k a b))
    | .shr => if b < 0 then none else some (.int k (ishr k a b))
    | op => if k = k' then ibin op k a b else none
  | .string a, .string b => sbin op a b
  | .bool a, .bool b =>
    match P.underlying t, op with
    | some .bool, .eql => some (.bool (a == b))
    | some .bool, .neq => some (.bool (!(a == b)))
    | _, _ => none
  | .pointer p, .pointer none =>
    match P.underlying t, op with
    | some (.pointer _), .eql => some (.bool p.isNone)
    | some (.pointer _), .neq => some (.bool (!p.isNone))
    | _, _ => none
  | .slice p _ _, .slice none _ _ =>
    match P.underlying t, op with
    | some (.slice _), .eql => some (.bool p.isNone)
    | some (.slice _), .neq => some (.bool (!p.isNone))
    | _, _ => none
  | .iface _ _, .nilIface =>
    match P.underlying t, op with
    | some (.interface _), .eql => some (.bool false)
    | some (.interface _), .neq => some (.bool true)
    | _, _ => none
  | .nilIface, .nilIface =>
    match P.underlying t, op, isC xo || isC yo with
    | some (.interface _), .eql, true => some (.bool true)
    | some (.interface _), .neq, true => some (.bool false)
    | _, _, _ => none
  | .func _ _ _, .nilFunc =>
    match P.underlying t, op with
    | some (.func _ _ _), .eql => some (.bool false)
    | some (.func _ _ _), .neq => some (.bool true)
    | _, _ => none
  | .nilFunc, .nilFunc =>
    match P.underlying t, op with
    | some (.func _ _ _), .eql => some (.bool true)
    | some (.func _ _ _), .neq => some (.bool false)
    | _, _ => none
  | .agg xs, .agg ys =>
    if P.eqGuardType P.depth t then none else
    match op with
    | .eql => (aeqIn P 5 t (.agg xs) (.agg ys)).map .bool
    | .neq => (aeqIn P 5 t (.agg xs) (.agg ys)).map fun b => .bool (!b)
    | _ => none
  | _, _ => none

section
variable {P : Program} {φ : Nat → Option Loc} {n : Nat} {w : World}

theorem ibin_sound {op : BinOp} {t : TypeId} {k : IntKind} {a b : Int} {v : Value} (e : ibin op k a b = some v) (h1 : op ≠ .shl) (h2 : op ≠ .shr) : (binOp op t (.int k a) (.int k b)).run P w = .ok v w := by
  unfold ibin at e
  split at e
  all_goals first
    | (cases e; done)
    | (cases e; rfl)
    | (cases e; simp [binOp, Op.intArith]; done)
    | (cases e; simp [binOp, Op.intBits, ibits]; done)
    | (cases e; simp [binOp, Op.intCmp]; done)
    | (split at e; · cases e
       cases e
       rename_i hb
       simp [binOp, Op.intDiv, hb]; done)
theorem sbin_sound {op : BinOp} {t : TypeId} {a b : ByteArray} {v : Value} (e : sbin op a b = some v) : (binOp op t (.string a) (.string b)).run P w = .ok v w := by
  unfold sbin at e
  have hmax : (IntKind.i64.max : Int) = 9223372036854775807 := by decide
  split at e
  all_goals first
    | (cases e; done)
    | (cases e; simp [binOp, Op.stringOp, beq_toListBytes]; done)
    | (split at e
       · cases e
         simp only [binOp, Op.stringOp, hmax]
         rw [if_neg (by omega)]; rfl
       · cases e)

theorem apart_sound {t : TypeId} {cs : Array Value} {off : Nat} {v : Value} (e : apart P t cs off = some v) : (part t cs off).run P w = .ok v w := by
  unfold apart at e
  split at e
  · rename_i h
    simp only [Option.map_eq_some_iff] at e
    obtain ⟨m, hm, rfl⟩ := e
    simp only [part, Sem.run_bind, run_tagg h, Result.andThen_ok, if_true, run_tsz hm, Sem.run_pure]
  · rename_i h
    simp only [part, Sem.run_bind, run_tagg h, Result.andThen_ok, Bool.false_eq_true, if_false, e, Sem.run_pure]
  · cases e

theorem aeqFields_sound {d : Nat} {eq : TypeId → Value → Value → Option Bool} (heq : ∀ t x y r, eq t x y = some r → (Op.equalIn d t x y).run P w = .ok r w) {xs ys : Array Value} : ∀ {fs : List Field} {r : Bool}, aeqFields eq P xs ys fs = some r →
    (Op.eqFields d xs ys fs).run P w = .ok r w
  | [], r, e => by cases e; rfl
  | f :: fs, r, e => by
    unfold aeqFields at e
    unfold Op.eqFields
    split at e
    · rename_i hf
      rw [if_pos hf]
      split at e
      · rename_i a b ha hb
        simp only [Sem.run_bind, apart_sound ha, apart_sound hb, Result.andThen_ok]
        split at e
        · rename_i hr; rw [heq _ _ _ _ hr]; simp only [Result.andThen_ok, Bool.not_true, Bool.false_eq_true, if_false]; exact aeqFields_sound heq e
        · rename_i hr; cases e; rw [heq _ _ _ _ hr]; rfl
        · cases e
      · cases e
    · rename_i hf
      rw [if_neg hf]; exact aeqFields_sound heq e

end
end Go.Fw
