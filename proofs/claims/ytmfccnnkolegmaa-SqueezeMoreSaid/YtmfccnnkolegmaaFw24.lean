import Derived.Test.YtmfccnnkolegmaaFw16
import Derived.IntWalk
import Derived.Orders
import Derived.Laws.BytesArg
import Derived.Laws.StructEq
/-! Equations by which a walk is reckoned: places told by a function, one law for each operation. -/
set_option linter.unusedSimpArgs false
set_option linter.unusedVariables false
namespace Go.Fw
open Go.RowKit

/-- n places, told by a function. -/
def tm (n : Nat) (ρ : Nat → Value) : Array Value := ((List.range n).map ρ).toArray
def E (n : Nat) (ρ : Nat → Value) (ds : List Deferred) : Act := ⟨tm n ρ, ds⟩
def upd (ρ : Nat → Value) (i : Nat) (v : Value) : Nat → Value := fun j => if j = i then v else ρ j
def rd (n : Nat) (ρ : Nat → Value) (j : Nat) : Value := if j < n then ρ j else undef
def ar (l : List Value) (j : Nat) : Value := l.getD j undef
theorem upd_apply (ρ : Nat → Value) (i j : Nat) (v : Value) : upd ρ i v j = if j = i then v else ρ j := Eq.trans rfl rfl
theorem rd_eq (n : Nat) (ρ : Nat → Value) (j : Nat) : rd n ρ j = if j < n then ρ j else undef := Eq.trans rfl rfl
theorem ar_zero (v : Value) (l : List Value) : ar (v :: l) 0 = v := Eq.trans rfl rfl
theorem ar_succ (v : Value) (l : List Value) (j : Nat) : ar (v :: l) (j + 1) = ar l j := Eq.trans rfl rfl
theorem ar_nil (j : Nat) : ar [] j = undef := Eq.trans rfl rfl
theorem tm_size (n : Nat) (ρ : Nat → Value) : (tm n ρ).size = n := by simp [tm]
theorem tm_get? (n : Nat) (ρ : Nat → Value) (j : Nat) : (tm n ρ)[j]? = if j < n then some (ρ j) else none := by
  simp only [tm, List.getElem?_toArray, List.getElem?_map]
  by_cases h : j < n
  · rw [if_pos h, List.getElem?_range h]; rfl
  · rw [if_neg h, List.getElem?_eq_none (by simp; omega)]; rfl
theorem tm_getD (n : Nat) (ρ : Nat → Value) (j : Nat) : (tm n ρ).getD j undef = rd n ρ j := by
  rw [Array.getD_eq_getD_getElem?, tm_get?, rd]; split <;> rfl
theorem tm_set (n : Nat) (ρ : Nat → Value) (i : Nat) (v : Value) : (tm n ρ).setIfInBounds i v = tm n (upd ρ i v) := by
  apply Array.ext_getElem?
  intro j
  rw [Array.getElem?_setIfInBounds, tm_get?, tm_size, tm_get?]
  unfold upd
  by_cases h : i = j
  · subst h; simp
  · simp [h, Ne.symm h]
theorem tm_eq {n : Nat} {ρ ρ' : Nat → Value} (h : ∀ j, j < n → ρ j = ρ' j) : tm n ρ = tm n ρ' := by
  apply Array.ext_getElem?
  intro j
  rw [tm_get?, tm_get?]
  split
  · rename_i hj; rw [h j hj]
  · rfl
theorem E_eq {n : Nat} {ρ ρ' : Nat → Value} (ds : List Deferred) (h : ∀ j, j < n → ρ j = ρ' j) : E n ρ ds = E n ρ' ds := by unfold E; rw [tm_eq h]
theorem E_tmps (n : Nat) (ρ : Nat → Value) (ds : List Deferred) : (E n ρ ds).tmps = tm n ρ := Eq.trans rfl rfl
theorem E_defers (n : Nat) (ρ : Nat → Value) (ds : List Deferred) : (E n ρ ds).defers = ds := Eq.trans rfl rfl
theorem put_E (n : Nat) (ρ : Nat → Value) (ds : List Deferred) (i : Nat) (v : Value) : (E n ρ ds).put (some i) v = E n (upd ρ i v) ds := by
  simp only [E, Act.put, tm_set]
theorem put_none (a : Act) (v : Value) : Act.put a none v = a := Eq.trans rfl rfl
theorem eval_tmp (n : Nat) (ρ : Nat → Value) (ds : List Deferred) (j : Nat) : (E n ρ ds).eval (.tmp j) = rd n ρ j := tm_getD n ρ j
theorem eval_const (a : Act) (v : Value) : a.eval (.const v) = v := Eq.trans rfl rfl
theorem eval_func (a : Act) (f : Nat) : a.eval (.func f) = .func (.func f) #[] #[] := Eq.trans rfl rfl
theorem ent_E (n : Nat) (l : List Value) (h : l.length ≤ n) : ({ tmps := l.toArray ++ Array.replicate (n - l.toArray.size) undef, defers := [] } : Act) = E n (ar l) [] := by
  unfold E
  congr 1
  apply Array.ext_getElem?
  intro j
  rw [tm_get?, Array.getElem?_append, Array.getElem?_replicate]
  simp only [List.size_toArray, List.getElem?_toArray, ar, List.getD_eq_getElem?_getD]
  by_cases h1 : j < l.length
  · simp [h1, show j < n by omega]
  · rw [if_neg h1]
    by_cases h2 : j < n
    · rw [if_pos h2, if_pos (by omega), List.getElem?_eq_none (by omega)]; rfl
    · rw [if_neg h2, if_neg (by omega)]
theorem setArgs_1 (n : Nat) (ρ : Nat → Value) (p : Nat) (v : Value) : setArgs (tm n ρ) #[p] #[v] = tm n (upd ρ p v) := by
  rw [← tm_set]; unfold setArgs; simp only [List.zip_toArray, List.foldl_toArray']; rfl
theorem setArgs_2 (n : Nat) (ρ : Nat → Value) (p q : Nat) (v u : Value) : setArgs (tm n ρ) #[p, q] #[v, u] = tm n (upd (upd ρ p v) q u) := by
  rw [← tm_set, ← tm_set]; unfold setArgs; simp only [List.zip_toArray, List.foldl_toArray']; rfl
theorem setArgs_0 (n : Nat) (ρ : Nat → Value) : setArgs (tm n ρ) #[] #[] = tm n ρ := by
  unfold setArgs; simp only [List.zip_toArray, List.foldl_toArray']; rfl
theorem append_lit {α : Type} (x y : List α) : Array.append x.toArray y.toArray = (x ++ y).toArray := by simp [Array.append_eq_append]

def stepV (o : Option Value) (next : Act → St → Prop) (a : Act) (d : Option Tmp) (A : St) : Prop := match o with | some v => next (a.put d v) A | none => False
def stepA (o : Option (Value × St)) (next : Act → St → Prop) (a : Act) (d : Option Tmp) : Prop := match o with | some (v, A') => next (a.put d v) A' | none => False
theorem stepV_some (v : Value) (next : Act → St → Prop) (a : Act) (d : Option Tmp) (A : St) : stepV (some v) next a d A = next (a.put d v) A := Eq.trans rfl rfl
theorem stepA_some (v : Value) (A : St) (next : Act → St → Prop) (a : Act) (d : Option Tmp) : stepA (some (v, A)) next a d = next (a.put d v) A := Eq.trans rfl rfl
def guardO {α : Type} (b : Bool) (o : Option α) : Option α := if b then o else none
theorem guardO_true {α : Type} (o : Option α) : guardO true o = o := Eq.trans rfl rfl
/-- A branch on a truth value: what follows stays folded until the condition is told. -/
def ifB (b : Bool) (F G : Act → St → Prop) (a : Act) (A : St) : Prop := (b = true → F a A) ∧ (b = false → G a A)
theorem ifB_true (F G : Act → St → Prop) (a : Act) (A : St) : ifB true F G a A = F a A := by simp [ifB]
theorem ifB_false (F G : Act → St → Prop) (a : Act) (A : St) : ifB false F G a A = G a A := by simp [ifB]
theorem ifB_dec {p : Prop} [Decidable p] {F G : Act → St → Prop} {a : Act} {A : St} (h1 : p → F a A) (h2 : ¬ p → G a A) : ifB (decide p) F G a A := ⟨fun h => h1 (of_decide_eq_true h), fun h => h2 (of_decide_eq_false h)⟩
theorem ifB_dec_t {p : Prop} [Decidable p] {F G : Act → St → Prop} {a : Act} {A : St} (h : p) : ifB (decide p) F G a A = F a A := by rw [decide_eq_true h]; exact ifB_true ..
theorem ifB_dec_f {p : Prop} [Decidable p] {F G : Act → St → Prop} {a : Act} {A : St} (h : ¬ p) : ifB (decide p) F G a A = G a A := by rw [decide_eq_false h]; exact ifB_false ..
def condV (v : Value) (F G : Act → St → Prop) (a : Act) (A : St) : Prop := match v with | .bool b => ifB b F G a A | _ => False
theorem condV_bool (b : Bool) (F G : Act → St → Prop) (a : Act) (A : St) : condV (.bool b) F G a A = ifB b F G a A := Eq.trans rfl rfl
/-- A guarded operation. -/
def wantV (b : Bool) (P : Program) (w0 : World) (nr : Bool) (o : Oper) (next : Act → St → Prop) (Q : Exit → Act → St → Prop) (a : Act) (A : St) : Prop :=
  (b = true → aoper P w0 nr o a A next Q) ∧ (b = false → next (a.put o.dst undef) A)
theorem wantV_true (P : Program) (w0 : World) (nr : Bool) (o : Oper) (next : Act → St → Prop) (Q : Exit → Act → St → Prop) (a : Act) (A : St) : wantV true P w0 nr o next Q a A = aoper P w0 nr o a A next Q := by simp [wantV]
theorem wantV_false (P : Program) (w0 : World) (nr : Bool) (o : Oper) (next : Act → St → Prop) (Q : Exit → Act → St → Prop) (a : Act) (A : St) : wantV false P w0 nr o next Q a A = next (a.put o.dst undef) A := by simp [wantV]
theorem wantV_dec_t {p : Prop} [Decidable p] (P : Program) (w0 : World) (nr : Bool) (o : Oper) (next : Act → St → Prop) (Q : Exit → Act → St → Prop) (a : Act) (A : St) (h : p) : wantV (decide p) P w0 nr o next Q a A = aoper P w0 nr o a A next Q := by rw [decide_eq_true h]; exact wantV_true ..
theorem wantV_dec_f {p : Prop} [Decidable p] (P : Program) (w0 : World) (nr : Bool) (o : Oper) (next : Act → St → Prop) (Q : Exit → Act → St → Prop) (a : Act) (A : St) (h : ¬ p) : wantV (decide p) P w0 nr o next Q a A = next (a.put o.dst undef) A := by rw [decide_eq_false h]; exact wantV_false ..
theorem dec_and (p q : Prop) [Decidable p] [Decidable q] : (decide p && decide q) = decide (p ∧ q) := by simp
theorem dec_or (p q : Prop) [Decidable p] [Decidable q] : (decide p || decide q) = decide (p ∨ q) := by simp
def isB : Option Value → Option Bool | some (.bool b) => some b | _ => none
theorem isB_bool (b : Bool) : isB (some (.bool b)) = some b := Eq.trans rfl rfl
theorem someB_t (b : Bool) : (some b == some true) = b := by cases b <;> rfl
theorem someB_f (b : Bool) : (some b == some false) = !b := by cases b <;> rfl
theorem okO_tmp (t : Nat) : okO (.tmp t) = true := Eq.trans rfl rfl
theorem okO_func (t : Nat) : okO (.func t) = true := Eq.trans rfl rfl
theorem okO_int (k : IntKind) (i : Int) : okO (.const (.int k i)) = true := Eq.trans rfl rfl
theorem okO_bool (b : Bool) : okO (.const (.bool b)) = true := Eq.trans rfl rfl
theorem okO_string (s : ByteArray) : okO (.const (.string s)) = true := Eq.trans rfl rfl
theorem okO_ptr0 : okO (.const (.pointer none)) = true := Eq.trans rfl rfl
theorem okO_slice0 : okO (.const (.slice none 0 0)) = true := Eq.trans rfl rfl
theorem okO_nilFunc : okO (.const .nilFunc) = true := Eq.trans rfl rfl
theorem okO_nilIface : okO (.const .nilIface) = true := Eq.trans rfl rfl
theorem okO_map0 : okO (.const (.map none)) = true := Eq.trans rfl rfl
theorem okO_agg (cs : Array Value) : okO (.const (.agg cs)) = cs.all plain1 := Eq.trans rfl rfl

section
variable (P : Program) (w0 : World) (n0 : Nat) (nr : Bool) (d : Option Tmp) (ty : TypeId) (pos : String) (aft : Array Edge) (g : Option (Nat × Bool)) (a : Act) (A : St) (next : Act → St → Prop) (Q : Exit → Act → St → Prop)

theorem wanted_none (ds : List (Option Tmp)) (t : Array Value) : wanted' ds none t = true := Eq.trans rfl rfl
def lookT (t : Array Value) (o : Option (Option Tmp)) : Option Value := match o with | some (some j) => t[j]? | _ => none
theorem lookT_some (n : Nat) (ρ : Nat → Value) (j : Nat) : lookT (tm n ρ) (some (some j)) = if j < n then some (ρ j) else none := tm_get? ..
theorem wanted_some (ds : List (Option Tmp)) (j : Nat) (w : Bool) (t : Array Value) : wanted' ds (some (j, w)) t = (isB (lookT t ds[j]?) == some w) := by
  unfold wanted' isB lookT
  simp only
  cases h : ds[j]? with
  | none => rfl
  | some o => cases o <;> rfl
theorem aopsL_nil (ds : List (Option Tmp)) : aopsL P w0 nr ds Q [] a A = Q .normal a A := Eq.trans rfl rfl
theorem aopsL_cons (ds : List (Option Tmp)) (o : Oper) (rest : List Oper) : aopsL P w0 nr ds Q (o :: rest) a A = wantV (wanted' ds o.guard a.tmps) P w0 nr o (aopsL P w0 nr ds Q rest) Q a A := by
  show (if wanted' ds o.guard a.tmps = true then _ else _) = _
  cases h : wanted' ds o.guard a.tmps <;> simp [wantV_true, wantV_false]
theorem wpA_skip : wpA P w0 n0 nr .skip Q a A = Q .normal a A := Eq.trans rfl rfl
theorem wpA_label (l : Nat) : wpA P w0 n0 nr (.label l) Q a A = Q .normal a A := Eq.trans rfl rfl
theorem wpA_exit (i : Nat) : wpA P w0 n0 nr (.exit i) Q a A = Q (.exit i) a A := Eq.trans rfl rfl
theorem wpA_goto (i : Nat) : wpA P w0 n0 nr (.goto i) Q a A = Q (.goto i) a A := Eq.trans rfl rfl
theorem wpA_ret : wpA P w0 n0 nr .ret Q a A = Q .ret a A := Eq.trans rfl rfl
theorem wpA_seq (x y : Code) : wpA P w0 n0 nr (.seq x y) Q a A = wpA P w0 n0 nr x (thenQ (wpA P w0 n0 nr y Q) Q) a A := Eq.trans rfl rfl
theorem wpA_block (i : Nat) (c : Code) : wpA P w0 n0 nr (.block i c) Q a A = wpA P w0 n0 nr c (blockQ i Q) a A := Eq.trans rfl rfl
theorem wpA_region (id : Nat) (ops : Array Oper) : wpA P w0 n0 nr (.region id ops false) Q a A = aopsL P w0 nr (ops.toList.map (·.dst)) Q ops.toList a A := Eq.trans rfl rfl
theorem wpA_cond (t : Nat) (x y : Code) : wpA P w0 n0 nr (.cond (.tmp t) x y) Q a A = condV (a.eval (.tmp t)) (wpA P w0 n0 nr x Q) (wpA P w0 n0 nr y Q) a A := by
  show (match a.tmps.getD t undef with | .bool b => (b = true → wpA P w0 n0 nr x Q a A) ∧ (b = false → wpA P w0 n0 nr y Q a A) | _ => False) = _
  unfold condV ifB Act.eval
  rfl
theorem wpA_loop (c : Code) : wpA P w0 n0 nr (.loop c) Q a A = AW P w0 n0 nr (.loop c) Q a A := Eq.trans rfl rfl
theorem wpA_rangeFunc (f : Operand) (ps : Array Tmp) (asg body : Code) : wpA P w0 n0 nr (.rangeFunc f ps asg body) Q a A = AW P w0 n0 nr (.rangeFunc f ps asg body) Q a A := Eq.trans rfl rfl
theorem wpA_draw (id : Nat) (ops : Array Oper) : wpA P w0 n0 nr (.region id ops true) Q a A = AW P w0 n0 nr (.region id ops true) Q a A := Eq.trans rfl rfl

theorem op_move (x : Operand) : aoper P w0 nr ⟨d, .move x, ty, pos, aft, g⟩ a A next Q = stepV (guardO (okO x) (some (a.eval x))) next a d A := by
  unfold aoper
  simp only [aop, Op.operands, Call.operands, List.all_toArray, List.all_cons, List.all_nil, Bool.and_true, List.append_toArray, List.nil_append, List.cons_append, List.append_nil, guardO, aop0]
  cases (okO x) <;> simp [stepV, abuiltin] <;> (try (cases (some (a.eval x)) <;> rfl)) <;> rfl
theorem op_assign (x : Operand) : aoper P w0 nr ⟨d, .assign x, ty, pos, aft, g⟩ a A next Q = stepV (guardO (okO x) (some (a.eval x))) next a d A := by
  unfold aoper
  simp only [aop, Op.operands, Call.operands, List.all_toArray, List.all_cons, List.all_nil, Bool.and_true, List.append_toArray, List.nil_append, List.cons_append, List.append_nil, guardO, aop0]
  cases (okO x) <;> simp [stepV, abuiltin] <;> (try (cases (some (a.eval x)) <;> rfl)) <;> rfl
def pickV (c a b : Value) : Option Value := match c with | .bool t => some (if t then a else b) | _ => none
theorem pickV_or (t y : Bool) : pickV (.bool t) (.bool true) (.bool y) = some (.bool (t || y)) := by cases t <;> rfl
theorem pickV_and (t y : Bool) : pickV (.bool t) (.bool y) (.bool false) = some (.bool (t && y)) := by cases t <;> rfl
theorem pickV_t {p : Prop} [Decidable p] (a b : Value) (h : p) : pickV (.bool (decide p)) a b = some a := by simp [pickV, h]
theorem pickV_f {p : Prop} [Decidable p] (a b : Value) (h : ¬ p) : pickV (.bool (decide p)) a b = some b := by simp [pickV, h]
theorem pickV_true (a b : Value) : pickV (.bool true) a b = some a := Eq.trans rfl rfl
theorem pickV_false (a b : Value) : pickV (.bool false) a b = some b := Eq.trans rfl rfl
theorem op_pick (c x y : Operand) : aoper P w0 nr ⟨d, .pick c x y, ty, pos, aft, g⟩ a A next Q = stepV (guardO (okO c && (okO x && okO y)) (pickV (a.eval c) (a.eval x) (a.eval y))) next a d A := by
  unfold aoper
  simp only [aop, Op.operands, List.all_toArray, List.all_cons, List.all_nil, Bool.and_true, guardO, aop0]
  cases (okO c && (okO x && okO y)) <;> simp [stepV, pickV]
  cases a.eval c <;> rfl
def allocV (z : Option Value) (t : TypeId) (A : St) : Option (Value × St) := z.map fun z => (.pointer (some ⟨A.next, 0, none⟩), A.alloc (.cells z.cells.toList t (some 0)))
theorem allocV_some (z : Value) (t : TypeId) : allocV (some z) t A = some (.pointer (some ⟨A.next, 0, none⟩), A.alloc (.cells z.cells.toList t (some 0))) := Eq.trans rfl rfl
theorem op_alloc (t : TypeId) : aoper P w0 nr ⟨d, .alloc t, ty, pos, aft, g⟩ a A next Q = stepA (allocV (tzero P t) t A) next a d := by
  unfold aoper
  simp only [aop, Op.operands, List.all_toArray, List.all_nil, if_true, aop0, stepA, allocV]
  rfl
theorem op_box (t : TypeId) (x : Operand) : aoper P w0 nr ⟨d, .box t x, ty, pos, aft, g⟩ a A next Q = stepA (guardO (okO x) (some (.pointer (some ⟨A.next, 0, none⟩), A.alloc (.cells (a.eval x).cells.toList t (some 0))))) next a d := by
  unfold aoper
  simp only [aop, Op.operands, Call.operands, List.all_toArray, List.all_cons, List.all_nil, Bool.and_true, List.append_toArray, List.nil_append, List.cons_append, List.append_nil, guardO, aop0]
  cases (okO x) <;> simp [stepA, abuiltin] <;> (try (cases (some (.pointer (some ⟨A.next, 0, none⟩), A.alloc (.cells (a.eval x).cells.toList t (some 0)))) <;> rfl)) <;> rfl
theorem op_load (t : TypeId) (x : Operand) : aoper P w0 nr ⟨d, .load t x, ty, pos, aft, g⟩ a A next Q = stepV (guardO (okO x) (aload P A t (a.eval x))) next a d A := by
  unfold aoper
  simp only [aop, Op.operands, Call.operands, List.all_toArray, List.all_cons, List.all_nil, Bool.and_true, List.append_toArray, List.nil_append, List.cons_append, List.append_nil, guardO, aop0]
  cases (okO x) <;> simp [stepV, abuiltin] <;> (try (cases (aload P A t (a.eval x)) <;> rfl)) <;> rfl
theorem op_nilCheck (x : Operand) : aoper P w0 nr ⟨d, .nilCheck x, ty, pos, aft, g⟩ a A next Q = stepV (guardO (okO x) (anilCheck (a.eval x))) next a d A := by
  unfold aoper
  simp only [aop, Op.operands, Call.operands, List.all_toArray, List.all_cons, List.all_nil, Bool.and_true, List.append_toArray, List.nil_append, List.cons_append, List.append_nil, guardO, aop0]
  cases (okO x) <;> simp [stepV, abuiltin] <;> (try (cases (anilCheck (a.eval x)) <;> rfl)) <;> rfl
theorem op_bin (op : BinOp) (t yt : TypeId) (x y : Operand) : aoper P w0 nr ⟨d, .binOp op t x y yt, ty, pos, aft, g⟩ a A next Q = stepV (guardO (okO x && okO y) (if t = bptr then abinA P A op t x y (a.eval x) (a.eval y) else abin P op t x y (a.eval x) (a.eval y))) next a d A := by
  unfold aoper
  simp only [aop, Op.operands, Call.operands, List.all_toArray, List.all_cons, List.all_nil, Bool.and_true, List.append_toArray, List.nil_append, List.cons_append, List.append_nil, guardO, aop0]
  cases (okO x && okO y) <;> simp [stepV, abuiltin] <;> (try (cases (if t = bptr then abinA P A op t x y (a.eval x) (a.eval y) else abin P op t x y (a.eval x) (a.eval y)) <;> rfl)) <;> rfl
theorem op_lookup (t : TypeId) (x y : Operand) (ok : Bool) : aoper P w0 nr ⟨d, .lookup t x y ok, ty, pos, aft, g⟩ a A next Q = stepV (guardO (okO x && okO y) (alookup P A t (a.eval x) (a.eval y) ok)) next a d A := by
  unfold aoper
  simp only [aop, Op.operands, Call.operands, List.all_toArray, List.all_cons, List.all_nil, Bool.and_true, List.append_toArray, List.nil_append, List.cons_append, List.append_nil, guardO, aop0]
  cases (okO x && okO y) <;> simp [stepV, abuiltin] <;> (try (cases (alookup P A t (a.eval x) (a.eval y) ok) <;> rfl)) <;> rfl
theorem op_un (op : UnOp) (t : TypeId) (x : Operand) : aoper P w0 nr ⟨d, .unOp op t x, ty, pos, aft, g⟩ a A next Q = stepV (guardO (okO x) (aun op (a.eval x))) next a d A := by
  unfold aoper
  simp only [aop, Op.operands, Call.operands, List.all_toArray, List.all_cons, List.all_nil, Bool.and_true, List.append_toArray, List.nil_append, List.cons_append, List.append_nil, guardO, aop0]
  cases (okO x) <;> simp [stepV, abuiltin] <;> (try (cases (aun op (a.eval x)) <;> rfl)) <;> rfl
theorem op_convert (s t : TypeId) (x : Operand) : aoper P w0 nr ⟨d, .convert s t x, ty, pos, aft, g⟩ a A next Q = stepA (guardO (okO x) (aconv P A s t (a.eval x))) next a d := by
  unfold aoper
  simp only [aop, Op.operands, Call.operands, List.all_toArray, List.all_cons, List.all_nil, Bool.and_true, List.append_toArray, List.nil_append, List.cons_append, List.append_nil, guardO, aop0]
  cases (okO x) <;> simp [stepA, abuiltin] <;> (try (cases (aconv P A s t (a.eval x)) <;> rfl)) <;> rfl
theorem op_makeInterface (t : TypeId) (x : Operand) : aoper P w0 nr ⟨d, .makeInterface t x, ty, pos, aft, g⟩ a A next Q = stepV (guardO (okO x) (amkIface P t (a.eval x))) next a d A := by
  unfold aoper
  simp only [aop, Op.operands, Call.operands, List.all_toArray, List.all_cons, List.all_nil, Bool.and_true, List.append_toArray, List.nil_append, List.cons_append, List.append_nil, guardO, aop0]
  cases (okO x) <;> simp [stepV, abuiltin] <;> (try (cases (amkIface P t (a.eval x)) <;> rfl)) <;> rfl
theorem op_makeSlice (t : TypeId) (x y : Operand) : aoper P w0 nr ⟨d, .makeSlice t x y, ty, pos, aft, g⟩ a A next Q = stepA (guardO (okO x && okO y) (amakeSlice P A t (a.eval x) (a.eval y))) next a d := by
  unfold aoper
  simp only [aop, Op.operands, Call.operands, List.all_toArray, List.all_cons, List.all_nil, Bool.and_true, List.append_toArray, List.nil_append, List.cons_append, List.append_nil, guardO, aop0]
  cases (okO x && okO y) <;> simp [stepA, abuiltin] <;> (try (cases (amakeSlice P A t (a.eval x) (a.eval y)) <;> rfl)) <;> rfl
theorem op_fieldAddr (t : TypeId) (x : Operand) (f : Nat) : aoper P w0 nr ⟨d, .fieldAddr t x f, ty, pos, aft, g⟩ a A next Q = stepV (guardO (okO x) (afieldAddr P t (a.eval x) f)) next a d A := by
  unfold aoper
  simp only [aop, Op.operands, Call.operands, List.all_toArray, List.all_cons, List.all_nil, Bool.and_true, List.append_toArray, List.nil_append, List.cons_append, List.append_nil, guardO, aop0]
  cases (okO x) <;> simp [stepV, abuiltin] <;> (try (cases (afieldAddr P t (a.eval x) f) <;> rfl)) <;> rfl
theorem op_field (t : TypeId) (x : Operand) (f : Nat) : aoper P w0 nr ⟨d, .field t x f, ty, pos, aft, g⟩ a A next Q = stepV (guardO (okO x) (afield P t (a.eval x) f)) next a d A := by
  unfold aoper
  simp only [aop, Op.operands, Call.operands, List.all_toArray, List.all_cons, List.all_nil, Bool.and_true, List.append_toArray, List.nil_append, List.cons_append, List.append_nil, guardO, aop0]
  cases (okO x) <;> simp [stepV, abuiltin] <;> (try (cases (afield P t (a.eval x) f) <;> rfl)) <;> rfl
theorem op_indexAddr (t : TypeId) (x y : Operand) : aoper P w0 nr ⟨d, .indexAddr t x y, ty, pos, aft, g⟩ a A next Q = stepV (guardO (okO x && okO y) (aindexAddr P t (a.eval x) (a.eval y))) next a d A := by
  unfold aoper
  simp only [aop, Op.operands, Call.operands, List.all_toArray, List.all_cons, List.all_nil, Bool.and_true, List.append_toArray, List.nil_append, List.cons_append, List.append_nil, guardO, aop0]
  cases (okO x && okO y) <;> simp [stepV, abuiltin] <;> (try (cases (aindexAddr P t (a.eval x) (a.eval y)) <;> rfl)) <;> rfl
theorem op_index (t : TypeId) (x y : Operand) : aoper P w0 nr ⟨d, .index t x y, ty, pos, aft, g⟩ a A next Q = stepV (guardO (okO x && okO y) (aindex P t (a.eval x) (a.eval y))) next a d A := by
  unfold aoper
  simp only [aop, Op.operands, Call.operands, List.all_toArray, List.all_cons, List.all_nil, Bool.and_true, List.append_toArray, List.nil_append, List.cons_append, List.append_nil, guardO, aop0]
  cases (okO x && okO y) <;> simp [stepV, abuiltin] <;> (try (cases (aindex P t (a.eval x) (a.eval y)) <;> rfl)) <;> rfl
theorem op_extract (x : Operand) (i : Nat) : aoper P w0 nr ⟨d, .extract x i, ty, pos, aft, g⟩ a A next Q = stepV (guardO (okO x) (aextract (a.eval x) i)) next a d A := by
  unfold aoper
  simp only [aop, Op.operands, Call.operands, List.all_toArray, List.all_cons, List.all_nil, Bool.and_true, List.append_toArray, List.nil_append, List.cons_append, List.append_nil, guardO, aop0]
  cases (okO x) <;> simp [stepV, abuiltin] <;> (try (cases (aextract (a.eval x) i) <;> rfl)) <;> rfl
theorem op_typeAssert (x : Operand) (xt t : TypeId) (ok : Bool) : aoper P w0 nr ⟨d, .typeAssert x xt t ok, ty, pos, aft, g⟩ a A next Q = stepV (guardO (okO x) (aassert P (a.eval x) t ok)) next a d A := by
  unfold aoper
  simp only [aop, Op.operands, Call.operands, List.all_toArray, List.all_cons, List.all_nil, Bool.and_true, List.append_toArray, List.nil_append, List.cons_append, List.append_nil, guardO, aop0]
  cases (okO x) <;> simp [stepV, abuiltin] <;> (try (cases (aassert P (a.eval x) t ok) <;> rfl)) <;> rfl
def storeV (o : Option St) : Option (Value × St) := o.map (undef, ·)
theorem storeV_some (A : St) : storeV (some A) = some (undef, A) := Eq.trans rfl rfl
theorem op_store (t : TypeId) (x y : Operand) : aoper P w0 nr ⟨d, .store t x y, ty, pos, aft, g⟩ a A next Q = stepA (guardO (okO x && okO y) (storeV (astore P A t (a.eval x) (a.eval y)))) next a d := by
  unfold aoper
  simp only [aop, Op.operands, Call.operands, List.all_toArray, List.all_cons, List.all_nil, Bool.and_true, List.append_toArray, List.nil_append, List.cons_append, List.append_nil, guardO, aop0]
  cases (okO x && okO y) <;> simp [stepA, abuiltin] <;> (try (cases (storeV (astore P A t (a.eval x) (a.eval y))) <;> rfl)) <;> rfl
theorem op_makeMap (t : TypeId) : aoper P w0 nr ⟨d, .makeMap t none, ty, pos, aft, g⟩ a A next Q = stepA (some (.map (some A.next), A.alloc (.smap []))) next a d := by
  unfold aoper
  simp only [aop, Op.operands, Option.toArray_none, List.all_toArray, List.all_nil, if_true, aop0, stepA]
theorem op_mapUpdate (t : TypeId) (x y z : Operand) : aoper P w0 nr ⟨d, .mapUpdate t x y z, ty, pos, aft, g⟩ a A next Q = stepA (guardO (okO x && (okO y && okO z)) (storeV (amapSet P A t (a.eval x) (a.eval y) (a.eval z)))) next a d := by
  unfold aoper
  simp only [aop, Op.operands, List.all_toArray, List.all_cons, List.all_nil, Bool.and_true, guardO, aop0]
  cases (okO x && (okO y && okO z)) <;> simp [stepA, storeV]
  cases (amapSet P A t (a.eval x) (a.eval y) (a.eval z)) <;> rfl
theorem op_slice00 (t : TypeId) (x : Operand) : aoper P w0 nr ⟨d, .slice t x none none none, ty, pos, aft, g⟩ a A next Q = stepV (guardO (okO x) (aslice P t (a.eval x) none none none)) next a d A := by
  unfold aoper
  simp only [aop, Op.operands, Option.toArray_some, Option.toArray_none, List.all_toArray, List.all_cons, List.all_nil, Bool.and_true, Bool.true_and, List.append_toArray, List.nil_append, List.cons_append, List.append_nil, Array.append_empty, List.all_append, guardO, aop0, Option.map_some, Option.map_none]
  cases (okO x) <;> simp [stepV] <;> cases (aslice P t (a.eval x) none none none) <;> rfl
theorem op_slice10 (t : TypeId) (x l : Operand) : aoper P w0 nr ⟨d, .slice t x (some l) none none, ty, pos, aft, g⟩ a A next Q = stepV (guardO (okO x && okO l) (aslice P t (a.eval x) (some (a.eval l)) none none)) next a d A := by
  unfold aoper
  simp only [aop, Op.operands, Option.toArray_some, Option.toArray_none, List.all_toArray, List.all_cons, List.all_nil, Bool.and_true, Bool.true_and, List.append_toArray, List.nil_append, List.cons_append, List.append_nil, Array.append_empty, List.all_append, guardO, aop0, Option.map_some, Option.map_none]
  cases (okO x && okO l) <;> simp [stepV] <;> cases (aslice P t (a.eval x) (some (a.eval l)) none none) <;> rfl
theorem op_slice01 (t : TypeId) (x h : Operand) : aoper P w0 nr ⟨d, .slice t x none (some h) none, ty, pos, aft, g⟩ a A next Q = stepV (guardO (okO x && okO h) (aslice P t (a.eval x) none (some (a.eval h)) none)) next a d A := by
  unfold aoper
  simp only [aop, Op.operands, Option.toArray_some, Option.toArray_none, List.all_toArray, List.all_cons, List.all_nil, Bool.and_true, Bool.true_and, List.append_toArray, List.nil_append, List.cons_append, List.append_nil, Array.append_empty, List.all_append, guardO, aop0, Option.map_some, Option.map_none]
  cases (okO x && okO h) <;> simp [stepV] <;> cases (aslice P t (a.eval x) none (some (a.eval h)) none) <;> rfl
theorem op_slice11 (t : TypeId) (x l h : Operand) : aoper P w0 nr ⟨d, .slice t x (some l) (some h) none, ty, pos, aft, g⟩ a A next Q = stepV (guardO (okO x && (okO l && okO h)) (aslice P t (a.eval x) (some (a.eval l)) (some (a.eval h)) none)) next a d A := by
  unfold aoper
  simp only [aop, Op.operands, Option.toArray_some, Option.toArray_none, List.all_toArray, List.all_cons, List.all_nil, Bool.and_true, Bool.true_and, List.append_toArray, List.nil_append, List.cons_append, List.append_nil, Array.append_empty, List.all_append, guardO, aop0, Option.map_some, Option.map_none]
  cases (okO x && (okO l && okO h)) <;> simp [stepV] <;> cases (aslice P t (a.eval x) (some (a.eval l)) (some (a.eval h)) none) <;> rfl
theorem op_slice111 (t : TypeId) (x l h m : Operand) : aoper P w0 nr ⟨d, .slice t x (some l) (some h) (some m), ty, pos, aft, g⟩ a A next Q = stepV (guardO (okO x && (okO l && (okO h && okO m))) (aslice P t (a.eval x) (some (a.eval l)) (some (a.eval h)) (some (a.eval m)))) next a d A := by
  unfold aoper
  simp only [aop, Op.operands, Option.toArray_some, Option.toArray_none, List.all_toArray, List.all_cons, List.all_nil, Bool.and_true, Bool.true_and, List.append_toArray, List.nil_append, List.cons_append, List.append_nil, Array.append_empty, List.all_append, guardO, aop0, Option.map_some, Option.map_none]
  cases (okO x && (okO l && (okO h && okO m))) <;> simp [stepV] <;> cases (aslice P t (a.eval x) (some (a.eval l)) (some (a.eval h)) (some (a.eval m))) <;> rfl
theorem op_slice011 (t : TypeId) (x h m : Operand) : aoper P w0 nr ⟨d, .slice t x none (some h) (some m), ty, pos, aft, g⟩ a A next Q = stepV (guardO (okO x && (okO h && okO m)) (aslice P t (a.eval x) none (some (a.eval h)) (some (a.eval m)))) next a d A := by
  unfold aoper
  simp only [aop, Op.operands, Option.toArray_some, Option.toArray_none, List.all_toArray, List.all_cons, List.all_nil, Bool.and_true, Bool.true_and, List.append_toArray, List.nil_append, List.cons_append, List.append_nil, Array.append_empty, List.all_append, guardO, aop0, Option.map_some, Option.map_none]
  cases (okO x && (okO h && okO m)) <;> simp [stepV] <;> cases (aslice P t (a.eval x) none (some (a.eval h)) (some (a.eval m))) <;> rfl
theorem op_build (t : TypeId) (ps : Array (Nat × Operand)) : aoper P w0 nr ⟨d, .build t ps, ty, pos, aft, g⟩ a A next Q = stepV (guardO ((ps.toList.map (·.2)).all okO) (abuild P t (ps.map fun (i, x) => (i, a.eval x)))) next a d A := by
  unfold aoper
  simp only [aop, Op.operands, List.all_toArray, guardO, aop0]
  cases ((ps.toList.map (·.2)).all okO) <;> simp [stepV]
  cases abuild P t (ps.map fun (i, x) => (i, a.eval x)) <;> rfl
theorem op_buildSlice (t : TypeId) (n : Nat) (ps : Array (Nat × Operand)) : aoper P w0 nr ⟨d, .buildSlice t n ps, ty, pos, aft, g⟩ a A next Q = stepA (guardO ((ps.toList.map (·.2)).all okO) (abuildSlice P A t n (ps.map fun (i, x) => (i, a.eval x)))) next a d := by
  unfold aoper
  simp only [aop, Op.operands, List.all_toArray, guardO, aop0]
  cases ((ps.toList.map (·.2)).all okO) <;> simp [stepA] <;> rfl
theorem op_makeFunc (f : Nat) (fs cs : Array Operand) : aoper P w0 nr ⟨d, .makeFunc (.func f) fs cs, ty, pos, aft, g⟩ a A next Q = stepV (guardO ((fs ++ cs).all okO) (some (.func (.func f) (fs.map a.eval) (cs.map a.eval)))) next a d A := by
  unfold aoper
  simp only [aop, Op.operands, guardO, aop0, notYield, if_true]
  cases ((fs ++ cs).all okO) <;> simp [stepV]
def callV (b : Bool) (X : Prop) : Prop := b = true ∧ X
theorem callV_true (X : Prop) : callV true X = X := by simp [callV]
theorem op_call (f : Operand) (args : Array Operand) (ts : Array TypeId) : aoper P w0 nr ⟨d, .call { callee := .value f, args, argTypes := ts }, ty, pos, aft, g⟩ a A next Q = callV (okO f && args.all okO) (ACallV P w0 (a.eval f) (args.map a.eval) A (afterCall d a next Q)) := Eq.trans rfl rfl
theorem op_builtin (b : Builtin) (args : Array Operand) (ts : Array TypeId) : aoper P w0 nr ⟨d, .call { callee := .builtin b, args, argTypes := ts }, ty, pos, aft, g⟩ a A next Q = stepA (guardO (args.all okO) (abuiltin P A b ts.toList (args.toList.map a.eval))) next a d := by
  unfold aoper
  simp only [aop, Op.operands, Call.operands, guardO, aop0, Array.empty_append]
  cases args.all okO <;> simp [stepA] <;> rfl
def panicV (b : Bool) (v : Value) (a : Act) (A : St) (Q : Exit → Act → St → Prop) : Prop := b = true ∧ match v with | .iface t v => Q (.panic [⟨.iface t v, false, false⟩]) a A | _ => False
theorem panicV_iface (t : TypeId) (v : Value) : panicV true (.iface t v) a A Q = Q (.panic [⟨.iface t v, false, false⟩]) a A := by simp [panicV]
theorem op_panic (x : Operand) : aoper P w0 nr ⟨d, .panic x, ty, pos, aft, g⟩ a A next Q = panicV (okO x) (a.eval x) a A Q := Eq.trans rfl rfl
theorem ACallV_func (f : Nat) (fs cs args : Array Value) (R : Ending → St → Prop) : ACallV P w0 (.func (.func f) fs cs) args A R = ACallF P w0 (noBody P f) f (fs ++ args ++ cs) A R := Eq.trans rfl rfl
theorem ACallF_false (f : Nat) (args : Array Value) (R : Ending → St → Prop) : ACallF P w0 false f args A R = ACalls P w0 f args A R := by simp [ACallF]
theorem ACallF_true (f : Nat) (args : Array Value) (R : Ending → St → Prop) : ACallF P w0 true f args A R = AExt P w0 f args A R := by simp [ACallF]
theorem ACallV_yield (l : Nat) (fs cs args : Array Value) (R : Ending → St → Prop) : ACallV P w0 (.func (.yield l) fs cs) args A R = AYield P w0 l args A R := Eq.trans rfl rfl
theorem afterCall_returned (v : Value) (A' : St) : afterCall d a next Q (.returned v) A' = next (a.put d v) A' := Eq.trans rfl rfl
theorem afterCall_panicked (c : List PanicEntry) (A' : St) : afterCall d a next Q (.panicked c) A' = Q (.panic c) a A' := Eq.trans rfl rfl


/-! Single operations, by the shape of their values. -/
variable (t u s : TypeId) (x y : Operand) (k k' : IntKind)
theorem bin_add (i j : Int) : abin P .add t x y (.int k i) (.int k j) = some (.int k (k.wrap (i + j))) := by simp [abin, ibin]
theorem bin_sub (i j : Int) : abin P .sub t x y (.int k i) (.int k j) = some (.int k (k.wrap (i - j))) := by simp [abin, ibin]
theorem bin_mul (i j : Int) : abin P .mul t x y (.int k i) (.int k j) = some (.int k (k.wrap (i * j))) := by simp [abin, ibin]
theorem bin_and (i j : Int) : abin P .and t x y (.int k i) (.int k j) = some (.int k (ibits .and k i j)) := by simp [abin, ibin]
theorem bin_or (i j : Int) : abin P .or t x y (.int k i) (.int k j) = some (.int k (ibits .or k i j)) := by simp [abin, ibin]
theorem bin_xor (i j : Int) : abin P .xor t x y (.int k i) (.int k j) = some (.int k (ibits .xor k i j)) := by simp [abin, ibin]
theorem bin_andNot (i j : Int) : abin P .andNot t x y (.int k i) (.int k j) = some (.int k (ibits .andNot k i j)) := by simp [abin, ibin]
theorem bin_eql (i j : Int) : abin P .eql t x y (.int k i) (.int k j) = some (.bool (decide (i = j))) := by simp only [abin, ibin, if_true, Option.some.injEq, Value.bool.injEq]; by_cases h : i = j <;> simp [h]
theorem bin_neq (i j : Int) : abin P .neq t x y (.int k i) (.int k j) = some (.bool (decide (i ≠ j))) := by simp only [abin, ibin, if_true, Option.some.injEq, Value.bool.injEq]; by_cases h : i = j <;> simp [h]
theorem bin_lss (i j : Int) : abin P .lss t x y (.int k i) (.int k j) = some (.bool (decide (i < j))) := by simp [abin, ibin]
theorem bin_leq (i j : Int) : abin P .leq t x y (.int k i) (.int k j) = some (.bool (decide (i ≤ j))) := by simp [abin, ibin]
theorem bin_gtr (i j : Int) : abin P .gtr t x y (.int k i) (.int k j) = some (.bool (decide (i > j))) := by simp [abin, ibin]
theorem bin_geq (i j : Int) : abin P .geq t x y (.int k i) (.int k j) = some (.bool (decide (i ≥ j))) := by simp [abin, ibin]
theorem bin_quo (i j : Int) (h : j ≠ 0) : abin P .quo t x y (.int k i) (.int k j) = some (.int k (k.wrap (i.tdiv j))) := by simp [abin, ibin, h]
theorem bin_rem (i j : Int) (h : j ≠ 0) : abin P .rem t x y (.int k i) (.int k j) = some (.int k (i.tmod j)) := by simp [abin, ibin, h]
theorem bin_shl (i j : Int) (h : 0 ≤ j) : abin P .shl t x y (.int k i) (.int k' j) = some (.int k (ishl k i j)) := by simp [abin, show ¬ j < 0 by omega]
theorem bin_shr (i j : Int) (h : 0 ≤ j) : abin P .shr t x y (.int k i) (.int k' j) = some (.int k (ishr k i j)) := by simp [abin, show ¬ j < 0 by omega]
theorem bin_sadd (p q : ByteArray) (h : p.size + q.size ≤ 9223372036854775807) : abin P .add t x y (.string p) (.string q) = some (.string (p ++ q)) := by simp [abin, sbin, h]
theorem bin_seql (p q : ByteArray) : abin P .eql t x y (.string p) (.string q) = some (.bool (p == q)) := Eq.trans rfl rfl
theorem bin_sneq (p q : ByteArray) : abin P .neq t x y (.string p) (.string q) = some (.bool (!(p == q))) := Eq.trans rfl rfl
theorem bin_slss (p q : ByteArray) : abin P .lss t x y (.string p) (.string q) = some (.bool (Op.bytesLess p.toList q.toList)) := Eq.trans rfl rfl
def uB (o : Option TypeDesc) (v : Value) : Option Value := match o with | some .bool => some v | _ => none
theorem uB_bool (v : Value) : uB (some .bool) v = some v := Eq.trans rfl rfl
theorem bin_beql (p q : Bool) : abin P .eql t x y (.bool p) (.bool q) = uB (P.underlying t) (.bool (p == q)) := by
  simp only [abin, uB]; split <;> simp_all
theorem bin_bneq (p q : Bool) : abin P .neq t x y (.bool p) (.bool q) = uB (P.underlying t) (.bool (!(p == q))) := by
  simp only [abin, uB]; split <;> simp_all
def uP (o : Option TypeDesc) (v : Value) : Option Value := match o with | some (.pointer _) => some v | _ => none
theorem uP_pointer (e : TypeId) (v : Value) : uP (some (.pointer e)) v = some v := Eq.trans rfl rfl
theorem bin_peql (p : Option Addr) : abin P .eql t x y (.pointer p) (.pointer none) = uP (P.underlying t) (.bool p.isNone) := by
  simp only [abin, uP]; split <;> simp_all
theorem bin_pneq (p : Option Addr) : abin P .neq t x y (.pointer p) (.pointer none) = uP (P.underlying t) (.bool (!p.isNone)) := by
  simp only [abin, uP]; split <;> simp_all
def uS (o : Option TypeDesc) (v : Value) : Option Value := match o with | some (.slice _) => some v | _ => none
theorem uS_slice (e : TypeId) (v : Value) : uS (some (.slice e)) v = some v := Eq.trans rfl rfl
theorem bin_leql (p : Option Addr) (m n m' n' : Nat) : abin P .eql t x y (.slice p m n) (.slice none m' n') = uS (P.underlying t) (.bool p.isNone) := by
  simp only [abin, uS]; split <;> simp_all
theorem bin_lneq (p : Option Addr) (m n m' n' : Nat) : abin P .neq t x y (.slice p m n) (.slice none m' n') = uS (P.underlying t) (.bool (!p.isNone)) := by
  simp only [abin, uS]; split <;> simp_all
def uI (o : Option TypeDesc) (v : Value) : Option Value := match o with | some (.interface _) => some v | _ => none
theorem bin_ieql (u : TypeId) (v : Value) : abin P .eql t x y (.iface u v) .nilIface = uI (P.underlying t) (.bool false) := by
  simp only [abin, uI]; split <;> simp_all
theorem bin_ineq (u : TypeId) (v : Value) : abin P .neq t x y (.iface u v) .nilIface = uI (P.underlying t) (.bool true) := by
  simp only [abin, uI]; split <;> simp_all
theorem un_neg (i : Int) : aun .neg (.int k i) = some (.int k (k.wrap (0 - i))) := Eq.trans rfl rfl
theorem un_xor (i : Int) : aun .xor (.int k i) = some (.int k (ibits .xor k (if k.signed then -1 else k.max) i)) := Eq.trans rfl rfl
theorem un_not (b : Bool) : aun .not (.bool b) = some (.bool (!b)) := Eq.trans rfl rfl

theorem nilCheck_ptr (p : Addr) : anilCheck (.pointer (some p)) = some (.pointer (some p)) := Eq.trans rfl rfl
theorem nilCheck_func (f : Nat) (p q : Array Value) : anilCheck (.func (.func f) p q) = some (.func (.func f) p q) := Eq.trans rfl rfl
theorem nilCheck_yield (l : Nat) (p q : Array Value) : anilCheck (.func (.yield l) p q) = some (.func (.yield l) p q) := Eq.trans rfl rfl
/-- Loads and stores, with what is told of the type and of the block. -/
def loadC (ag : Option Bool) (sz : Option Nat) (B : Option Blk) (off : Nat) : Option Value :=
  match ag, sz, B with
  | some true, some sz, some (.cells cs _ _) => if off + sz ≤ cs.length then some (.agg ((cs.drop off).take sz).toArray) else none
  | some false, _, some (.cells cs _ _) => cs[off]?
  | _, _, _ => none
theorem load_ptr (b off : Nat) : aload P A t (.pointer (some ⟨b, off, none⟩)) = loadC (tagg P t) (tsz P t) (A.get b) off := by
  unfold aload loadC; rfl
theorem loadC_one (sz : Option Nat) (cs : List Value) (e : TypeId) (m : Option Nat) (off : Nat) : loadC (some false) sz (some (.cells cs e m)) off = cs[off]? := Eq.trans rfl rfl
theorem loadC_agg (sz : Nat) (cs : List Value) (e : TypeId) (m : Option Nat) (off : Nat) (h : off + sz ≤ cs.length) : loadC (some true) (some sz) (some (.cells cs e m)) off = some (.agg ((cs.drop off).take sz).toArray) := by simp [loadC, h]
def storeC (A : St) (sz : Option Nat) (B : Option Blk) (b off : Nat) (v : Value) : Option St :=
  match B with
  | some (.cells cs e (some k)) => if sz = some v.cells.size ∧ k ≤ off ∧ off + v.cells.size ≤ cs.length ∧ v.cells.all cell1 = true then some (A.upd b (some (.cells (setList cs off v.cells.toList) e (some k)))) else none
  | _ => none
theorem store_ptr (b off : Nat) (v : Value) : astore P A t (.pointer (some ⟨b, off, none⟩)) v = storeC A (tsz P t) (A.get b) b off v := Eq.trans rfl rfl
theorem storeC_cells (sz b off k : Nat) (cs : List Value) (e : TypeId) (v : Value) (h : sz = v.cells.size ∧ k ≤ off ∧ off + v.cells.size ≤ cs.length ∧ v.cells.all cell1 = true) : storeC A (some sz) (some (.cells cs e (some k))) b off v = some (A.upd b (some (.cells (setList cs off v.cells.toList) e (some k)))) := by
  simp only [storeC]; rw [if_pos ⟨by rw [h.1], h.2⟩]
def c1 (v : Value) : Bool := match v with | .agg _ => false | _ => true
theorem storeC_one (b off k : Nat) (cs : List Value) (e : TypeId) (v : Value) (hv : v.cells = #[v]) (hc : cell1 v = true) (h1 : k ≤ off) (h2 : off + 1 ≤ cs.length) : storeC A (some 1) (some (.cells cs e (some k))) b off v = some (A.upd b (some (.cells (cs.set off v) e (some k)))) := by
  rw [storeC_cells]
  · rw [hv]; rfl
  · rw [hv]; simp [hc]; omega
def mval (o : Option Value) (z : Value) (ok : Bool) : Value := match o with | some v => if ok then .tuple #[v, .bool true] else v | none => if ok then .tuple #[z, .bool false] else z
theorem mval_some (v z : Value) : mval (some v) z true = .tuple #[v, .bool true] := Eq.trans rfl rfl
theorem mval_none (z : Value) : mval none z true = .tuple #[z, .bool false] := Eq.trans rfl rfl
def lookK (o : Option TypeDesc) (B : Option Blk) (z : Option Value) (s : ByteArray) (ok : Bool) : Option Value := match o, B, z with | some .string, some (.smap L), some z => some (mval (smGet L s) z ok) | _, _, _ => none
def lookU (P : Program) (o : Option TypeDesc) (B : Option Blk) (s : ByteArray) (ok : Bool) : Option Value := match o with | some (.map kt et) => lookK (P.underlying kt) B (tzero P et) s ok | _ => none
theorem lookup_map (b : Nat) (s : ByteArray) (ok : Bool) : alookup P A t (.map (some b)) (.string s) ok = lookU P (P.underlying t) (A.get b) s ok := by
  unfold alookup lookU
  cases h : P.underlying t with
  | none => rfl
  | some u =>
    cases u <;> try rfl
    rename_i kt et
    simp only [lookK]
    split <;> simp_all [mval]
    split <;> simp_all
theorem lookU_map (kt et : TypeId) (B : Option Blk) (s : ByteArray) (ok : Bool) : lookU P (some (.map kt et)) B s ok = lookK (P.underlying kt) B (tzero P et) s ok := Eq.trans rfl rfl
theorem lookK_smap (L : List (ByteArray × Value)) (z : Value) (s : ByteArray) (ok : Bool) : lookK (some .string) (some (.smap L)) (some z) s ok = some (mval (smGet L s) z ok) := Eq.trans rfl rfl
def msetK (A : St) (o : Option TypeDesc) (B : Option Blk) (b : Nat) (s : ByteArray) (x : Value) : Option St := match o, B with | some .string, some (.smap L) => if plainV x then some (A.upd b (some (.smap (smSet L s x)))) else none | _, _ => none
def msetU (P : Program) (A : St) (o : Option TypeDesc) (B : Option Blk) (b : Nat) (s : ByteArray) (x : Value) : Option St := match o with | some (.map kt _) => msetK A (P.underlying kt) B b s x | _ => none
theorem mapSet_map (b : Nat) (s : ByteArray) (x : Value) : amapSet P A t (.map (some b)) (.string s) x = msetU P A (P.underlying t) (A.get b) b s x := by
  unfold amapSet msetU
  cases h : P.underlying t with
  | none => rfl
  | some u => cases u <;> rfl
theorem msetU_map (kt et : TypeId) (B : Option Blk) (b : Nat) (s : ByteArray) (x : Value) : msetU P A (some (.map kt et)) B b s x = msetK A (P.underlying kt) B b s x := Eq.trans rfl rfl
theorem msetK_int (L : List (ByteArray × Value)) (b : Nat) (s : ByteArray) (k : IntKind) (i : Int) : msetK A (some .string) (some (.smap L)) b s (.int k i) = some (A.upd b (some (.smap (smSet L s (.int k i))))) := Eq.trans rfl rfl
theorem bin_same (b off : Nat) (sp : Option Nat) (op : BinOp) (x y : Operand) : abinA P A op t x y (.pointer (some ⟨b, off, sp⟩)) (.pointer (some ⟨b, off, sp⟩)) = asame P A op t ⟨b, off, sp⟩ ⟨b, off, sp⟩ := Eq.trans rfl rfl
theorem bin_nil (op : BinOp) (x y : Operand) (p : Option Addr) : abinA P A op t x y (.pointer p) (.pointer none) = abin P op t x y (.pointer p) (.pointer none) := by cases p <;> rfl
theorem bdata_nil (n c : Nat) : asliceData A (.slice none n c) = some (.pointer none, A) := Eq.trans rfl rfl
theorem bdata_some (b off : Nat) (sp : Option Nat) (n c : Nat) (h : n ≠ 0) : asliceData A (.slice (some ⟨b, off, sp⟩) n c) = some (.pointer (some ⟨b, off, none⟩), A) := by simp [asliceData, h]
theorem builtin_data (ts : List TypeId) (v : Value) : abuiltin P A .unsafeSliceData ts [v] = asliceData A v := Eq.trans rfl rfl
theorem builtin_str (pt it : TypeId) (p : Option Addr) (n : Int) : abuiltin P A .unsafeString [pt, it] [.pointer p, .int .i64 n] = aunsafeStr P A pt p n := Eq.trans rfl rfl
theorem bounds_11 (n m : Nat) (i j : Int) (h0 : 0 ≤ i) (h1 : i ≤ j) (h2 : j ≤ m) : abounds n m (some (.int k i)) (some (.int k' j)) none = some (i.toNat, j.toNat, m) := by
  have : i ≤ (j.toNat : Int) := by omega
  have h3 : 0 ≤ j := by omega
  simp only [abounds, abound1, h0, h2, h3, this, and_self, if_true, Option.bind_some, Option.map_some]
theorem bounds_10 (n m : Nat) (i : Int) (h0 : 0 ≤ i) (h1 : i ≤ n) : abounds n m (some (.int k i)) none none = some (i.toNat, n, m) := by
  simp [abounds, abound1, h0, h1]
theorem bounds_01 (n m : Nat) (j : Int) (h0 : 0 ≤ j) (h1 : j ≤ m) : abounds n m none (some (.int k j)) none = some (0, j.toNat, m) := by
  simp [abounds, abound1, h0, h1]
theorem bounds_00 (n m : Nat) : abounds n m none none none = some (0, n, m) := Eq.trans rfl rfl
def sliceU (o : Option TypeDesc) (sz : TypeId → Option Nat) (x : Value) (lo hi mx : Option Value) : Option Value :=
  match o, x with
  | some .string, .string s => if mx.isSome then none else asliceS s lo hi
  | some (.slice e), .slice a len cap => (sz e).bind fun sz => asliceL sz a len cap lo hi mx
  | some (.array n e), .pointer (some ⟨b, off, none⟩) => (sz e).bind fun sz => asliceL sz (some ⟨b, off, none⟩) n n lo hi mx
  | _, _ => none
theorem slice_eq (v : Value) (lo hi mx : Option Value) : aslice P t v lo hi mx = sliceU (P.underlying t) (tsz P) v lo hi mx := Eq.trans rfl rfl
theorem sliceU_string (f : TypeId → Option Nat) (p : ByteArray) (lo hi : Option Value) : sliceU (some .string) f (.string p) lo hi none = asliceS p lo hi := Eq.trans rfl rfl
theorem sliceU_slice (f : TypeId → Option Nat) (e : TypeId) (ad : Option Addr) (n c : Nat) (lo hi mx : Option Value) : sliceU (some (.slice e)) f (.slice ad n c) lo hi mx = (f e).bind fun sz => asliceL sz ad n c lo hi mx := Eq.trans rfl rfl
theorem sliceU_array (f : TypeId → Option Nat) (m : Nat) (e : TypeId) (b off : Nat) (lo hi mx : Option Value) : sliceU (some (.array m e)) f (.pointer (some ⟨b, off, none⟩)) lo hi mx = (f e).bind fun sz => asliceL sz (some ⟨b, off, none⟩) m m lo hi mx := Eq.trans rfl rfl
def boundsS (o : Option (Nat × Nat × Nat)) (p : ByteArray) : Option Value := o.map fun (l, h, _) => .string (p.extract l h)
theorem sliceS_eq (p : ByteArray) (lo hi : Option Value) : asliceS p lo hi = boundsS (abounds p.size p.size lo hi none) p := Eq.trans rfl rfl
theorem boundsS_some (l h m : Nat) (p : ByteArray) : boundsS (some (l, h, m)) p = some (.string (p.extract l h)) := Eq.trans rfl rfl
def boundsL (o : Option (Nat × Nat × Nat)) (sz : Nat) (ad : Option Addr) (mx : Bool) : Option Value :=
  match o with
  | none => none
  | some (l, h, m) =>
    match ad with
    | none => some (.slice none (h - l) (m - l))
    | some ⟨b, off, sp⟩ =>
      match sp, mx with
      | none, _ | some 0, false => some (.slice (some ⟨b, off + l * sz, sp⟩) (h - l) (m - l))
      | some (k + 1), false => if k + 1 = sz then some (.slice (some ⟨b, off + l * sz, sp⟩) (h - l) (m - l)) else none
      | _, true => some (.slice (some ⟨b, off + l * sz, none⟩) (h - l) (m - l))
theorem sliceL_eq (sz : Nat) (ad : Option Addr) (n c : Nat) (lo hi mx : Option Value) : asliceL sz ad n c lo hi mx = boundsL (abounds n c lo hi mx) sz ad mx.isSome := Eq.trans rfl rfl
theorem boundsL_nil (l h m sz : Nat) (mx : Bool) : boundsL (some (l, h, m)) sz none mx = some (.slice none (h - l) (m - l)) := Eq.trans rfl rfl
theorem boundsL_exact (l h m sz b off : Nat) (mx : Bool) : boundsL (some (l, h, m)) sz (some ⟨b, off, none⟩) mx = some (.slice (some ⟨b, off + l * sz, none⟩) (h - l) (m - l)) := Eq.trans rfl rfl
theorem boundsL_least (l h m sz b off : Nat) : boundsL (some (l, h, m)) sz (some ⟨b, off, some 0⟩) false = some (.slice (some ⟨b, off + l * sz, some 0⟩) (h - l) (m - l)) := Eq.trans rfl rfl
theorem boundsL_own (l h m b off : Nat) : boundsL (some (l, h, m)) 1 (some ⟨b, off, some 1⟩) false = some (.slice (some ⟨b, off + l * 1, some 1⟩) (h - l) (m - l)) := Eq.trans rfl rfl
theorem boundsL_ownN (l h m b off k : Nat) : boundsL (some (l, h, m)) (k + 1) (some ⟨b, off, some (k + 1)⟩) false = some (.slice (some ⟨b, off + l * (k + 1), some (k + 1)⟩) (h - l) (m - l)) := by simp [boundsL]
def lenU (o : Option TypeDesc) (v : Value) : Option (Value × St) :=
  ((match o, v with
  | some .string, .string s => some (.int .i64 s.size)
  | some (.array n _), _ => some (.int .i64 n)
  | some (.slice _), .slice _ n _ => some (.int .i64 n)
  | some (.map _ _), .map none => some (.int .i64 0)
  | _, _ => none : Option Value)).map (·, A)
theorem builtin_len (v : Value) : abuiltin P A .len [t] [v] = lenU A (P.underlying t) v := Eq.trans rfl rfl
theorem len_string (p : ByteArray) : lenU A (some .string) (.string p) = some (.int .i64 p.size, A) := Eq.trans rfl rfl
theorem len_array (n : Nat) (e : TypeId) (v : Value) : lenU A (some (.array n e)) v = some (.int .i64 n, A) := by cases v <;> rfl
theorem len_slice (e : TypeId) (p : Option Addr) (n c : Nat) : lenU A (some (.slice e)) (.slice p n c) = some (.int .i64 n, A) := Eq.trans rfl rfl
theorem builtin_append (s x : Value) : abuiltin P A .append [t, u] [s, x] = aappend P A t u s x := Eq.trans rfl rfl
theorem builtin_copy (s x : Value) : abuiltin P A .copy [t, u] [s, x] = acopy P A t s x := Eq.trans rfl rfl
def pairA (o : Option Value) (A : St) : Option (Value × St) := o.map (·, A)
theorem pairA_some (v : Value) : pairA (some v) A = some (v, A) := Eq.trans rfl rfl
theorem builtin_min (ts : List TypeId) (vs : List Value) : abuiltin P A .min ts vs = pairA (amm false vs) A := Eq.trans rfl rfl
theorem builtin_max (ts : List TypeId) (vs : List Value) : abuiltin P A .max ts vs = pairA (amm true vs) A := Eq.trans rfl rfl
theorem min_two (i j : Int) : amm false [.int k i, .int k' j] = some (.int k (if j < i then j else i)) := Eq.trans rfl rfl
theorem max_two (i j : Int) : amm true [.int k i, .int k' j] = some (.int k (if j > i then j else i)) := Eq.trans rfl rfl
def indexU (P : Program) (o : Option TypeDesc) (x i : Value) : Option Value :=
  match o, x, i with
  | some (.array n e), .agg cs, .int _ j => if 0 ≤ j ∧ j < n then (tsz P e).bind fun sz => apart P e cs (j.toNat * sz) else none
  | some .string, .string s, .int _ j => if 0 ≤ j ∧ j < s.size then some (.int .u8 (sbt s j.toNat)) else none
  | _, _, _ => none
theorem index_eq (v i : Value) : aindex P t v i = indexU P (P.underlying t) v i := Eq.trans rfl rfl
theorem index_string (p : ByteArray) (j : Int) (h0 : 0 ≤ j) (h1 : j < p.size) : indexU P (some .string) (.string p) (.int k j) = some (.int .u8 (sbt p j.toNat)) := by simp [indexU, h0, h1]
theorem index_array (n : Nat) (e : TypeId) (cs : Array Value) (j : Int) (h0 : 0 ≤ j) (h1 : j < n) : indexU P (some (.array n e)) (.agg cs) (.int k j) = (tsz P e).bind fun sz => apart P e cs (j.toNat * sz) := by simp [indexU, h0, h1]
def indexAddrU (P : Program) (o : Option TypeDesc) (x i : Value) : Option Value :=
  match o, x, i with
  | some (.array n e), .pointer (some ⟨b, off, none⟩), .int _ j => if 0 ≤ j ∧ j < n then (tsz P e).map fun sz => .pointer (some ⟨b, off + j.toNat * sz, none⟩) else none
  | some (.slice e), .slice (some ⟨b, off, _⟩) len _, .int _ j => if 0 ≤ j ∧ j < len then (tsz P e).map fun sz => .pointer (some ⟨b, off + j.toNat * sz, none⟩) else none
  | _, _, _ => none
theorem indexAddr_eq (v i : Value) : aindexAddr P t v i = indexAddrU P (P.underlying t) v i := Eq.trans rfl rfl
theorem indexAddr_array (n : Nat) (e : TypeId) (b off : Nat) (j : Int) (h0 : 0 ≤ j) (h1 : j < n) : indexAddrU P (some (.array n e)) (.pointer (some ⟨b, off, none⟩)) (.int k j) = (tsz P e).map fun sz => .pointer (some ⟨b, off + j.toNat * sz, none⟩) := by simp [indexAddrU, h0, h1]
theorem indexAddr_slice (e : TypeId) (b off : Nat) (sp : Option Nat) (n c : Nat) (j : Int) (h0 : 0 ≤ j) (h1 : j < n) : indexAddrU P (some (.slice e)) (.slice (some ⟨b, off, sp⟩) n c) (.int k j) = (tsz P e).map fun sz => .pointer (some ⟨b, off + j.toNat * sz, none⟩) := by simp [indexAddrU, h0, h1]
def fieldAddrU (P : Program) (o : Option TypeDesc) (x : Value) (f : Nat) : Option Value :=
  match o, x with
  | some (.struct fs), .pointer (some ⟨b, off, none⟩) =>
    match fs[f]? with
    | some fd => match tsz P fd.type with | some (_ + 1) => some (.pointer (some ⟨b, off + fd.offset, none⟩)) | _ => none
    | none => none
  | _, _ => none
theorem fieldAddr_eq (v : Value) (f : Nat) : afieldAddr P t v f = fieldAddrU P (P.underlying t) v f := by
  unfold afieldAddr fieldAddrU; rfl
def posO (o : Option Nat) (v : Value) : Option Value := match o with | some (_ + 1) => some v | _ => none
theorem posO_some (n : Nat) (v : Value) : posO (some (n + 1)) v = some v := Eq.trans rfl rfl
def fAddr (P : Program) (o : Option Field) (b off : Nat) : Option Value := match o with | some fd => posO (tsz P fd.type) (.pointer (some ⟨b, off + fd.offset, none⟩)) | none => none
theorem fAddr_some (fd : Field) (b off : Nat) : fAddr P (some fd) b off = posO (tsz P fd.type) (.pointer (some ⟨b, off + fd.offset, none⟩)) := Eq.trans rfl rfl
theorem fieldAddr_struct (fs : Array Field) (b off f : Nat) : fieldAddrU P (some (.struct fs)) (.pointer (some ⟨b, off, none⟩)) f = fAddr P fs[f]? b off := by
  unfold fieldAddrU fAddr posO; rfl
def partC (P : Program) (o : Option Field) (cs : Array Value) : Option Value := match o with | some fd => apart P fd.type cs fd.offset | none => none
theorem partC_some (fd : Field) (cs : Array Value) : partC P (some fd) cs = apart P fd.type cs fd.offset := Eq.trans rfl rfl
def fieldU (P : Program) (o : Option TypeDesc) (x : Value) (f : Nat) : Option Value :=
  match o, x with
  | some (.struct fs), .agg cs => partC P fs[f]? cs
  | _, _ => none
theorem field_eq (v : Value) (f : Nat) : afield P t v f = fieldU P (P.underlying t) v f := by
  unfold afield fieldU partC; rfl
theorem field_struct (fs : Array Field) (cs : Array Value) (f : Nat) : fieldU P (some (.struct fs)) (.agg cs) f = partC P fs[f]? cs := Eq.trans rfl rfl
def partU (ag : Option Bool) (sz : Option Nat) (cs : Array Value) (off : Nat) : Option Value :=
  match ag with
  | some true => sz.map fun n => .agg (cs.extract off (off + n))
  | some false => cs[off]?
  | none => none
theorem part_eq (cs : Array Value) (off : Nat) : apart P t cs off = partU (tagg P t) (tsz P t) cs off := Eq.trans rfl rfl
theorem partU_one (sz : Option Nat) (cs : Array Value) (off : Nat) : partU (some false) sz cs off = cs[off]? := Eq.trans rfl rfl
theorem partU_agg (n : Nat) (cs : Array Value) (off : Nat) : partU (some true) (some n) cs off = some (.agg (cs.extract off (off + n))) := Eq.trans rfl rfl
theorem extract_tuple (vs : Array Value) (i : Nat) : aextract (.tuple vs) i = vs[i]? := Eq.trans rfl rfl
def convU (P : Program) (A : St) (us ud : Option TypeDesc) (x : Value) : Option (Value × St) :=
  match us, ud, x with
  | some _, some (.int k), .int _ i => some (.int k (k.wrap i), A)
  | some _, some .string, .string s => some (.string s, A)
  | some _, some (.slice e), .string s =>
    match P.underlying e with
    | some (.int .u8) => some (.slice (some ⟨A.next, 0, some 1⟩) s.size s.size, A.alloc (.cells (s.data.toList.map fun b => .int .u8 b.toNat) e (some 0)))
    | _ => none
  | some (.slice e), some .string, .slice a len _ =>
    match P.underlying e with
    | some (.int .u8) =>
      match a with
      | none => some (.string .empty, A)
      | some ⟨b, off, _⟩ =>
        if len = 0 then some (.string .empty, A) else
        match A.get b with
        | some (.cells cs _ _) => if off + len ≤ cs.length then (intsOf .u8 ((cs.drop off).take len)).map fun ns => (.string (strOfNums ns), A) else none
        | _ => none
    | _ => none
  | some (.pointer t), some .unsafePointer, .pointer (some ⟨b, off, sp⟩) =>
    match A.get b, tsz P t with
    | some (.cells cs _ _), some (_ + 1) => if off < cs.length then some (.pointer (some ⟨b, off, sp⟩), A) else none
    | _, _ => none
  | some .unsafePointer, some (.pointer u), .pointer (some ⟨b, off, sp⟩) =>
    match A.get b, tsz P u with
    | some (.cells cs e (some _)), some s => if e = btype ∧ u = e ∧ off = 0 ∧ s ≠ 0 ∧ s ≤ cs.length then some (.pointer (some ⟨b, off, sp⟩), A) else none
    | _, _ => none
  | _, _, _ => none
def unsT (A : St) (B : Option Blk) (z : Option Nat) (b off : Nat) (sp : Option Nat) : Option (Value × St) :=
  match B, z with
  | some (.cells cs _ _), some (_ + 1) => if off < cs.length then some (.pointer (some ⟨b, off, sp⟩), A) else none
  | _, _ => none
def unsF (A : St) (B : Option Blk) (z : Option Nat) (u b off : Nat) (sp : Option Nat) : Option (Value × St) :=
  match B, z with
  | some (.cells cs e (some _)), some s => if e = btype ∧ u = e ∧ off = 0 ∧ s ≠ 0 ∧ s ≤ cs.length then some (.pointer (some ⟨b, off, sp⟩), A) else none
  | _, _ => none
theorem conv_to (e : TypeId) (b off : Nat) (sp : Option Nat) : convU P A (some (.pointer e)) (some .unsafePointer) (.pointer (some ⟨b, off, sp⟩)) = unsT A (A.get b) (tsz P e) b off sp := Eq.trans rfl rfl
theorem conv_from (e : TypeId) (b off : Nat) (sp : Option Nat) : convU P A (some .unsafePointer) (some (.pointer e)) (.pointer (some ⟨b, off, sp⟩)) = unsF A (A.get b) (tsz P e) e b off sp := Eq.trans rfl rfl
theorem unsT_cells (cs : List Value) (e : TypeId) (m : Option Nat) (n b off : Nat) (sp : Option Nat) (h0 : n ≠ 0) (h : off < cs.length) : unsT A (some (.cells cs e m)) (some n) b off sp = some (.pointer (some ⟨b, off, sp⟩), A) := by
  cases n with
  | zero => exact absurd rfl h0
  | succ n => simp [unsT, h]
theorem unsF_cells (cs : List Value) (e k n b : Nat) (sp : Option Nat) (h0 : n ≠ 0) (h : n ≤ cs.length) : unsF A (some (.cells cs e (some k))) (some n) e b 0 sp = if e = btype then some (.pointer (some ⟨b, 0, sp⟩), A) else none := by
  simp [unsF, h0, h]
theorem conv_eq (v : Value) : aconv P A s t v = convU P A (P.underlying s) (P.underlying t) v := by
  unfold aconv convU; rfl
theorem conv_int (us : TypeDesc) (i : Int) : convU P A (some us) (some (.int k)) (.int k' i) = some (.int k (k.wrap i), A) := by cases us <;> rfl
theorem conv_string (us : TypeDesc) (p : ByteArray) : convU P A (some us) (some .string) (.string p) = some (.string p, A) := by cases us <;> rfl
def u8O {α : Type} (o : Option TypeDesc) (r : Option α) : Option α := match o with | some (.int .u8) => r | _ => none
theorem u8O_u8 {α : Type} (r : Option α) : u8O (some (.int .u8)) r = r := Eq.trans rfl rfl
/-- Bytes as cells, and back. -/
def bcells (p : ByteArray) : List Value := p.data.toList.map fun b => .int .u8 b.toNat
theorem conv_bytes (us : TypeDesc) (e : TypeId) (p : ByteArray) : convU P A (some us) (some (.slice e)) (.string p) = u8O (P.underlying e) (some (.slice (some ⟨A.next, 0, some 1⟩) p.size p.size, A.alloc (.cells (bcells p) e (some 0)))) := by
  cases us <;> rfl
theorem conv_text_nil (e : TypeId) (n c : Nat) : convU P A (some (.slice e)) (some .string) (.slice none n c) = u8O (P.underlying e) (some (.string .empty, A)) := Eq.trans rfl rfl
theorem conv_text_zero (e : TypeId) (ad : Addr) (c : Nat) : convU P A (some (.slice e)) (some .string) (.slice (some ad) 0 c) = u8O (P.underlying e) (some (.string .empty, A)) := by
  simp only [convU, u8O]; split <;> first | rfl | simp_all
def textC (A : St) (B : Option Blk) (off n : Nat) : Option (Value × St) :=
  match B with
  | some (.cells cs _ _) => if off + n ≤ cs.length then (intsOf .u8 ((cs.drop off).take n)).map fun ns => (.string (strOfNums ns), A) else none
  | _ => none
theorem conv_text (e : TypeId) (b off : Nat) (sp : Option Nat) (n c : Nat) (h : n ≠ 0) : convU P A (some (.slice e)) (some .string) (.slice (some ⟨b, off, sp⟩) n c) = u8O (P.underlying e) (textC A (A.get b) off n) := by
  simp only [convU, u8O, textC]; split <;> simp_all
def ifaceU (o : Option TypeDesc) (t : TypeId) (x : Value) : Option Value := match o with | some (.interface _) | none => none | _ => some (.iface t x)
theorem mkIface_eq (v : Value) : amkIface P t v = ifaceU (P.underlying t) t v := by
  unfold amkIface ifaceU; rfl
theorem get_upd_same (b : Nat) (B : Option Blk) : (A.upd b B).get b = B := by simp [St.get_upd]
theorem get_alloc_same (B : Blk) : (A.alloc B).get A.next = some B := by simp [St.get_alloc]
end


section
variable {P : Program} {w0 : World} {A : St}
/-- The results of a body that defers nothing. -/
def finR (o : Option (List Value)) : Option Value := match o with | some [v] => some v | some vs => some (.tuple vs.toArray) | none => none
def consO (v : Option Value) (o : Option (List Value)) : Option (List Value) := match v, o with | some v, some vs => some (v :: vs) | _, _ => none
theorem consO_some (v : Value) (vs : List Value) : consO (some v) (some vs) = some (v :: vs) := Eq.trans rfl rfl
theorem finR_0 : finR (some []) = some (.tuple #[]) := Eq.trans rfl rfl
theorem finR_1 (v : Value) : finR (some [v]) = some v := Eq.trans rfl rfl
theorem finR_2 (v u : Value) (l : List Value) : finR (some (v :: u :: l)) = some (.tuple (v :: u :: l).toArray) := Eq.trans rfl rfl
theorem aresL_nil (t : Array Value) : aresL P A t [] = some [] := Eq.trans rfl rfl
theorem aresL_cons (t : Array Value) (r : ResultVar) (rs : List ResultVar) : aresL P A t (r :: rs) = consO (ares1 P A t r) (aresL P A t rs) := by
  show (match ares1 P A t r, aresL P A t rs with | some v, some vs => some (v :: vs) | _, _ => none) = _
  unfold consO; rfl
theorem ares1_tmp (n : Nat) (ρ : Nat → Value) (j : Nat) : ares1 P A (tm n ρ) (.tmp j) = some (rd n ρ j) := by
  simp only [ares1, tm_getD]
theorem ares1_cell (n : Nat) (ρ : Nat → Value) (j : Nat) (t : TypeId) : ares1 P A (tm n ρ) (.cell j t) = aload P A t (rd n ρ j) := by
  simp only [ares1, tm_getD]
def retV (o : Option Value) (R : Ending → St → Prop) (A : St) : Prop := ∃ v, o = some v ∧ R (.returned v) A
theorem retV_some (v : Value) (R : Ending → St → Prop) : retV (some v) R A = R (.returned v) A := by simp [retV]
theorem aleave_nil (fn : Func) (t : Array Value) (R : Ending → St → Prop) : aleave P w0 fn t R [] A = retV (finR (aresL P A t fn.results.toList)) R A := by
  show (∃ v, aresults P fn A t = some v ∧ R (.returned v) A) = _
  unfold retV aresults finR; rfl
theorem aleave_coll (fn : Func) (t : Array Value) (R : Ending → St → Prop) (D : Nat) (args : Array Value) (ds : List Deferred) : aleave P w0 fn t R (⟨.collected D, args⟩ :: ds) A = (A.get D = some (.dfr false) ∧ aleave P w0 fn t R ds (A.upd D (some (.dfr true)))) := Eq.trans rfl rfl

/-- A body's walk, from its arguments on. -/
theorem call_E {f : Nat} {fn : Func} {c : Code} {l : List Value} {R : Ending → St → Prop} (hen : Enters P f) (hf : P.funcs[f]? = some fn) (hb : fn.body = some c) (hl : l.length ≤ fn.ntmps)
    (h : WF A → BndA A.next l.toArray → wpA P w0 A.next true c (funQ P w0 fn A R) (E fn.ntmps (ar l) []) A) : ACalls P w0 f l.toArray A R :=
  call_of hen hf hb fun hw hbd => by rw [ent_E _ _ hl]; exact h hw hbd

/-- An exact end. -/
def fin (v : Value) (A : St) (e : Ending) (A' : St) : Prop := e = .returned v ∧ A' = A
theorem fin_self (v : Value) : fin v A (.returned v) A := ⟨rfl, rfl⟩
theorem call1 {f : Nat} {args : Array Value} {v : Value} {A' : St} {R : Ending → St → Prop} (h : ACalls P w0 f args A (fin v A')) (hr : R (.returned v) A') : ACalls P w0 f args A R :=
  h.mono fun e A1 ⟨h1, h2⟩ => by subst h1 h2; exact hr
/-- What has been laid since is let go. -/
structure Over (A A' : St) : Prop where
  next : A.next ≤ A'.next
  get : ∀ b, b < A.next → A'.get b = A.get b
theorem Over.refl (A : St) : Over A A := ⟨Nat.le_refl _, fun _ _ => rfl⟩
theorem Over.alloc {A A' : St} (h : Over A A') (B : Blk) : Over A (A'.alloc B) := ⟨by have := h.next; simp; omega, fun b hb => by have := h.next; rw [St.get_alloc, if_neg (by omega)]; exact h.get b hb⟩
theorem Over.upd {A A' : St} (h : Over A A') {b : Nat} (hb : A.next ≤ b) (B : Option Blk) : Over A (A'.upd b B) := ⟨h.next, fun c hc => by rw [St.get_upd, if_neg (by omega)]; exact h.get c hc⟩
theorem Over.trans {A B C : St} (h : Over A B) (k : Over B C) : Over A C := ⟨Nat.le_trans h.next k.next, fun b hb => (k.get b (Nat.lt_of_lt_of_le hb h.next)).trans (h.get b hb)⟩
theorem Over.sub {A' : St} (h : Over A A') (hw : WF A) : Sub A A' := ⟨h.next, h.get, fun b hb => by
  cases hg : A.get b with
  | none => rfl
  | some B => have := (hw b B hg).1; omega⟩
theorem gc_over {A' : St} {R : Ending → St → Prop} {e : Ending} (hw : WF A) (h : Over A A') (hb : BndE A.next e) (hr : R e A) : GcE A R e A' := .inr ⟨A, h.sub hw, Nat.le_refl _, hw, hb, hr⟩
theorem gc_fin {A' : St} {v : Value} (hw : WF A) (h : Over A A') (hb : Bnd A.next v) : GcE A (fin v A) (.returned v) A' := gc_over hw h (.returned hb) (fin_self v)
theorem gc_fin' {A' : St} {v v' : Value} (hw : WF A) (h : Over A A') (e : v' = v) (hb : Bnd A.next v) : GcE A (fin v A) (.returned v') A' := by subst e; exact gc_fin hw h hb
theorem gc_here {A' : St} {R : Ending → St → Prop} {e : Ending} (hr : R e A') : GcE A R e A' := .inl hr
theorem bnd_int (n : Nat) (k : IntKind) (i : Int) : Bnd n (.int k i) = True := eq_true (.int k i)
theorem bnd_bool (n : Nat) (b : Bool) : Bnd n (.bool b) = True := eq_true (.bool b)
theorem bnd_string (n : Nat) (s : ByteArray) : Bnd n (.string s) = True := eq_true (.string s)
theorem bnd_nilIface (n : Nat) : Bnd n .nilIface = True := eq_true .nilIface
theorem bnd_slice0 (n l c : Nat) : Bnd n (.slice none l c) = True := eq_true (.slice0 l c)
theorem bnd_iface (n : Nat) (t : TypeId) (v : Value) : Bnd n (.iface t v) = Bnd n v := propext ⟨fun h => by cases h; assumption, .iface t v⟩
theorem bnd_slice (n : Nat) (a : Addr) (l c : Nat) : Bnd n (.slice (some a) l c) = (a.block < n) := propext ⟨fun h => by cases h; assumption, .slice a l c⟩
theorem bnd_ptr (n : Nat) (a : Addr) : Bnd n (.pointer (some a)) = (a.block < n) := propext ⟨fun h => by cases h; assumption, .ptr a⟩
theorem bnd_ptr0 (n : Nat) : Bnd n (.pointer none) = True := eq_true .ptr0
def bndL (n : Nat) (l : List Value) : Prop := ∀ v ∈ l, Bnd n v
theorem bndL_nil (n : Nat) : bndL n [] = True := eq_true (by intro v hv; cases hv)
theorem bndL_cons (n : Nat) (v : Value) (l : List Value) : bndL n (v :: l) = (Bnd n v ∧ bndL n l) := by simp [bndL]
theorem bndA_lit (n : Nat) (l : List Value) : BndA n l.toArray = bndL n l := propext ⟨fun h v hv => by
    obtain ⟨i, hi⟩ := List.getElem?_of_mem hv
    exact h i v (by simpa using hi), fun h i v hv => h v (List.mem_of_getElem? (by simpa using hv))⟩
theorem bnd_tuple (n : Nat) (l : List Value) : Bnd n (.tuple l.toArray) = bndL n l := propext ⟨fun h => by cases h with | tuple _ h => rw [← bndA_lit]; exact h, fun h => .tuple _ (by rw [← bndA_lit] at h; exact h)⟩
theorem bnd_agg (n : Nat) (l : List Value) : Bnd n (.agg l.toArray) = bndL n l := propext ⟨fun h => by cases h with | agg _ h => rw [← bndA_lit]; exact h, fun h => .agg _ (by rw [← bndA_lit] at h; exact h)⟩
end
end Go.Fw


/-! Drawn regions whose operations leave the heap as it is: any order comes to what the text's order comes to. -/
set_option linter.unusedSimpArgs false
set_option linter.unusedVariables false
namespace Go.Fw
open Go.RowKit

def noQ : Exit → Act → St → Prop := fun _ _ _ => False
def calm (A0 : St) (K : Act → St → Prop) (a : Act) (A : St) : Prop := A = A0 ∧ K a A
theorem calm_same (A : St) (K : Act → St → Prop) (a : Act) : calm A K a A = K a A := by simp [calm]
def stepC (P : Program) (w0 : World) (o : Oper) (K : Act → St → Prop) (a : Act) (A : St) : Prop :=
  match o.op with
  | .call { callee := .value f, args, argTypes := _ } => callV (okO f && args.all okO) (∃ v, ACallV P w0 (a.eval f) (args.map a.eval) A (fin v A) ∧ K (a.put o.dst v) A)
  | .panic _ => False
  | .defer _ => False
  | _ => aoper P w0 true o a A (calm A K) noQ
def skipC (o : Oper) (K : Act → St → Prop) (a : Act) (A : St) : Prop := K (a.put o.dst undef) A
theorem skipC_eq (o : Oper) (K : Act → St → Prop) (a : Act) (A : St) : skipC o K a A = K (a.put o.dst undef) A := Eq.trans rfl rfl
def aopsC (P : Program) (w0 : World) (ds : List (Option Tmp)) (Q : Exit → Act → St → Prop) : List Oper → Act → St → Prop
  | [], a, A => Q .normal a A
  | o :: rest, a, A => ifB (wanted' ds o.guard a.tmps) (stepC P w0 o (aopsC P w0 ds Q rest)) (skipC o (aopsC P w0 ds Q rest)) a A
theorem aopsC_nil (P : Program) (w0 : World) (ds : List (Option Tmp)) (Q : Exit → Act → St → Prop) (a : Act) (A : St) : aopsC P w0 ds Q [] a A = Q .normal a A := Eq.trans rfl rfl
theorem aopsC_cons (P : Program) (w0 : World) (ds : List (Option Tmp)) (Q : Exit → Act → St → Prop) (o : Oper) (rest : List Oper) (a : Act) (A : St) : aopsC P w0 ds Q (o :: rest) a A = ifB (wanted' ds o.guard a.tmps) (stepC P w0 o (aopsC P w0 ds Q rest)) (skipC o (aopsC P w0 ds Q rest)) a A := Eq.trans rfl rfl
section
variable (P : Program) (w0 : World) (d : Option Tmp) (ty : TypeId) (pos : String) (aft : Array Edge) (g : Option (Nat × Bool)) (K : Act → St → Prop) (a : Act) (A : St)
theorem stepC_call (f : Operand) (args : Array Operand) (ts : Array TypeId) : stepC P w0 ⟨d, .call { callee := .value f, args, argTypes := ts }, ty, pos, aft, g⟩ K a A = callV (okO f && args.all okO) (∃ v, ACallV P w0 (a.eval f) (args.map a.eval) A (fin v A) ∧ K (a.put d v) A) := Eq.trans rfl rfl
theorem stepC_move (x : Operand) : stepC P w0 ⟨d, .move x, ty, pos, aft, g⟩ K a A = aoper P w0 true ⟨d, .move x, ty, pos, aft, g⟩ a A (calm A K) noQ := Eq.trans rfl rfl
theorem stepC_assign (x : Operand) : stepC P w0 ⟨d, .assign x, ty, pos, aft, g⟩ K a A = aoper P w0 true ⟨d, .assign x, ty, pos, aft, g⟩ a A (calm A K) noQ := Eq.trans rfl rfl
theorem stepC_pick (x y z : Operand) : stepC P w0 ⟨d, .pick x y z, ty, pos, aft, g⟩ K a A = aoper P w0 true ⟨d, .pick x y z, ty, pos, aft, g⟩ a A (calm A K) noQ := Eq.trans rfl rfl
theorem stepC_alloc (t : TypeId) : stepC P w0 ⟨d, .alloc t, ty, pos, aft, g⟩ K a A = aoper P w0 true ⟨d, .alloc t, ty, pos, aft, g⟩ a A (calm A K) noQ := Eq.trans rfl rfl
theorem stepC_box (t : TypeId) (x : Operand) : stepC P w0 ⟨d, .box t x, ty, pos, aft, g⟩ K a A = aoper P w0 true ⟨d, .box t x, ty, pos, aft, g⟩ a A (calm A K) noQ := Eq.trans rfl rfl
theorem stepC_build (t : TypeId) (ps : Array (Nat × Operand)) : stepC P w0 ⟨d, .build t ps, ty, pos, aft, g⟩ K a A = aoper P w0 true ⟨d, .build t ps, ty, pos, aft, g⟩ a A (calm A K) noQ := Eq.trans rfl rfl
theorem stepC_buildSlice (t : TypeId) (n : Nat) (ps : Array (Nat × Operand)) : stepC P w0 ⟨d, .buildSlice t n ps, ty, pos, aft, g⟩ K a A = aoper P w0 true ⟨d, .buildSlice t n ps, ty, pos, aft, g⟩ a A (calm A K) noQ := Eq.trans rfl rfl
theorem stepC_load (t : TypeId) (x : Operand) : stepC P w0 ⟨d, .load t x, ty, pos, aft, g⟩ K a A = aoper P w0 true ⟨d, .load t x, ty, pos, aft, g⟩ a A (calm A K) noQ := Eq.trans rfl rfl
theorem stepC_store (t : TypeId) (x y : Operand) : stepC P w0 ⟨d, .store t x y, ty, pos, aft, g⟩ K a A = aoper P w0 true ⟨d, .store t x y, ty, pos, aft, g⟩ a A (calm A K) noQ := Eq.trans rfl rfl
theorem stepC_nilCheck (x : Operand) : stepC P w0 ⟨d, .nilCheck x, ty, pos, aft, g⟩ K a A = aoper P w0 true ⟨d, .nilCheck x, ty, pos, aft, g⟩ a A (calm A K) noQ := Eq.trans rfl rfl
theorem stepC_binOp (op : BinOp) (t u : TypeId) (x y : Operand) : stepC P w0 ⟨d, .binOp op t x y u, ty, pos, aft, g⟩ K a A = aoper P w0 true ⟨d, .binOp op t x y u, ty, pos, aft, g⟩ a A (calm A K) noQ := Eq.trans rfl rfl
theorem stepC_unOp (op : UnOp) (t : TypeId) (x : Operand) : stepC P w0 ⟨d, .unOp op t x, ty, pos, aft, g⟩ K a A = aoper P w0 true ⟨d, .unOp op t x, ty, pos, aft, g⟩ a A (calm A K) noQ := Eq.trans rfl rfl
theorem stepC_convert (t u : TypeId) (x : Operand) : stepC P w0 ⟨d, .convert t u x, ty, pos, aft, g⟩ K a A = aoper P w0 true ⟨d, .convert t u x, ty, pos, aft, g⟩ a A (calm A K) noQ := Eq.trans rfl rfl
theorem stepC_makeInterface (t : TypeId) (x : Operand) : stepC P w0 ⟨d, .makeInterface t x, ty, pos, aft, g⟩ K a A = aoper P w0 true ⟨d, .makeInterface t x, ty, pos, aft, g⟩ a A (calm A K) noQ := Eq.trans rfl rfl
theorem stepC_makeFunc (f : Fn) (x y : Array Operand) : stepC P w0 ⟨d, .makeFunc f x y, ty, pos, aft, g⟩ K a A = aoper P w0 true ⟨d, .makeFunc f x y, ty, pos, aft, g⟩ a A (calm A K) noQ := Eq.trans rfl rfl
theorem stepC_makeSlice (t : TypeId) (x y : Operand) : stepC P w0 ⟨d, .makeSlice t x y, ty, pos, aft, g⟩ K a A = aoper P w0 true ⟨d, .makeSlice t x y, ty, pos, aft, g⟩ a A (calm A K) noQ := Eq.trans rfl rfl
theorem stepC_slice (t : TypeId) (x : Operand) (l h m : Option Operand) : stepC P w0 ⟨d, .slice t x l h m, ty, pos, aft, g⟩ K a A = aoper P w0 true ⟨d, .slice t x l h m, ty, pos, aft, g⟩ a A (calm A K) noQ := Eq.trans rfl rfl
theorem stepC_fieldAddr (t : TypeId) (x : Operand) (f : Nat) : stepC P w0 ⟨d, .fieldAddr t x f, ty, pos, aft, g⟩ K a A = aoper P w0 true ⟨d, .fieldAddr t x f, ty, pos, aft, g⟩ a A (calm A K) noQ := Eq.trans rfl rfl
theorem stepC_field (t : TypeId) (x : Operand) (f : Nat) : stepC P w0 ⟨d, .field t x f, ty, pos, aft, g⟩ K a A = aoper P w0 true ⟨d, .field t x f, ty, pos, aft, g⟩ a A (calm A K) noQ := Eq.trans rfl rfl
theorem stepC_indexAddr (t : TypeId) (x y : Operand) : stepC P w0 ⟨d, .indexAddr t x y, ty, pos, aft, g⟩ K a A = aoper P w0 true ⟨d, .indexAddr t x y, ty, pos, aft, g⟩ a A (calm A K) noQ := Eq.trans rfl rfl
theorem stepC_index (t : TypeId) (x y : Operand) : stepC P w0 ⟨d, .index t x y, ty, pos, aft, g⟩ K a A = aoper P w0 true ⟨d, .index t x y, ty, pos, aft, g⟩ a A (calm A K) noQ := Eq.trans rfl rfl
theorem stepC_extract (x : Operand) (i : Nat) : stepC P w0 ⟨d, .extract x i, ty, pos, aft, g⟩ K a A = aoper P w0 true ⟨d, .extract x i, ty, pos, aft, g⟩ a A (calm A K) noQ := Eq.trans rfl rfl
theorem stepC_typeAssert (x : Operand) (t u : TypeId) (ok : Bool) : stepC P w0 ⟨d, .typeAssert x t u ok, ty, pos, aft, g⟩ K a A = aoper P w0 true ⟨d, .typeAssert x t u ok, ty, pos, aft, g⟩ a A (calm A K) noQ := Eq.trans rfl rfl
theorem stepC_lookup (t : TypeId) (x y : Operand) (ok : Bool) : stepC P w0 ⟨d, .lookup t x y ok, ty, pos, aft, g⟩ K a A = aoper P w0 true ⟨d, .lookup t x y ok, ty, pos, aft, g⟩ a A (calm A K) noQ := Eq.trans rfl rfl
theorem stepC_mapUpdate (t : TypeId) (x y z : Operand) : stepC P w0 ⟨d, .mapUpdate t x y z, ty, pos, aft, g⟩ K a A = aoper P w0 true ⟨d, .mapUpdate t x y z, ty, pos, aft, g⟩ a A (calm A K) noQ := Eq.trans rfl rfl
theorem stepC_makeMap (t : TypeId) : stepC P w0 ⟨d, .makeMap t none, ty, pos, aft, g⟩ K a A = aoper P w0 true ⟨d, .makeMap t none, ty, pos, aft, g⟩ a A (calm A K) noQ := Eq.trans rfl rfl
theorem stepC_builtin (bi : Builtin) (xs : Array Operand) (ts : Array TypeId) : stepC P w0 ⟨d, .call { callee := .builtin bi, args := xs, argTypes := ts }, ty, pos, aft, g⟩ K a A = aoper P w0 true ⟨d, .call { callee := .builtin bi, args := xs, argTypes := ts }, ty, pos, aft, g⟩ a A (calm A K) noQ := Eq.trans rfl rfl
end

/-- What an operation comes to, the heap as it was. -/
def OpC (P : Program) (w0 : World) (o : Oper) (a : Act) (A : St) (v : Value) : Prop :=
  match o.op with
  | .call { callee := .value f, args, argTypes := _ } => (okO f && args.all okO) = true ∧ ACallV P w0 (a.eval f) (args.map a.eval) A (fin v A)
  | .panic _ => False
  | .defer _ => False
  | op => aop P op a.eval A = some (v, A)

section
variable {P : Program} {w0 : World} {o : Oper} {a a' : Act} {A : St} {v : Value} {K : Act → St → Prop}
theorem stepC_opC (h : stepC P w0 o K a A) : ∃ v, OpC P w0 o a A v ∧ K (a.put o.dst v) A := by
  obtain ⟨d, op, ty, pos, aft, g⟩ := o
  unfold stepC at h
  unfold OpC
  split at h
  · rename_i f args ts ho
    obtain ⟨h1, v, h2, h3⟩ := h
    simp only at ho
    subst ho
    exact ⟨v, ⟨h1, h2⟩, h3⟩
  · exact h.elim
  · exact h.elim
  · rename_i h1 h2 h3
    simp only at h1 h2 h3
    unfold aoper at h
    split at h
    · rename_i f args ts ho; exact absurd ho (h1 f args ts)
    · rename_i x ho; exact absurd ho (h2 x)
    · rename_i f args ts ho; exact absurd ho (h3 _)
    · split at h
      · rename_i v A' e
        obtain ⟨rfl, hk⟩ := h
        refine ⟨v, ?_, hk⟩
        exact e
      · exact h.elim
theorem OpC.aoper (h : OpC P w0 o a A v) (nr : Bool) {next : Act → St → Prop} (Q : Exit → Act → St → Prop) (hn : next (a.put o.dst v) A) : aoper P w0 nr o a A next Q := by
  unfold OpC at h
  unfold Fw.aoper
  split at h
  · rename_i f args ts ho
    simp only [ho]
    refine ⟨h.1, ?_⟩
    have key : ∀ e A', fin v A e A' → afterCall o.dst a next Q e A' := by
      rintro e A' ⟨rfl, rfl⟩; exact hn
    have h2 := h.2
    unfold ACallV at h2 ⊢
    split at h2
    · exact h2.mono key
    · exact h2.mono key
    · exact h2.elim
  · exact h.elim
  · exact h.elim
  · rename_i h1 h2 h3
    split
    · rename_i f args ts ho; exact absurd ho (h1 f args ts)
    · rename_i x ho; exact absurd ho (h2 x)
    · rename_i f args ts ho; exact absurd ho (h3 _)
    · simp only [h]; exact hn

theorem aop0_congr {op : Op} {ρ ρ' : Operand → Value} (h : ∀ x ∈ op.operands, ρ x = ρ' x) : aop0 P op ρ A = aop0 P op ρ' A := by
  cases op with
  | move x => simp only [aop0]; rw [h x (by simp [Op.operands])]
  | assign x => simp only [aop0]; rw [h x (by simp [Op.operands])]
  | pick x y z => simp only [aop0]; rw [h x (by simp [Op.operands]), h y (by simp [Op.operands]), h z (by simp [Op.operands])]
  | alloc t => rfl
  | box t x => simp only [aop0]; rw [h x (by simp [Op.operands])]
  | build t ps =>
    simp only [aop0]
    rw [Array.map_congr_left (g := fun (i, x) => (i, ρ' x)) fun p hp => by
      obtain ⟨i, x⟩ := p
      simp only [Prod.mk.injEq, true_and]
      exact h x (by simp only [Op.operands, List.mem_toArray, List.mem_map, Array.mem_toList_iff]; exact ⟨_, hp, rfl⟩)]
  | buildSlice t n ps =>
    simp only [aop0]
    rw [Array.map_congr_left (g := fun (i, x) => (i, ρ' x)) fun p hp => by
      obtain ⟨i, x⟩ := p
      simp only [Prod.mk.injEq, true_and]
      exact h x (by simp only [Op.operands, List.mem_toArray, List.mem_map, Array.mem_toList_iff]; exact ⟨_, hp, rfl⟩)]
  | load t x => simp only [aop0]; rw [h x (by simp [Op.operands])]
  | store t x y => simp only [aop0]; rw [h x (by simp [Op.operands]), h y (by simp [Op.operands])]
  | nilCheck x => simp only [aop0]; rw [h x (by simp [Op.operands])]
  | binOp op t x y yt => simp only [aop0]; rw [h x (by simp [Op.operands]), h y (by simp [Op.operands])]
  | unOp op t x => simp only [aop0]; rw [h x (by simp [Op.operands])]
  | convert s t x => simp only [aop0]; rw [h x (by simp [Op.operands])]
  | makeInterface t x => simp only [aop0]; rw [h x (by simp [Op.operands])]
  | makeFunc f x y =>
    simp only [aop0]
    rw [Array.map_congr_left (g := ρ') (xs := x) fun p hp => h p (by simp [Op.operands, hp]), Array.map_congr_left (g := ρ') (xs := y) fun p hp => h p (by simp [Op.operands, hp])]
  | makeSlice t x y => simp only [aop0]; rw [h x (by simp [Op.operands]), h y (by simp [Op.operands])]
  | slice t x l hi m =>
    simp only [aop0]
    have e1 : l.map ρ = l.map ρ' := by cases l with | none => rfl | some y => simp [h y (by simp [Op.operands])]
    have e2 : hi.map ρ = hi.map ρ' := by cases hi with | none => rfl | some y => simp [h y (by simp [Op.operands])]
    have e3 : m.map ρ = m.map ρ' := by cases m with | none => rfl | some y => simp [h y (by simp [Op.operands])]
    rw [h x (by simp [Op.operands]), e1, e2, e3]
  | fieldAddr t x f => simp only [aop0]; rw [h x (by simp [Op.operands])]
  | field t x f => simp only [aop0]; rw [h x (by simp [Op.operands])]
  | indexAddr t x y => simp only [aop0]; rw [h x (by simp [Op.operands]), h y (by simp [Op.operands])]
  | index t x y => simp only [aop0]; rw [h x (by simp [Op.operands]), h y (by simp [Op.operands])]
  | extract x i => simp only [aop0]; rw [h x (by simp [Op.operands])]
  | typeAssert x t u ok => simp only [aop0]; rw [h x (by simp [Op.operands])]
  | lookup t x y ok => simp only [aop0]; rw [h x (by simp [Op.operands]), h y (by simp [Op.operands])]
  | mapUpdate t x y z => simp only [aop0]; rw [h x (by simp [Op.operands]), h y (by simp [Op.operands]), h z (by simp [Op.operands])]
  | makeMap t r => cases r <;> rfl
  | call c =>
    obtain ⟨cl, args, ts⟩ := c
    cases cl with
    | builtin b =>
      simp only [aop0]
      rw [List.map_congr_left (g := ρ') fun p hp => h p (by simp [Op.operands, Call.operands]; exact Array.mem_toList_iff.1 hp)]
    | _ => rfl
  | _ => rfl
theorem OpC.congr (h : OpC P w0 o a A v) (he : ∀ x ∈ o.op.operands, a.eval x = a'.eval x) : OpC P w0 o a' A v := by
  unfold OpC at h ⊢
  split at h
  · rename_i f args ts ho
    simp only [ho] at he ⊢
    rw [← he f (by simp [Op.operands, Call.operands]), ← Array.map_congr_left (f := a.eval) (g := a'.eval) fun p hp => he p (by simp [Op.operands, Call.operands, hp])]
    exact h
  · exact h.elim
  · exact h.elim
  · unfold aop at h ⊢
    rw [← aop0_congr he]; exact h
end

/-! The order of a region. -/
def dIx (ops : Array Oper) (t : Nat) : Option Nat := (List.range ops.size).find? fun j => (ops[j]?).bind (·.dst) == some t
def hasE (o : Oper) (j : Nat) : Bool := o.after.any fun e => Region.binds .any e && e.on == j
/-- An edge that binds in the compiler's other order alone. -/
def isGcO (e : Edge) : Bool := match e.ground with | .gcOnly _ => true | _ => false
def gcFree (ops : Array Oper) (pre : List Nat) (k : Nat) : Bool := match ops[k]? with | none => false | some o => o.after.all fun e => !Region.binds .gc e || pre.contains e.on
/-- An order for the compiler's other edges. -/
def gcOrd (ops : Array Oper) : Nat → List Nat → List Nat
  | 0, acc => acc.reverse
  | n + 1, acc => match (List.range ops.size).find? fun k => !acc.contains k && gcFree ops acc k with | none => acc.reverse | some k => gcOrd ops n (k :: acc)
def gcChk (ops : Array Oper) : List Nat → List Nat → Bool
  | _, [] => true
  | pre, k :: r => gcFree ops pre k && gcChk ops (k :: pre) r
def gcOk (ops : Array Oper) : Bool := ops.all (fun o => o.after.all fun e => !isGcO e) || (gcChk ops [] (gcOrd ops ops.size []) && (List.range ops.size).all fun k => (gcOrd ops ops.size []).contains k)
def drawOk (ops : Array Oper) : Bool := gcOk ops && (List.range ops.size).all fun i =>
  match ops[i]? with
  | none => true
  | some o =>
    o.after.all (fun e => decide (e.on < i) || isGcO e) &&
    (match o.dst with | none => true | some t => dIx ops t == some i) &&
    (o.looksAt ops).all (fun t => match dIx ops t with | none => true | some j => j == i || hasE o j || match ops[j]? with | some oj => hasE oj i | none => true)
def env (ops : Array Oper) (vals : Nat → Value) (ρ : Nat → Value) (L : Nat → Bool) (t : Nat) : Value := match dIx ops t with | some j => if L j then vals j else ρ t | none => ρ t
def updO (ρ : Nat → Value) (d : Option Tmp) (v : Value) : Nat → Value := match d with | some t => upd ρ t v | none => ρ
theorem put_EO (n : Nat) (ρ : Nat → Value) (ds : List Deferred) (d : Option Tmp) (v : Value) : (E n ρ ds).put d v = E n (updO ρ d v) ds := by
  cases d with
  | none => rfl
  | some t => exact put_E ..

section
variable {ops : Array Oper} {vals ρ : Nat → Value}
theorem dIx_some {t j : Nat} (h : dIx ops t = some j) : ∃ o, ops[j]? = some o ∧ o.dst = some t := by
  have := List.find?_some h
  simp only [beq_iff_eq] at this
  cases ho : ops[j]? with
  | none => simp [ho] at this
  | some o => exact ⟨o, rfl, by simpa [ho] using this⟩
theorem drawOk_at (h : drawOk ops = true) {i : Nat} {o : Oper} (ho : ops[i]? = some o) :
    (∀ e ∈ o.after, Region.binds .any e = true → e.on < i) ∧ (∀ t, o.dst = some t → dIx ops t = some i) ∧ (∀ t ∈ o.looksAt ops, ∀ j, dIx ops t = some j → j = i ∨ hasE o j = true ∨ ∃ oj, ops[j]? = some oj ∧ hasE oj i = true) := by
  have hi : i < ops.size := (Array.getElem?_eq_some_iff.1 ho).1
  have h1 := List.all_eq_true.1 (Bool.and_eq_true_iff.1 h).2 i (List.mem_range.2 hi)
  simp only [ho, Bool.and_eq_true] at h1
  obtain ⟨⟨h1, h2⟩, h3⟩ := h1
  refine ⟨fun e he hb => ?_, fun t ht => ?_, fun t ht j hj => ?_⟩
  · have := Array.all_eq_true'.1 h1 e he
    simp only [Bool.or_eq_true, decide_eq_true_eq] at this
    rcases this with h | h
    · exact h
    · unfold isGcO at h
      unfold Region.binds at hb
      split at h
      · rename_i hg; rw [hg] at hb; cases hb
      · simp at h
  · rw [ht] at h2; simpa using h2
  · have := List.all_eq_true.1 h3 t ht
    rw [hj] at this
    simp only [Bool.or_eq_true, beq_iff_eq] at this
    rcases this with (h | h) | h
    · exact .inl h
    · exact .inr (.inl h)
    · obtain ⟨oj, hoj, _⟩ := dIx_some hj
      rw [hoj] at h
      exact .inr (.inr ⟨oj, hoj, h⟩)
theorem env_add (h : drawOk ops = true) {i : Nat} {o : Oper} (ho : ops[i]? = some o) (L : Nat → Bool) : env ops vals ρ (fun j => j == i || L j) = updO (env ops vals ρ L) o.dst (vals i) := by
  funext t
  have hd := (drawOk_at h ho).2.1
  cases hod : o.dst with
  | none =>
    simp only [updO, env]
    cases hx : dIx ops t with
    | none => rfl
    | some j =>
      obtain ⟨oj, hoj, hjd⟩ := dIx_some hx
      have : j ≠ i := by rintro rfl; rw [ho] at hoj; cases hoj; rw [hod] at hjd; cases hjd
      simp [this]
  | some t' =>
    simp only [updO, upd]
    by_cases ht : t = t'
    · subst ht
      rw [if_pos rfl, env, hd t hod]; simp
    · rw [if_neg ht]
      simp only [env]
      cases hx : dIx ops t with
      | none => rfl
      | some j =>
        obtain ⟨oj, hoj, hjd⟩ := dIx_some hx
        have : j ≠ i := by rintro rfl; rw [ho] at hoj; cases hoj; rw [hod] at hjd; cases hjd; exact ht rfl
        simp [this]
def below (i : Nat) (j : Nat) : Bool := decide (j < i)
theorem env_zero : env ops vals ρ (below 0) = ρ := by
  funext t; unfold env below; split <;> simp
theorem below_succ (i : Nat) : below (i + 1) = fun j => j == i || below i j := by
  funext j; unfold below
  by_cases h : j = i
  · subst h; simp
  · simp only [beq_iff_eq, h, Bool.false_or, beq_eq_false_iff_ne.2 h]
    by_cases h2 : j < i
    · simp [h2]; omega
    · simp [h2]; omega
/-- What an operation sees, at its turn in any order, is what it sees in the text's order. -/
theorem env_sees (h : drawOk ops = true) {i : Nat} {o : Oper} (ho : ops[i]? = some o) {L : Nat → Bool} (hi : L i = false) (hpre : ∀ e ∈ o.after, Region.binds .any e = true → L e.on = true)
    (hcl : ∀ j oj, L j = true → ops[j]? = some oj → ∀ e ∈ oj.after, Region.binds .any e = true → L e.on = true) {t : Nat} (ht : t ∈ o.looksAt ops) : env ops vals ρ (below i) t = env ops vals ρ L t := by
  unfold env
  cases hx : dIx ops t with
  | none => rfl
  | some j =>
    obtain ⟨h1, h2, h3⟩ := drawOk_at h ho
    have hE : ∀ {o : Oper} {k : Nat}, hasE o k = true → ∃ e ∈ o.after, Region.binds .any e = true ∧ e.on = k := by
      intro o k h
      unfold hasE at h
      rw [Array.any_eq_true'] at h
      obtain ⟨e, he, hb⟩ := h
      simp only [Bool.and_eq_true, beq_iff_eq] at hb
      exact ⟨e, he, hb.1, hb.2⟩
    have : below i j = L j := by
      rcases h3 t ht j hx with rfl | h4 | ⟨oj, hoj, h4⟩
      · rw [hi]; simp [below]
      · obtain ⟨e, he, hb, rfl⟩ := hE h4
        rw [hpre e he hb]; simp [below, h1 e he hb]
      · obtain ⟨e, he, hb, hon⟩ := hE h4
        have hlt := (drawOk_at h hoj).1 e he hb
        have : L j = false := by
          cases hj : L j with
          | false => rfl
          | true => have := hcl j oj hj hoj e he hb; rw [hon, hi] at this; cases this
        rw [this]; simp [below]; omega
    simp only [this]
end

section
variable {P : Program} {w0 : World} {n0 n : Nat} {nr : Bool} {Q : Exit → Act → St → Prop} {A : St} {ops : Array Oper} {ρ : Nat → Value} {ds : List Deferred}
def StepC (P : Program) (w0 : World) (dst : List (Option Tmp)) (o : Oper) (a : Act) (A : St) (v : Value) : Prop := (wanted' dst o.guard a.tmps = true ∧ OpC P w0 o a A v) ∨ (wanted' dst o.guard a.tmps = false ∧ v = undef)

theorem aopsC_vals (hok : drawOk ops = true) : ∀ (m i : Nat), i + m = ops.size → ∀ {vals0 : Nat → Value}, aopsC P w0 (ops.toList.map (·.dst)) Q (ops.toList.drop i) (E n (env ops vals0 ρ (below i)) ds) A →
    ∃ vals : Nat → Value, (∀ j, j < i → vals j = vals0 j) ∧ (∀ j o, i ≤ j → ops[j]? = some o → StepC P w0 (ops.toList.map (·.dst)) o (E n (env ops vals ρ (below j)) ds) A (vals j)) ∧ Q .normal (E n (env ops vals ρ (below ops.size)) ds) A
  | 0, i, hi, vals0, h => by
    rw [List.drop_of_length_le (by simp; omega)] at h
    refine ⟨vals0, fun _ _ => rfl, fun j o hj ho => ?_, ?_⟩
    · have := (Array.getElem?_eq_some_iff.1 ho).1; omega
    · have : i = ops.size := by omega
      subst this; exact h
  | m + 1, i, hi, vals0, h => by
    have hlt : i < ops.size := by omega
    have hoi : ops[i]? = some ops[i] := Array.getElem?_eq_getElem hlt
    rw [List.drop_eq_getElem_cons (by simpa using hlt)] at h
    simp only [Array.getElem_toList] at h
    have henv : ∀ (vals : Nat → Value), (∀ j, j < i → vals j = vals0 j) → env ops vals ρ (below i) = env ops vals0 ρ (below i) := by
      intro vals hv
      funext t
      unfold env
      split
      · rename_i j hj
        by_cases hji : j < i
        · simp [below, hji, hv j hji]
        · simp [below, hji]
      · rfl
    have go : ∀ v, StepC P w0 (ops.toList.map (·.dst)) ops[i] (E n (env ops vals0 ρ (below i)) ds) A v → aopsC P w0 (ops.toList.map (·.dst)) Q (ops.toList.drop (i + 1)) ((E n (env ops vals0 ρ (below i)) ds).put ops[i].dst v) A →
        ∃ vals : Nat → Value, (∀ j, j < i → vals j = vals0 j) ∧ (∀ j o, i ≤ j → ops[j]? = some o → StepC P w0 (ops.toList.map (·.dst)) o (E n (env ops vals ρ (below j)) ds) A (vals j)) ∧ Q .normal (E n (env ops vals ρ (below ops.size)) ds) A := by
      intro v hs hk
      obtain ⟨vals1, hv1⟩ : ∃ vals1 : Nat → Value, vals1 = fun j => if j = i then v else vals0 j := ⟨_, rfl⟩
      have e1 : env ops vals1 ρ (below i) = env ops vals0 ρ (below i) := henv _ fun j hj => by rw [hv1]; exact if_neg (by omega)
      have e2 : (E n (env ops vals0 ρ (below i)) ds).put ops[i].dst v = E n (env ops vals1 ρ (below (i + 1))) ds := by
        rw [below_succ, env_add hok hoi, put_EO, e1, hv1]; simp
      rw [e2] at hk
      obtain ⟨vals, q1, q2, q3⟩ := aopsC_vals hok m (i + 1) (by omega) hk
      refine ⟨vals, fun j hj => ?_, fun j o hj ho => ?_, q3⟩
      · rw [q1 j (by omega), hv1]; exact if_neg (by omega)
      · by_cases hji : j = i
        · subst hji
          rw [hoi] at ho; cases ho
          rw [henv vals fun k hk => by rw [q1 k (by omega), hv1]; exact if_neg (by omega)]
          rw [q1 j (by omega), hv1]
          simpa using hs
        · exact q2 j o (by omega) ho
    rw [aopsC_cons] at h
    cases hw : wanted' (ops.toList.map (·.dst)) ops[i].guard (E n (env ops vals0 ρ (below i)) ds).tmps with
    | true =>
      rw [hw, ifB_true] at h
      obtain ⟨v, h1, h2⟩ := stepC_opC h
      exact go v (.inl ⟨hw, h1⟩) h2
    | false =>
      rw [hw, ifB_false, skipC_eq] at h
      exact go undef (.inr ⟨hw, rfl⟩) h

theorem binds_any {md : Region.Mode} {e : Edge} (h : Region.binds .any e = true) : Region.binds md e = true := by
  unfold Region.binds at *
  split at h
  · simp at h
  · simp at h
  · rfl

theorem StepC.at {o : Oper} {v : Value} {ρ1 ρ2 : Nat → Value} (h : StepC P w0 (ops.toList.map (·.dst)) o (E n ρ1 ds) A v) (he : ∀ t ∈ o.looksAt ops, ρ1 t = ρ2 t) : StepC P w0 (ops.toList.map (·.dst)) o (E n ρ2 ds) A v := by
  have hw : wanted' (ops.toList.map (·.dst)) o.guard (E n ρ1 ds).tmps = wanted' (ops.toList.map (·.dst)) o.guard (E n ρ2 ds).tmps := by
    cases hg : o.guard with
    | none => rfl
    | some x =>
      obtain ⟨j, b⟩ := x
      rw [wanted_some, wanted_some]
      congr 2
      cases hd0 : (ops.toList.map (·.dst))[j]? with
      | none => rfl
      | some o0 =>
      cases o0 with
      | none => rfl
      | some t =>
        simp only [lookT, E_tmps, tm_get?]
        rw [he t]
        have hd' : (ops[j]?).bind (·.dst) = some t := by
          rw [List.getElem?_map, Array.getElem?_toList] at hd0
          cases hj : ops[j]? with
          | none => rw [hj] at hd0; cases hd0
          | some oj => rw [hj] at hd0; simp only [Option.map_some, Option.some.injEq] at hd0; exact hd0
        unfold Oper.looksAt
        rw [hg]
        exact List.mem_append_right _ (by simp [hd'])
  unfold StepC at h ⊢
  rw [← hw]
  rcases h with ⟨h1, h2⟩ | h
  · refine .inl ⟨h1, h2.congr fun x hx => ?_⟩
    cases x with
    | tmp t =>
      rw [eval_tmp, eval_tmp, rd, rd, he t]
      unfold Oper.looksAt
      exact List.mem_append_left _ (List.mem_filterMap.2 ⟨.tmp t, by simpa using hx, rfl⟩)
    | _ => rfl
  · exact .inr h

theorem not_stuck {md : Region.Mode} (hok : drawOk ops = true) {listed : Array Bool} (hs : listed.size = ops.size) {j : Nat} (hj : j < ops.size) (hb : listed.getD j false = false) (hlow : ∀ k, k < j → listed.getD k false = true) (hnil : Region.ready md ops listed = []) : False := by
  have off : ∀ k, k < ops.size → listed.getD k false = false → listed.getD k true = false := fun k hk h => by
    have hk' : k < listed.size := by omega
    have h1 : listed.getD k false = listed[k] := by simp [Array.getD, hk']
    have h2 : listed.getD k true = listed[k] := by simp [Array.getD, hk']
    rw [h2, ← h1]; exact h
  have no : ∀ k, k ∉ Region.ready md ops listed := fun k h => by rw [hnil] at h; cases h
  by_cases hall : ∀ e ∈ ops[j].after, Region.binds md e = true → listed.getD e.on false = true
  · exact no j (mem_ready.2 ⟨off j hj hb, ops[j], Array.getElem?_eq_getElem hj, hall⟩)
  · simp only [Classical.not_forall] at hall
    obtain ⟨e, he, hbe, hl⟩ := hall
    have hl' : listed.getD e.on false = false := by simpa using hl
    have hge : ¬ e.on < j := fun h => by rw [hlow _ h] at hl'; cases hl'
    obtain ⟨hgc, hok'⟩ := Bool.and_eq_true_iff.1 hok
    have h1 := List.all_eq_true.1 hok' j (List.mem_range.2 hj)
    rw [Array.getElem?_eq_getElem hj] at h1
    simp only [Bool.and_eq_true] at h1
    have h2 := Array.all_eq_true'.1 h1.1.1 e he
    simp only [Bool.or_eq_true, decide_eq_true_eq, hge, false_or] at h2
    have hmd : md = .gc := by
      unfold isGcO at h2
      unfold Region.binds at hbe
      split at h2
      · rename_i hg; rw [hg] at hbe; simpa using hbe
      · simp at h2
    subst hmd
    unfold gcOk at hgc
    rcases Bool.or_eq_true_iff.1 hgc with hgc | hgc
    · have := Array.all_eq_true'.1 hgc ops[j] (Array.getElem_mem hj)
      have := Array.all_eq_true'.1 this e he
      rw [h2] at this; cases this
    · obtain ⟨hc, hin⟩ := Bool.and_eq_true_iff.1 hgc
      have hjin := List.all_eq_true.1 hin j (List.mem_range.2 hj)
      have key : ∀ (ord pre : List Nat), gcChk ops pre ord = true → (∀ k ∈ pre, listed.getD k false = true) → j ∈ ord → False := by
        intro ord
        induction ord with
        | nil => intro pre _ _ h; cases h
        | cons k r ih =>
          intro pre hck hpre hmem
          obtain ⟨hfr, hck'⟩ := Bool.and_eq_true_iff.1 hck
          unfold gcFree at hfr
          cases hok2 : ops[k]? with
          | none => rw [hok2] at hfr; cases hfr
          | some o =>
            rw [hok2] at hfr
            have hk := (Array.getElem?_eq_some_iff.1 hok2).1
            cases hlk : listed.getD k false with
            | false =>
              refine no k (mem_ready.2 ⟨off k hk hlk, o, hok2, fun e' he' hb' => ?_⟩)
              have := Array.all_eq_true'.1 hfr e' he'
              simp only [Bool.or_eq_true, hb', Bool.not_true, Bool.false_eq_true, false_or, List.contains_iff_mem] at this
              exact hpre _ this
            | true =>
              refine ih (k :: pre) hck' (fun q hq => ?_) ?_
              · rcases List.mem_cons.1 hq with rfl | hq
                · exact hlk
                · exact hpre q hq
              · rcases List.mem_cons.1 hmem with rfl | hmem
                · rw [hlk] at hb; cases hb
                · exact hmem
      exact key _ [] hc (fun k hk => by cases hk) (by simpa using hjin)

theorem draw_go {md : Region.Mode} {vals : Nat → Value} (hok : drawOk ops = true) (hv : ∀ j o, ops[j]? = some o → StepC P w0 (ops.toList.map (·.dst)) o (E n (env ops vals ρ (below j)) ds) A (vals j)) (hq : Q .normal (E n (env ops vals ρ (below ops.size)) ds) A) :
    ∀ (fuel t : Nat) (listed : Array Bool), listed.size = ops.size → listed.toList.count false ≤ fuel →
      (∀ j oj, listed.getD j false = true → ops[j]? = some oj → ∀ e ∈ oj.after, Region.binds .any e = true → listed.getD e.on false = true) →
      aopsI P w0 nr ops Q (Region.linearise.go md ops fuel t listed []) (E n (env ops vals ρ (fun j => listed.getD j false)) ds) A := by
  have finish : ∀ listed : Array Bool, listed.size = ops.size → (∀ j, j < ops.size → listed.getD j false = true) → Q .normal (E n (env ops vals ρ (fun j => listed.getD j false)) ds) A := by
    intro listed hs hall
    have : env ops vals ρ (fun j => listed.getD j false) = env ops vals ρ (below ops.size) := by
      funext t
      unfold env
      cases hx : dIx ops t with
      | none => rfl
      | some j =>
        obtain ⟨o, ho, _⟩ := dIx_some hx
        have hj := (Array.getElem?_eq_some_iff.1 ho).1
        simp only [hall j hj, below, hj, decide_true]
    rw [this]; exact hq
  intro fuel
  induction fuel with
  | zero =>
    intro t listed hs hc hcl
    simp only [Region.linearise.go, List.reverse_nil, aopsI]
    refine finish listed hs fun j hj => ?_
    have h0 : listed.toList.count false = 0 := by omega
    rw [List.count_eq_zero] at h0
    have hj' : j < listed.size := by omega
    cases hb : listed.getD j false with
    | true => rfl
    | false =>
      exfalso
      apply h0
      have : listed.getD j false = listed[j] := by simp [Array.getD, hj']
      rw [this] at hb
      rw [← hb]
      exact Array.getElem_mem_toList hj'
  | succ fuel ih =>
    intro t listed hs hc hcl
    simp only [Region.linearise.go]
    change aopsI P w0 nr ops Q (match (Region.ready md ops listed)[t % (Region.ready md ops listed).length]? with
      | some i => Region.linearise.go md ops fuel (t / (Region.ready md ops listed).length) (listed.setIfInBounds i true) [i]
      | none => [].reverse) _ A
    cases hi : (Region.ready md ops listed)[t % (Region.ready md ops listed).length]? with
    | none =>
      have hnil : Region.ready md ops listed = [] := by
        cases hr : Region.ready md ops listed with
        | nil => rfl
        | cons x xs =>
          rw [hr] at hi
          have hlt : t % (x :: xs).length < (x :: xs).length := Nat.mod_lt _ (by simp)
          rw [List.getElem?_eq_none_iff] at hi
          omega
      simp only [List.reverse_nil, aopsI]
      refine finish listed hs fun j => ?_
      induction j using Nat.strongRecOn with
      | _ j ihj =>
        intro hj
        cases hb : listed.getD j false with
        | true => rfl
        | false =>
          exfalso
          exact not_stuck hok hs hj hb (fun k hk => ihj k hk (by omega)) hnil
    | some i =>
      simp only []
      rw [linearise_go_acc, List.reverse_singleton, List.singleton_append]
      have hmem := mem_ready.1 (List.mem_of_getElem? hi)
      obtain ⟨hun, o, ho, hpre⟩ := hmem
      have hilt : i < ops.size := (Array.getElem?_eq_some_iff.1 ho).1
      have hil : i < listed.size := by omega
      have hif : listed.getD i false = false := by
        have h1 : listed.getD i false = listed[i] := by simp [Array.getD, hil]
        have h2 : listed.getD i true = listed[i] := by simp [Array.getD, hil]
        rw [h1, ← h2]; exact hun
      have hset : (fun j => (listed.setIfInBounds i true).getD j false) = fun j => j == i || listed.getD j false := by
        funext j
        by_cases hji : j = i
        · subst hji; simp [Array.getD, hil]
        · rw [getD_set_ne false (Ne.symm hji)]; simp [hji]
      have hstep := (hv i o ho).at (ρ2 := env ops vals ρ (fun j => listed.getD j false)) fun u hu => env_sees hok ho hif (fun e he hb => hpre e he (binds_any hb)) hcl hu
      have hnext := ih (t / (Region.ready md ops listed).length) (listed.setIfInBounds i true) (by simpa using hs) (by
          have h1 : listed.toList.count false = (listed.toList.set i true).count false + 1 := by
            have hpos : 0 < listed.toList.count false := by
              rw [List.count_pos_iff]
              have h1 : listed.getD i false = listed[i] := by simp [Array.getD, hil]
              rw [← hif, h1]
              exact Array.getElem_mem_toList hil
            have h3 : listed[i] = false := by
              have h1 : listed.getD i false = listed[i] := by simp [Array.getD, hil]
              rw [← h1]; exact hif
            rw [List.count_set (by simpa using hil)]
            have h4 : listed.toList[i]'(by simpa using hil) = false := by rw [Array.getElem_toList]; exact h3
            rw [h4, if_pos (by decide), if_neg (by decide)]
            omega
          rw [Array.toList_setIfInBounds]
          omega) (fun j oj hj hoj e he hb => by
          by_cases hji : j = i
          · subst hji
            rw [ho] at hoj; cases hoj
            exact getD_set_true (hpre e he (binds_any hb))
          · rw [getD_set_ne false (Ne.symm hji)] at hj
            exact getD_set_true (hcl j oj hj hoj e he hb))
      rw [hset, env_add hok ho] at hnext
      simp only [aopsI, ho]
      rw [wanted_eq]
      rcases hstep with ⟨h1, h2⟩ | ⟨h1, h2⟩
      · rw [if_pos h1]
        exact h2.aoper nr Q (by rw [put_EO]; exact hnext)
      · rw [if_neg (by rw [h1]; decide), put_EO]
        rw [h2] at hnext
        exact hnext

/-- **A drawn region** whose operations leave the heap as it is: walked as the text has it. -/
theorem aw_draw {id : Nat} (hok : drawOk ops = true) (h : aopsC P w0 (ops.toList.map (·.dst)) Q ops.toList (E n ρ ds) A) : AW P w0 n0 nr (.region id ops true) Q (E n ρ ds) A := by
  refine aw_region_draw fun t => ?_
  obtain ⟨vals, _, h2, h3⟩ := aopsC_vals (vals0 := fun _ => undef) (ρ := ρ) (n := n) (ds := ds) hok ops.size 0 (by omega) (by rw [env_zero, List.drop_zero]; exact h)
  have key : ∀ (md : Region.Mode) (t : Nat), aopsI P w0 nr ops Q (Region.linearise md ops t) (E n ρ ds) A := by
    intro md t
    have := draw_go (nr := nr) (md := md) hok (fun j o ho => h2 j o (Nat.zero_le _) ho) h3 ops.size t (Array.replicate ops.size false) (by simp) (by simp) (fun j oj hj => by simp [Array.getElem?_replicate] at hj; split at hj <;> simp at hj)
    have he : env ops vals ρ (fun j => (Array.replicate ops.size false).getD j false) = ρ := by
      funext u
      unfold env
      split
      · rename_i j hj
        simp [Array.getElem?_replicate]
        intro h; split at h <;> simp at h
      · rfl
    rw [he] at this
    exact this
  unfold Region.schedule
  split
  · exact key _ _
  · exact key _ _
end
end Go.Fw


/-! Bytes as lists of numbers; a few laws on the bits of numbers. -/
set_option linter.unusedSimpArgs false
set_option linter.unusedVariables false
namespace Go.Fw
open Go.RowKit

/-- A text's bytes as numbers. -/
def nums (s : ByteArray) : List Int := s.data.toList.map fun b => (b.toNat : Int)
def Byte (x : Int) : Prop := 0 ≤ x ∧ x < 256
theorem nums_length (s : ByteArray) : (nums s).length = s.size := by
  simp only [nums, List.length_map, Array.length_toList]; rfl
theorem nums_byte (s : ByteArray) : ∀ x ∈ nums s, Byte x := by
  intro x hx
  simp only [nums, List.mem_map] at hx
  obtain ⟨b, _, rfl⟩ := hx
  have := b.toNat_lt
  exact ⟨by omega, by omega⟩
theorem nums_str {l : List Int} (h : ∀ x ∈ l, Byte x) : nums (strOfNums l) = l := by
  simp only [nums, strOfNums_data, List.map_map]
  conv => rhs; rw [← List.map_id l]
  apply List.map_congr_left
  intro x hx
  have := h x hx
  simp only [Function.comp, id, UInt8.toNat_ofNat']
  have h1 := this.1
  have h2 := this.2
  omega
theorem str_nums (s : ByteArray) : strOfNums (nums s) = s := by
  apply ByteArray.ext
  apply Array.ext'
  rw [strOfNums_data]
  simp only [nums, List.map_map]
  conv => rhs; rw [← List.map_id s.data.toList]
  apply List.map_congr_left
  intro x hx
  simp
theorem nums_inj {s t : ByteArray} (h : nums s = nums t) : s = t := by rw [← str_nums s, h, str_nums]
theorem nums_append (s t : ByteArray) : nums (s ++ t) = nums s ++ nums t := by
  simp [nums, ByteArray.data_append]
theorem str_append (l m : List Int) : strOfNums l ++ strOfNums m = strOfNums (l ++ m) := by
  apply ByteArray.ext
  apply Array.ext'
  simp [ByteArray.data_append, strOfNums]
theorem nums_extract (s : ByteArray) (i j : Nat) : nums (s.extract i j) = ((nums s).drop i).take (j - i) := by
  simp [nums, ByteArray.data_extract, List.map_drop, List.map_take, Array.toList_extract]
theorem str_size (l : List Int) : (strOfNums l).size = l.length := strOfNums_size l
theorem str_nil : strOfNums [] = ByteArray.empty := rfl
theorem sbt_nums (s : ByteArray) (i : Nat) (h : i < s.size) : (nums s)[i]? = some (sbt s i) := by
  simp only [nums, List.getElem?_map, sbt, dif_pos h]
  have h' : i < s.data.size := h
  rw [Array.getElem?_toList, Array.getElem?_eq_getElem h']; rfl
theorem sbt_byte (s : ByteArray) (i : Nat) : Byte (sbt s i) := by
  unfold sbt Byte
  split
  · have := (s[i]).toNat_lt; omega
  · omega
theorem sbt_drop (s : ByteArray) (i : Nat) (h : i < s.size) : (nums s).drop i = sbt s i :: (nums s).drop (i + 1) := by
  have h1 : i < (nums s).length := by rw [nums_length]; exact h
  rw [List.drop_eq_getElem_cons h1]
  have := sbt_nums s i h
  rw [List.getElem?_eq_getElem h1, Option.some.injEq] at this
  rw [this]
theorem beqBytes (s t : ByteArray) : (s == t) = decide (s = t) := by
  rw [beq_toListBytes]
  by_cases h : s = t
  · subst h; simp
  · have : s.toList ≠ t.toList := fun e => h (by
      simp only [ByteArray.toList_eq] at e
      exact ByteArray.ext (Array.ext' e))
    simp [h, this]
theorem textC_some {A : St} {cs : List Value} {e : TypeId} {m : Option Nat} {off n : Nat} {l : List Int} (h : off + n ≤ cs.length) (hl : (cs.drop off).take n = l.map (.int .u8 ·)) : textC A (some (.cells cs e m)) off n = some (.string (strOfNums l), A) := by
  simp [textC, h, hl, intsOf_map]

/-! Bits. -/
theorem bv_toNat (w : Nat) (a : Int) (h0 : 0 ≤ a) (h1 : a < 2 ^ w) : (BitVec.ofInt w a).toNat = a.toNat := by
  obtain ⟨n, rfl⟩ := Int.eq_ofNat_of_zero_le h0
  have : (n : Int) < ((2 ^ w : Nat) : Int) := by simpa using h1
  simp [BitVec.toNat_ofInt]
  norm_cast
  rw [Nat.mod_eq_of_lt (by omega)]
def Within (k : IntKind) (x : Int) : Prop := 0 ≤ x ∧ x < 2 ^ k.bits
theorem wrap_nat (k : IntKind) (hk : k.signed = false) (x : Nat) (h : x < 2 ^ k.bits) : k.wrap (x : Int) = x := by
  have : (x : Int) < ((2 ^ k.bits : Nat) : Int) := by exact_mod_cast h
  simp only [IntKind.wrap, hk, Bool.false_and, Bool.false_eq_true, if_false]
  rw [Int.emod_eq_of_lt (by omega) (by simpa using this)]
theorem bits_and (k : IntKind) (hk : k.signed = false) (a b : Nat) (ha : a < 2 ^ k.bits) (hb : b < 2 ^ k.bits) : ibits .and k a b = ((a &&& b : Nat) : Int) := by
  simp only [ibits]
  have h1 := bv_toNat k.bits a (by omega) (by exact_mod_cast ha)
  have h2 := bv_toNat k.bits b (by omega) (by exact_mod_cast hb)
  simp only [BitVec.toNat_and, h1, h2, Int.toNat_natCast]
  exact wrap_nat k hk _ (Nat.and_lt_two_pow _ hb)
theorem bits_or (k : IntKind) (hk : k.signed = false) (a b : Nat) (ha : a < 2 ^ k.bits) (hb : b < 2 ^ k.bits) : ibits .or k a b = ((a ||| b : Nat) : Int) := by
  simp only [ibits]
  have h1 := bv_toNat k.bits a (by omega) (by exact_mod_cast ha)
  have h2 := bv_toNat k.bits b (by omega) (by exact_mod_cast hb)
  simp only [BitVec.toNat_or, h1, h2, Int.toNat_natCast]
  exact wrap_nat k hk _ (Nat.or_lt_two_pow ha hb)
/-- The lowest j bits. -/
theorem and_mask (k : IntKind) (hk : k.signed = false) (a : Int) (j : Nat) (ha : Within k a) (hj : j ≤ k.bits) : ibits .and k a (2 ^ j - 1) = a % 2 ^ j := by
  obtain ⟨ha0, ha1⟩ := ha
  obtain ⟨n, rfl⟩ := Int.eq_ofNat_of_zero_le ha0
  have hp : 0 < 2 ^ j := Nat.two_pow_pos j
  have hm : ((2 : Int) ^ j - 1) = ((2 ^ j - 1 : Nat) : Int) := by rw [Int.ofNat_sub (by omega)]; simp
  have h2 : 2 ^ j ≤ 2 ^ k.bits := Nat.pow_le_pow_right (by omega) hj
  rw [hm, bits_and k hk n _ (by exact_mod_cast ha1) (by omega), Nat.and_two_pow_sub_one_eq_mod]
  simp
/-- Bits that do not meet. -/
theorem or_add (k : IntKind) (hk : k.signed = false) (a b : Int) (j : Nat) (ha0 : 0 ≤ a) (ha : a < 2 ^ j) (hb0 : 0 ≤ b) (hb : b * 2 ^ j + a < 2 ^ k.bits) : ibits .or k a (b * 2 ^ j) = a + b * 2 ^ j := by
  obtain ⟨n, rfl⟩ := Int.eq_ofNat_of_zero_le ha0
  obtain ⟨m, rfl⟩ := Int.eq_ofNat_of_zero_le hb0
  have h1 : n < 2 ^ j := by exact_mod_cast ha
  have h2 : m * 2 ^ j + n < 2 ^ k.bits := by exact_mod_cast hb
  have hm : ((m : Int) * 2 ^ j) = ((m * 2 ^ j : Nat) : Int) := by simp
  rw [hm, bits_or k hk n _ (by omega) (by omega), Nat.or_comm]
  have := Nat.shiftLeft_add_eq_or_of_lt h1 m
  rw [Nat.shiftLeft_eq] at this
  rw [← this]
  push_cast
  omega
theorem ishl_eq (k : IntKind) (hk : k.signed = false) (a : Int) (j : Nat) (hj : j ≤ k.bits) (h0 : 0 ≤ a) (h : a * 2 ^ j < 2 ^ k.bits) : ishl k a j = a * 2 ^ j := by
  unfold ishl
  rw [Int.toNat_natCast, Nat.min_eq_left hj]
  obtain ⟨n, rfl⟩ := Int.eq_ofNat_of_zero_le h0
  have hm : ((n : Int) * 2 ^ j) = ((n * 2 ^ j : Nat) : Int) := by simp
  rw [hm]
  exact wrap_nat k hk _ (by exact_mod_cast h)
theorem ishr_eq (k : IntKind) (a : Int) (j : Nat) (hj : j ≤ k.bits) : ishr k a j = a / 2 ^ j := by
  unfold ishr
  rw [Int.toNat_natCast, Nat.min_eq_left hj, Int.fdiv_eq_ediv_of_nonneg _ (Int.pow_nonneg (by omega))]
end Go.Fw

/-! Rounds and ranges over functions in the walk's form; appending to rows of bytes. -/
set_option linter.unusedSimpArgs false
set_option linter.unusedVariables false
namespace Go.Fw
open Go.RowKit
section
variable {P : Program} {w0 : World} {n0 n : Nat} {ρ : Nat → Value} {ds : List Deferred} {A : St}

/-- The end of a round's assignments. -/
def asgQ (P : Program) (w0 : World) (n0 l : Nat) (body : Code) (R : Ending → St → Prop) (e : Exit) (a1 : Act) (A1 : St) : Prop :=
  e = .normal ∧ ∃ pe1 tm1 ps1 asg1 body1, A1.get l = some (.loop .ready pe1 tm1 ps1 asg1 body1) ∧ AW P w0 n0 false body (roundQ l R) a1 (A1.upd l (some (.loop .busy pe1 tm1 ps1 asg1 body1)))
theorem asgQ_of {l : Nat} {body : Code} {R : Ending → St → Prop} {a1 : Act} {A1 : St} {pe : Option Code} {tm1 : Array Value} {ps : Array Tmp} {asg1 body1 : Code} (hl : A1.get l = some (.loop .ready pe tm1 ps asg1 body1))
    (h : AW P w0 n0 false body (roundQ l R) a1 (A1.upd l (some (.loop .busy pe tm1 ps asg1 body1)))) : asgQ P w0 n0 l body R .normal a1 A1 := ⟨rfl, _, _, _, _, _, hl, h⟩
theorem ayield_E {l : Nat} {args : Array Value} {R : Ending → St → Prop} {pe : Option Code} {ps : Array Tmp} {asg body : Code} (ρ' : Nat → Value) (hl : A.get l = some (.loop .ready pe (tm n ρ) ps asg body)) (hsz : args.size = ps.size) (hs : setArgs (tm n ρ) ps args = tm n ρ')
    (h : wpA P w0 A.next false asg (asgQ P w0 A.next l body R) (E n ρ' []) A) : AYield P w0 l args A R :=
  ayield hl hsz (by rw [hs]; exact aw_of h)
theorem roundQ_normal {l : Nat} {R : Ending → St → Prop} {a : Act} {pe : Option Code} {tm1 : Array Value} {ps : Array Tmp} {asg body : Code} (hl : A.get l = some (.loop .busy pe tm1 ps asg body)) (h : R (.returned (.bool true)) (A.upd l (some (.loop .ready none tm1 ps asg body)))) : roundQ l R .normal a A := ⟨_, _, _, _, _, hl, h⟩
/-- The end of a call that is ranged over. -/
def rfQ (P : Program) (w0 : World) (n0 : Nat) (Q : Exit → Act → St → Prop) (a : Act) (D : Nat) (e : Ending) (A2 : St) : Prop :=
  ∃ v, e = .returned v ∧ ∃ st pe tm ps' asg' body', A2.get (D + 1) = some (.loop st pe tm ps' asg' body') ∧ st ≠ .busy ∧
    match pe with
    | none => Q .normal { a with defers := ⟨.collected D, #[]⟩ :: a.defers } (A2.upd (D + 1) (some (.loop .exhausted none tm ps' asg' body')))
    | some c => AW P w0 n0 true c Q { a with defers := ⟨.collected D, #[]⟩ :: a.defers } (A2.upd (D + 1) (some (.loop .exhausted (some c) tm ps' asg' body')))
theorem aw_rangeFunc_E {Q : Exit → Act → St → Prop} {g : Operand} {ps : Array Tmp} {asg body : Code} {gf : Nat} {fs cs : Array Value} (hg : (E n ρ ds).eval g = .func (.func gf) fs cs) (hgo : okO g = true)
    (h : ACalls P w0 gf (fs ++ #[.func (.yield (A.next + 1)) #[] #[]] ++ cs) ((A.alloc (.dfr false)).alloc (.loop .ready none (tm n ρ) ps asg body)) (rfQ P w0 n0 Q (E n ρ ds) A.next)) : AW P w0 n0 true (.rangeFunc g ps asg body) Q (E n ρ ds) A :=
  aw_rangeFunc hg hgo h
theorem rfQ_normal {Q : Exit → Act → St → Prop} {D : Nat} {v : Value} {st : LoopState} {tm1 : Array Value} {ps : Array Tmp} {asg body : Code} {A2 : St} (hl : A2.get (D + 1) = some (.loop st none tm1 ps asg body)) (hst : st ≠ .busy)
    (h : Q .normal (E n ρ (⟨.collected D, #[]⟩ :: ds)) (A2.upd (D + 1) (some (.loop .exhausted none tm1 ps asg body)))) : rfQ P w0 n0 Q (E n ρ ds) D (.returned v) A2 := ⟨v, rfl, _, _, _, _, _, _, hl, hst, h⟩
theorem gen_loop {f : Nat} {args : Array Value} {ps : Array Tmp} {asg body : Code} {R : Ending → St → Prop} (h : ∀ ρ' asg' body', ρ' = ρ → asg' = asg → body' = body → ACalls P w0 f args (A.alloc (.loop .ready none (tm n ρ') ps asg' body')) R) : ACalls P w0 f args (A.alloc (.loop .ready none (tm n ρ) ps asg body)) R := h _ _ _ rfl rfl rfl
theorem get_alloc_old {b : Nat} {B : Blk} (h : b < A.next) : (A.alloc B).get b = A.get b := by rw [St.get_alloc, if_neg (by omega)]
theorem get_alloc_new {b : Nat} {B : Blk} (h : b = A.next) : (A.alloc B).get b = some B := by rw [St.get_alloc, if_pos h]
theorem get_upd_old {b c : Nat} {B : Option Blk} (h : b ≠ c) : (A.upd c B).get b = A.get b := by rw [St.get_upd, if_neg h]
theorem natF_lt {a b : Nat} (h : a < b) : (a = b) = False := eq_false (by omega)
theorem natF_gt {a b : Nat} (h : b < a) : (a = b) = False := eq_false (by omega)

theorem dec_not (p : Prop) [Decidable p] : (!decide p) = decide (¬ p) := by simp
theorem mk_E : (Act.mk (tm n ρ) ds) = E n ρ ds := Eq.trans rfl rfl
/-! Rows. -/
theorem srcCells_slice {sz b off m c : Nat} {sp : Option Nat} {cs : List Value} {e : TypeId} {md : Option Nat} (hm : m ≠ 0) (hb : A.get b = some (.cells cs e md)) (hl : off + m * sz ≤ cs.length) : srcCells A sz (.slice (some ⟨b, off, sp⟩) m c) = some (m, (cs.drop off).take (m * sz)) := by
  simp [srcCells, hm, hb, hl]
theorem append_nil {sT xT e bs : Nat} {z x : Value} {m sz : Nat} {new : List Value} {ux : TypeDesc} (hel : telem P sT = some e) (hx : P.underlying xT = some ux) (hux : ∀ k, ux ≠ .int k) (hsz : tsz P e = some sz) (hb : tbytes P e = some bs) (hz : tzero P e = some z) (hzc : z.cells.size = sz) (hs0 : sz ≠ 0)
    (hsrc : srcCells A sz x = some (m, new)) (hm : 0 < m) (hlen : m * bs ≤ 140737488355328) (hcap : m ≤ 9223372036854775807) : aappend P A sT xT (.slice none 0 0) x = some (.slice (some ⟨A.next, 0, some sz⟩) m m, A.alloc (.cells new e (some 0))) := by
  have h1 : ¬ m ≤ 0 := by omega
  have h2 : ¬ (sz = 0 ∨ z.cells.size ≠ sz) := by omega
  unfold aappend
  cases ux with
  | int k => exact absurd rfl (hux k)
  | _ => simp only [hel, hx, hsz, hb, hz, hsrc, if_neg h2, Nat.zero_add, h1, if_false, hlen, hcap, and_self, if_true]
theorem append_own {sT xT e bs : Nat} {z x : Value} {m sz b len : Nat} {cs new : List Value} {ux : TypeDesc} (hel : telem P sT = some e) (hx : P.underlying xT = some ux) (hux : ∀ k, ux ≠ .int k) (hsz : tsz P e = some (sz + 1)) (hb : tbytes P e = some bs) (hz : tzero P e = some z) (hzc : z.cells.size = sz + 1)
    (hsrc : srcCells A (sz + 1) x = some (m, new)) (hm : 0 < m) (hlen : (len + m) * bs ≤ 140737488355328) (hcap : len + m ≤ 9223372036854775807) (hA : A.get b = some (.cells cs e (some 0))) (hcs : len * (sz + 1) ≤ cs.length) (hnew : new.all cell1 = true) :
    aappend P A sT xT (.slice (some ⟨b, 0, some (sz + 1)⟩) len len) x = some (.slice (some ⟨A.next, 0, some (sz + 1)⟩) (len + m) (len + m), (A.upd b none).alloc (.cells (cs.take (len * (sz + 1)) ++ new) e (some 0))) := by
  have h1 : ¬ len + m ≤ len := by omega
  have h2 : ¬ (sz + 1 = 0 ∨ z.cells.size ≠ sz + 1) := by omega
  unfold aappend
  cases ux with
  | int k => exact absurd rfl (hux k)
  | _ => simp only [hel, hx, hsz, hb, hz, hsrc, if_neg h2, h1, if_false, hlen, hcap, hA, hcs, hnew, and_self, if_true, Nat.zero_add, Nat.zero_le, List.drop_zero, Nat.sub_zero]
end

/-- A law over plain values: its walk ends in true. -/
theorem law_calls {P : Program} {f : Nat} {l : List Value} {w : World} (h : ∀ A : St, ACalls P w f l.toArray A (fin (.bool true) A)) (hl : l.all plainV = true) : Calls P f l.toArray w fun e w' => e = .returned (.bool true) ∧ Below w.heap.size w w' := by
  refine calls_of_law ((h St.empty).mono fun e A' h => h.1) ⟨rfl, fun i v v' h1 h2 => ?_⟩
  rw [h1] at h2
  cases h2
  refine VR.plain ?_
  rw [List.all_eq_true] at hl
  exact hl v (List.mem_of_getElem? (by simpa using h1))
end Go.Fw

/-! Drawn regions whose operations turn the heap from one told heap to the next: any order comes to the same. -/
set_option linter.unusedSimpArgs false
set_option linter.unusedVariables false
namespace Go.Fw
open Go.RowKit

/-- What an operation comes to, from one heap to another. -/
def OpT (P : Program) (w0 : World) (o : Oper) (a : Act) (A A' : St) (v : Value) : Prop :=
  match o.op with
  | .call { callee := .value f, args, argTypes := _ } => (okO f && args.all okO) = true ∧ ACallV P w0 (a.eval f) (args.map a.eval) A (fin v A')
  | .panic _ => False
  | .defer _ => False
  | op => aop P op a.eval A = some (v, A')
def to (A0 : St) (K : Act → St → Prop) (a : Act) (A : St) : Prop := A = A0 ∧ K a A
theorem to_same (A : St) (K : Act → St → Prop) (a : Act) : to A K a A = K a A := by simp [to]
/-- A step to a told heap. -/
def stepT (P : Program) (w0 : World) (o : Oper) (A' : St) (K : Act → St → Prop) (a : Act) (A : St) : Prop :=
  match o.op with
  | .call { callee := .value f, args, argTypes := _ } => callV (okO f && args.all okO) (∃ v, ACallV P w0 (a.eval f) (args.map a.eval) A (fin v A') ∧ K (a.put o.dst v) A')
  | .panic _ => False
  | .defer _ => False
  | _ => aoper P w0 true o a A (to A' K) noQ
section
variable {P : Program} {w0 : World} {o : Oper} {a a' : Act} {A A' : St} {v : Value} {K : Act → St → Prop}
theorem stepT_opT (h : stepT P w0 o A' K a A) : ∃ v, OpT P w0 o a A A' v ∧ K (a.put o.dst v) A' := by
  obtain ⟨d, op, ty, pos, aft, g⟩ := o
  unfold stepT at h
  unfold OpT
  split at h
  · rename_i f args ts ho
    obtain ⟨h1, v, h2, h3⟩ := h
    simp only at ho
    subst ho
    exact ⟨v, ⟨h1, h2⟩, h3⟩
  · exact h.elim
  · exact h.elim
  · rename_i h1 h2 h3
    simp only at h1 h2 h3
    unfold aoper at h
    split at h
    · rename_i f args ts ho; exact absurd ho (h1 f args ts)
    · rename_i x ho; exact absurd ho (h2 x)
    · rename_i f args ts ho; exact absurd ho (h3 _)
    · split at h
      · rename_i v A1 e
        obtain ⟨rfl, hk⟩ := h
        exact ⟨v, e, hk⟩
      · exact h.elim
theorem OpT.aoper (h : OpT P w0 o a A A' v) (nr : Bool) {next : Act → St → Prop} (Q : Exit → Act → St → Prop) (hn : next (a.put o.dst v) A') : aoper P w0 nr o a A next Q := by
  unfold OpT at h
  unfold Fw.aoper
  split at h
  · rename_i f args ts ho
    simp only [ho]
    refine ⟨h.1, ?_⟩
    have key : ∀ e A1, fin v A' e A1 → afterCall o.dst a next Q e A1 := by
      rintro e A1 ⟨rfl, rfl⟩; exact hn
    have h2 := h.2
    unfold ACallV at h2 ⊢
    split at h2
    · exact h2.mono key
    · exact h2.mono key
    · exact h2.elim
  · exact h.elim
  · exact h.elim
  · rename_i h1 h2 h3
    split
    · rename_i f args ts ho; exact absurd ho (h1 f args ts)
    · rename_i x ho; exact absurd ho (h2 x)
    · rename_i f args ts ho; exact absurd ho (h3 _)
    · simp only [h]; exact hn
theorem OpT.congr (h : OpT P w0 o a A A' v) (he : ∀ x ∈ o.op.operands, a.eval x = a'.eval x) : OpT P w0 o a' A A' v := by
  unfold OpT at h ⊢
  split at h
  · rename_i f args ts ho
    simp only [ho] at he ⊢
    rw [← he f (by simp [Op.operands, Call.operands]), ← Array.map_congr_left (f := a.eval) (g := a'.eval) fun p hp => he p (by simp [Op.operands, Call.operands, hp])]
    exact h
  · exact h.elim
  · exact h.elim
  · unfold aop at h ⊢
    rw [← aop0_congr he]; exact h
end

/-- Operations that look at no heap. -/
def pureOp : Op → Bool
  | .move _ | .assign _ | .pick _ _ _ | .nilCheck _ | .unOp _ _ _ | .makeInterface _ _ | .makeFunc _ _ _ | .slice _ _ _ _ _ | .fieldAddr _ _ _ | .field _ _ _ | .indexAddr _ _ _ | .index _ _ _ | .extract _ _ | .typeAssert _ _ _ _ | .build _ _ => true
  | .call { callee := .builtin .len, .. } => true
  | .binOp _ t _ _ _ => decide (t ≠ bptr)
  | _ => false
theorem mapA {x : Option Value} {A A' : St} {v : Value} (h : (x.map (·, A)) = some (v, A')) (B : St) : (x.map (·, B)) = some (v, B) := by
  cases x with
  | none => simp at h
  | some y => simp at h; simp [h.1]
theorem pure_any {P : Program} {op : Op} (hp : pureOp op = true) {ρ : Operand → Value} {A A' : St} {v : Value} (h : aop P op ρ A = some (v, A')) (B : St) : aop P op ρ B = some (v, B) := by
  unfold aop at h ⊢
  split at h
  · rename_i hall
    rw [if_pos hall]
    clear hall
    cases op with
    | move x => simp only [aop0] at h ⊢; simp at h; simp [h.1]
    | assign x => simp only [aop0] at h ⊢; simp at h; simp [h.1]
    | pick x y z =>
      simp only [aop0] at h ⊢
      split at h
      · simp at h; simp [h.1]
      · cases h
    | nilCheck x => exact mapA h B
    | binOp op t x y yt =>
      have ht : t ≠ bptr := of_decide_eq_true hp
      simp only [aop0, if_neg ht] at h ⊢
      exact mapA h B
    | unOp op t x => exact mapA h B
    | makeInterface t x => exact mapA h B
    | makeFunc f x y =>
      simp only [aop0] at h ⊢
      split at h
      · rename_i hf
        rw [if_pos hf]
        simp at h; simp [h.1]
      · cases h
    | slice t x l hi m => exact mapA h B
    | fieldAddr t x f => exact mapA h B
    | field t x f => exact mapA h B
    | indexAddr t x y => exact mapA h B
    | index t x y => exact mapA h B
    | extract x i => exact mapA h B
    | typeAssert x t u ok => exact mapA h B
    | build t ps => exact mapA h B
    | call c =>
      obtain ⟨cl, args, ts⟩ := c
      cases cl with
      | builtin b =>
        cases b with
        | len =>
          simp only [aop0, abuiltin] at h ⊢
          revert h
          generalize ts.toList = tl
          generalize List.map ρ args.toList = xl
          intro h
          match tl, xl, h with
          | [t], [x], h => exact mapA h B
        | _ => cases hp
      | _ => cases hp
    | _ => cases hp
  · cases h

/-- Further levels at which an operation comes to the same. -/
def allC (l : List Nat) (p : Nat → Prop) : Prop := match l with | [] => True | c :: r => p c ∧ allC r p
theorem allC_nil (p : Nat → Prop) : allC [] p = True := Eq.trans rfl rfl
theorem allC_cons (c : Nat) (r : List Nat) (p : Nat → Prop) : allC (c :: r) p = (p c ∧ allC r p) := Eq.trans rfl rfl
theorem allC_mem {p : Nat → Prop} : ∀ {l : List Nat}, allC l p → ∀ c ∈ l, p c
  | [], _, c, h => by cases h
  | x :: r, h, c, hc => by
    rcases List.mem_cons.1 hc with rfl | hc
    · exact h.1
    · exact allC_mem h.2 c hc
def hs (l : List St) (i : Nat) : St := l.getD i St.empty
theorem hs_zero (A : St) (l : List St) : hs (A :: l) 0 = A := Eq.trans rfl rfl
theorem hs_succ (A : St) (l : List St) (i : Nat) : hs (A :: l) (i + 1) = hs l i := Eq.trans rfl rfl
def sameA (a1 : Act) (a : Act) (_ : St) : Prop := a = a1
theorem sameA_eq (a1 a : Act) (A : St) : sameA a1 a A = (a = a1) := Eq.trans rfl rfl
/-- What is told of an operation's place: does it turn the heap; what comes before it; the levels at which it may run. -/
structure Cert where
  heavy : Bool
  anc : List Nat
  lev : List Nat
def lightK (P : Program) (w0 : World) (o : Oper) (H : List St) (a : Act) (lev : List Nat) (K : Act → St → Prop) (a1 : Act) (A : St) : Prop :=
  allC lev (fun c => stepT P w0 o (hs H c) (sameA a1) a (hs H c)) ∧ K a1 A
def stepX (P : Program) (w0 : World) (o : Oper) (c : Cert) (H : List St) (K : Act → St → Prop) (a : Act) (A : St) : Prop :=
  match c.lev with
  | [] => False
  | l :: ls => if c.heavy then ls = [] ∧ stepT P w0 o (hs H (l + 1)) K a (hs H l) else if pureOp o.op then stepT P w0 o (hs H l) K a (hs H l) else stepT P w0 o (hs H l) (lightK P w0 o H a ls K) a (hs H l)
def aopsX (P : Program) (w0 : World) (ds : List (Option Tmp)) (Q : Exit → Act → St → Prop) (H : List St) (n : Nat) : List Oper → List Cert → Act → St → Prop
  | [], _, a, _ => Q .normal a (hs H n)
  | _ :: _, [], _, _ => False
  | o :: rest, c :: cs, a, A => ifB (wanted' ds o.guard a.tmps) (stepX P w0 o c H (aopsX P w0 ds Q H n rest cs)) (skipC o (aopsX P w0 ds Q H n rest cs)) a A
theorem aopsX_nil (P : Program) (w0 : World) (ds : List (Option Tmp)) (Q : Exit → Act → St → Prop) (H : List St) (n : Nat) (cs : List Cert) (a : Act) (A : St) : aopsX P w0 ds Q H n [] cs a A = Q .normal a (hs H n) := Eq.trans rfl rfl
theorem aopsX_cons (P : Program) (w0 : World) (ds : List (Option Tmp)) (Q : Exit → Act → St → Prop) (H : List St) (n : Nat) (o : Oper) (rest : List Oper) (c : Cert) (cs : List Cert) (a : Act) (A : St) : aopsX P w0 ds Q H n (o :: rest) (c :: cs) a A = ifB (wanted' ds o.guard a.tmps) (stepX P w0 o c H (aopsX P w0 ds Q H n rest cs)) (skipC o (aopsX P w0 ds Q H n rest cs)) a A := Eq.trans rfl rfl
theorem stepX_heavy (P : Program) (w0 : World) (o : Oper) (anc : List Nat) (l : Nat) (H : List St) (K : Act → St → Prop) (a : Act) (A : St) : stepX P w0 o ⟨true, anc, [l]⟩ H K a A = stepT P w0 o (hs H (l + 1)) K a (hs H l) := by simp [stepX]
theorem stepX_light (P : Program) (w0 : World) (o : Oper) (anc : List Nat) (l : Nat) (ls : List Nat) (H : List St) (K : Act → St → Prop) (a : Act) (A : St) : stepX P w0 o ⟨false, anc, l :: ls⟩ H K a A = if pureOp o.op = true then stepT P w0 o (hs H l) K a (hs H l) else stepT P w0 o (hs H l) (lightK P w0 o H a ls K) a (hs H l) := by simp [stepX]
theorem lightK_eq (P : Program) (w0 : World) (o : Oper) (H : List St) (a : Act) (lev : List Nat) (K : Act → St → Prop) (a1 : Act) (A : St) : lightK P w0 o H a lev K a1 A = (allC lev (fun c => stepT P w0 o (hs H c) (sameA a1) a (hs H c)) ∧ K a1 A) := Eq.trans rfl rfl
end Go.Fw

/-! The rule of drawn regions with told heaps is sound. -/
set_option linter.unusedSimpArgs false
set_option linter.unusedVariables false
namespace Go.Fw
open Go.RowKit

def isH (cs : List Cert) (i : Nat) : Bool := match cs[i]? with | some c => c.heavy | none => false
def ancOf (cs : List Cert) (i : Nat) : List Nat := match cs[i]? with | some c => c.anc | none => []
def hvs (cs : List Cert) : List Nat := (List.range cs.length).filter (isH cs)
def loC (cs : List Cert) (i : Nat) : Nat := (hvs cs).countP fun j => (ancOf cs i).contains j
def hiC (cs : List Cert) (i : Nat) : Nat := (hvs cs).countP fun j => j != i && !(ancOf cs j).contains i
def certOk (ops : Array Oper) (cs : List Cert) (n : Nat) : Bool :=
  cs.length == ops.size && n == (hvs cs).length && (List.range ops.size).all fun i =>
    match ops[i]?, cs[i]? with
    | some o, some c =>
      c.anc.all (fun x => hasE o x || c.anc.any fun y => match ops[y]? with | some oy => hasE oy x | none => false) &&
      (List.range (hiC cs i + 1)).all (fun k => decide (k < loC cs i) || c.lev.contains k) &&
      (!c.heavy || (o.guard.isNone && loC cs i == hiC cs i && c.lev == [loC cs i]))
    | _, _ => false

section
variable {P : Program} {w0 : World} {n0 n N : Nat} {nr : Bool} {Q : Exit → Act → St → Prop} {ops : Array Oper} {cs : List Cert} {ρ : Nat → Value} {ds : List Deferred} {H : List St}

structure CertAt (ops : Array Oper) (cs : List Cert) (i : Nat) (o : Oper) (c : Cert) : Prop where
  anc : ∀ x ∈ c.anc, hasE o x = true ∨ ∃ y ∈ c.anc, ∃ oy, ops[y]? = some oy ∧ hasE oy x = true
  lev : ∀ k, loC cs i ≤ k → k ≤ hiC cs i → k ∈ c.lev
  heavy : c.heavy = true → o.guard = none ∧ loC cs i = hiC cs i ∧ c.lev = [loC cs i]
theorem certOk_at (h : certOk ops cs N = true) : cs.length = ops.size ∧ N = (hvs cs).length ∧ ∀ i o, ops[i]? = some o → ∃ c, cs[i]? = some c ∧ CertAt ops cs i o c := by
  unfold certOk at h
  simp only [Bool.and_eq_true, beq_iff_eq] at h
  obtain ⟨⟨h1, h2⟩, h3⟩ := h
  refine ⟨h1, h2, fun i o ho => ?_⟩
  have hi : i < ops.size := (Array.getElem?_eq_some_iff.1 ho).1
  have h4 := List.all_eq_true.1 h3 i (List.mem_range.2 hi)
  rw [ho] at h4
  cases hc : cs[i]? with
  | none => rw [hc] at h4; simp at h4
  | some c =>
    rw [hc] at h4
    simp only [Bool.and_eq_true] at h4
    obtain ⟨⟨h5, h6⟩, h7⟩ := h4
    refine ⟨c, rfl, ⟨fun x hx => ?_, fun k hk1 hk2 => ?_, fun hh => ?_⟩⟩
    · have := List.all_eq_true.1 h5 x hx
      simp only [Bool.or_eq_true, List.any_eq_true] at this
      rcases this with h | ⟨y, hy, h⟩
      · exact .inl h
      · cases hoy : ops[y]? with
        | none => rw [hoy] at h; cases h
        | some oy => rw [hoy] at h; exact .inr ⟨y, hy, oy, hoy, h⟩
    · have := List.all_eq_true.1 h6 k (List.mem_range.2 (by omega))
      simp only [Bool.or_eq_true, decide_eq_true_eq] at this
      rcases this with h | h
      · omega
      · simpa using h
    · rw [hh] at h7
      simp only [Bool.not_true, Bool.false_or, Bool.and_eq_true, beq_iff_eq, Option.isNone_iff_eq_none] at h7
      exact ⟨h7.1.1, h7.1.2, h7.2⟩

def Closed (ops : Array Oper) (L : Nat → Bool) : Prop := ∀ j oj, L j = true → ops[j]? = some oj → ∀ e ∈ oj.after, Region.binds .any e = true → L e.on = true
theorem hasE_mem {o : Oper} {k : Nat} (h : hasE o k = true) : ∃ e ∈ o.after, Region.binds .any e = true ∧ e.on = k := by
  unfold hasE at h
  rw [Array.any_eq_true'] at h
  obtain ⟨e, he, hb⟩ := h
  simp only [Bool.and_eq_true, beq_iff_eq] at hb
  exact ⟨e, he, hb.1, hb.2⟩
theorem anc_in (hok : drawOk ops = true) {i : Nat} {o : Oper} {c : Cert} (ho : ops[i]? = some o) (hc : CertAt ops cs i o c) {L : Nat → Bool} (hcl : Closed ops L) (hpre : ∀ e ∈ o.after, Region.binds .any e = true → L e.on = true) :
    ∀ (m x : Nat), ops.size - x ≤ m → x ∈ c.anc → L x = true := by
  intro m
  induction m with
  | zero =>
    intro x hm hx
    rcases hc.anc x hx with h | ⟨y, hy, oy, hoy, h⟩
    · obtain ⟨e, he, hb, rfl⟩ := hasE_mem h
      exact hpre e he hb
    · obtain ⟨e, he, hb, rfl⟩ := hasE_mem h
      have := (drawOk_at hok hoy).1 e he hb
      have := (Array.getElem?_eq_some_iff.1 hoy).1
      omega
  | succ m ih =>
    intro x hm hx
    rcases hc.anc x hx with h | ⟨y, hy, oy, hoy, h⟩
    · obtain ⟨e, he, hb, rfl⟩ := hasE_mem h
      exact hpre e he hb
    · obtain ⟨e, he, hb, rfl⟩ := hasE_mem h
      have h1 := (drawOk_at hok hoy).1 e he hb
      have h2 := (Array.getElem?_eq_some_iff.1 hoy).1
      exact hcl y oy (ih y (by omega) hy) hoy e he hb
def lvl (cs : List Cert) (L : Nat → Bool) : Nat := (hvs cs).countP L
theorem lvl_between (hok : drawOk ops = true) (hk : certOk ops cs N = true) {i : Nat} {o : Oper} {c : Cert} (ho : ops[i]? = some o) (hc : cs[i]? = some c) (hca : CertAt ops cs i o c) {L : Nat → Bool} (hcl : Closed ops L) (hi : L i = false) (hpre : ∀ e ∈ o.after, Region.binds .any e = true → L e.on = true) :
    loC cs i ≤ lvl cs L ∧ lvl cs L ≤ hiC cs i := by
  constructor
  · apply List.countP_mono_left
    intro j hj h
    have h1 : ancOf cs i = c.anc := by unfold ancOf; rw [hc]
    rw [h1] at h
    exact anc_in hok ho hca hcl hpre _ j (Nat.le_refl _) (by simpa using h)
  · apply List.countP_mono_left
    intro j hj h
    have hne : j ≠ i := by rintro rfl; rw [hi] at h; cases h
    simp only [Bool.and_eq_true, bne_iff_ne, ne_eq, Bool.not_eq_true']
    refine ⟨hne, ?_⟩
    cases hx : (ancOf cs j).contains i with
    | false => rfl
    | true =>
      exfalso
      cases hoj : ops[j]? with
      | none =>
        have hjl : j < cs.length := by
          have := List.mem_filter.1 hj
          exact List.mem_range.1 this.1
        have := (certOk_at hk).1
        rw [Array.getElem?_eq_none_iff] at hoj
        omega
      | some oj =>
        obtain ⟨cj, hcj, hcaj⟩ := (certOk_at hk).2.2 j oj hoj
        have h1 : ancOf cs j = cj.anc := by unfold ancOf; rw [hcj]
        rw [h1] at hx
        have := anc_in hok hoj hcaj hcl (fun e he hb => hcl j oj h hoj e he hb) _ i (Nat.le_refl _) (by simpa using hx)
        rw [hi] at this; cases this
theorem lvl_add {i : Nat} {L : Nat → Bool} (hi : L i = false) (hlt : i < cs.length) : lvl cs (fun j => j == i || L j) = lvl cs L + if isH cs i then 1 else 0 := by
  unfold lvl hvs
  have gen : ∀ (l : List Nat), l.Nodup → (l.filter (isH cs)).countP (fun j => j == i || L j) = (l.filter (isH cs)).countP L + if i ∈ l ∧ isH cs i = true then 1 else 0 := by
    intro l
    induction l with
    | nil => intro _; simp
    | cons x l ih =>
      intro hnd
      rw [List.nodup_cons] at hnd
      have ih := ih hnd.2
      by_cases hx : isH cs x = true
      · rw [List.filter_cons_of_pos hx, List.countP_cons, List.countP_cons, ih]
        by_cases hxi : x = i
        · subst hxi
          simp [hi, hx, hnd.1]
        · have : i ∈ x :: l ↔ i ∈ l := by simp [Ne.symm hxi]
          simp only [this, beq_iff_eq, hxi, Bool.or_eq_true, false_or]
          omega
      · rw [List.filter_cons_of_neg hx, ih]
        by_cases hxi : x = i
        · subst hxi
          simp [hx]
        · have : i ∈ x :: l ↔ i ∈ l := by simp [Ne.symm hxi]
          simp only [this]
  rw [gen _ List.nodup_range]
  simp [hlt]

/-- What an operation comes to at each level that it may meet. -/
def StepY (P : Program) (w0 : World) (dst : List (Option Tmp)) (cs : List Cert) (H : List St) (i : Nat) (o : Oper) (a : Act) (v : Value) : Prop :=
  (wanted' dst o.guard a.tmps = true ∧ ∀ c, loC cs i ≤ c → c ≤ hiC cs i → ∃ v', OpT P w0 o a (hs H c) (hs H (c + if isH cs i then 1 else 0)) v' ∧ a.put o.dst v' = a.put o.dst v) ∨ (wanted' dst o.guard a.tmps = false ∧ isH cs i = false ∧ v = undef)
theorem stepX_at {i : Nat} {o : Oper} {c : Cert} {K : Act → St → Prop} {a : Act} {A : St} (hc : cs[i]? = some c) (hca : CertAt ops cs i o c) (h : stepX P w0 o c H K a A) :
    ∃ v A1, (∀ k, loC cs i ≤ k → k ≤ hiC cs i → ∃ v', OpT P w0 o a (hs H k) (hs H (k + if isH cs i then 1 else 0)) v' ∧ a.put o.dst v' = a.put o.dst v) ∧ K (a.put o.dst v) A1 := by
  have hh : isH cs i = c.heavy := by unfold isH; rw [hc]
  rw [hh]
  unfold stepX at h
  split at h
  · exact h.elim
  · rename_i l ls hl
    cases hb : c.heavy with
    | true =>
      rw [hb, if_pos rfl] at h
      obtain ⟨h1, h2⟩ := h
      obtain ⟨g1, g2, g3⟩ := hca.heavy hb
      rw [hl, List.cons.injEq] at g3
      obtain ⟨v, h3, h4⟩ := stepT_opT h2
      refine ⟨v, _, fun k hk1 hk2 => ?_, h4⟩
      have : k = l := by omega
      subst this
      exact ⟨v, h3, rfl⟩
    | false =>
      rw [hb] at h
      simp only [Bool.false_eq_true, if_false, Nat.add_zero] at h ⊢
      split at h
      · rename_i hp
        obtain ⟨v, h3, h4⟩ := stepT_opT h
        refine ⟨v, _, fun k hk1 hk2 => ⟨v, ?_, rfl⟩, h4⟩
        unfold OpT at h3 ⊢
        split at h3
        · rename_i f args ts ho
          rw [ho] at hp; cases hp
        · exact h3.elim
        · exact h3.elim
        · exact pure_any hp h3 _
      · obtain ⟨v, h3, h4, h5⟩ := stepT_opT h
        refine ⟨v, _, fun k hk1 hk2 => ?_, h5⟩
        have hm := hca.lev k hk1 hk2
        rw [hl] at hm
        rcases List.mem_cons.1 hm with rfl | hm
        · exact ⟨v, h3, rfl⟩
        · obtain ⟨v', h6, h7⟩ := stepT_opT (allC_mem h4 k hm)
          exact ⟨v', h6, h7⟩

theorem aopsX_vals (hok : drawOk ops = true) (hk : certOk ops cs N = true) : ∀ (m i : Nat), i + m = ops.size → ∀ {vals0 : Nat → Value} {A : St}, aopsX P w0 (ops.toList.map (·.dst)) Q H N (ops.toList.drop i) (cs.drop i) (E n (env ops vals0 ρ (below i)) ds) A →
    ∃ vals : Nat → Value, (∀ j, j < i → vals j = vals0 j) ∧ (∀ j o, i ≤ j → ops[j]? = some o → StepY P w0 (ops.toList.map (·.dst)) cs H j o (E n (env ops vals ρ (below j)) ds) (vals j)) ∧ Q .normal (E n (env ops vals ρ (below ops.size)) ds) (hs H N)
  | 0, i, hi, vals0, A, h => by
    rw [List.drop_of_length_le (l := ops.toList) (by simp; omega)] at h
    refine ⟨vals0, fun _ _ => rfl, fun j o hj ho => ?_, ?_⟩
    · have := (Array.getElem?_eq_some_iff.1 ho).1; omega
    · have : i = ops.size := by omega
      subst this
      rw [aopsX_nil] at h; exact h
  | m + 1, i, hi, vals0, A, h => by
    have hlt : i < ops.size := by omega
    have hoi : ops[i]? = some ops[i] := Array.getElem?_eq_getElem hlt
    obtain ⟨hlen, _, hat⟩ := certOk_at hk
    obtain ⟨c, hc, hca⟩ := hat i _ hoi
    have hlt2 : i < cs.length := by omega
    have hci : cs[i] = c := by rw [List.getElem?_eq_getElem hlt2] at hc; cases hc; rfl
    rw [List.drop_eq_getElem_cons (l := ops.toList) (by simpa using hlt), List.drop_eq_getElem_cons (l := cs) hlt2] at h
    simp only [Array.getElem_toList, hci] at h
    have henv : ∀ (vals : Nat → Value), (∀ j, j < i → vals j = vals0 j) → env ops vals ρ (below i) = env ops vals0 ρ (below i) := by
      intro vals hv
      funext t
      unfold env
      split
      · rename_i j hj
        by_cases hji : j < i
        · simp [below, hji, hv j hji]
        · simp [below, hji]
      · rfl
    have go : ∀ v A1, StepY P w0 (ops.toList.map (·.dst)) cs H i ops[i] (E n (env ops vals0 ρ (below i)) ds) v → aopsX P w0 (ops.toList.map (·.dst)) Q H N (ops.toList.drop (i + 1)) (cs.drop (i + 1)) ((E n (env ops vals0 ρ (below i)) ds).put ops[i].dst v) A1 →
        ∃ vals : Nat → Value, (∀ j, j < i → vals j = vals0 j) ∧ (∀ j o, i ≤ j → ops[j]? = some o → StepY P w0 (ops.toList.map (·.dst)) cs H j o (E n (env ops vals ρ (below j)) ds) (vals j)) ∧ Q .normal (E n (env ops vals ρ (below ops.size)) ds) (hs H N) := by
      intro v A1 hst hk2
      obtain ⟨vals1, hv1⟩ : ∃ vals1 : Nat → Value, vals1 = fun j => if j = i then v else vals0 j := ⟨_, rfl⟩
      have e1 : env ops vals1 ρ (below i) = env ops vals0 ρ (below i) := henv _ fun j hj => by rw [hv1]; exact if_neg (by omega)
      have e2 : (E n (env ops vals0 ρ (below i)) ds).put ops[i].dst v = E n (env ops vals1 ρ (below (i + 1))) ds := by
        rw [below_succ, env_add hok hoi, put_EO, e1, hv1]; simp
      rw [e2] at hk2
      obtain ⟨vals, q1, q2, q3⟩ := aopsX_vals hok hk m (i + 1) (by omega) hk2
      refine ⟨vals, fun j hj => ?_, fun j o hj ho => ?_, q3⟩
      · rw [q1 j (by omega), hv1]; exact if_neg (by omega)
      · by_cases hji : j = i
        · subst hji
          rw [hoi] at ho; cases ho
          rw [henv vals fun k hk => by rw [q1 k (by omega), hv1]; exact if_neg (by omega)]
          rw [q1 j (by omega), hv1]
          simpa using hst
        · exact q2 j o (by omega) ho
    rw [aopsX_cons] at h
    cases hw : wanted' (ops.toList.map (·.dst)) ops[i].guard (E n (env ops vals0 ρ (below i)) ds).tmps with
    | true =>
      rw [hw, ifB_true] at h
      obtain ⟨v, A1, h1, h2⟩ := stepX_at hc hca h
      exact go v A1 (.inl ⟨hw, h1⟩) h2
    | false =>
      rw [hw, ifB_false, skipC_eq] at h
      refine go undef _ (.inr ⟨hw, ?_, rfl⟩) h
      unfold isH
      rw [hc]
      cases hb : c.heavy with
      | false => exact hb
      | true =>
        have := (hca.heavy hb).1
        rw [this] at hw
        cases hw

theorem put_transfer {ρ1 ρ2 : Nat → Value} {d : Option Tmp} {v u : Value} (h : (E n ρ1 ds).put d v = (E n ρ1 ds).put d u) : (E n ρ2 ds).put d v = (E n ρ2 ds).put d u := by
  cases d with
  | none => rfl
  | some t =>
    rw [put_E, put_E] at h ⊢
    by_cases ht : t < n
    · have h1 : (tm n (upd ρ1 t v)).getD t undef = (tm n (upd ρ1 t u)).getD t undef := by
        have := congrArg Act.tmps h
        exact congrArg (·.getD t undef) this
      rw [tm_getD, tm_getD, rd, rd, if_pos ht, if_pos ht] at h1
      simp only [upd, if_true] at h1
      rw [h1]
    · refine E_eq _ fun j hj => ?_
      have hne : j ≠ t := fun e => ht (e ▸ hj)
      simp only [upd, if_neg hne]
theorem StepY.at {i : Nat} {o : Oper} {v : Value} {ρ1 ρ2 : Nat → Value} (h : StepY P w0 (ops.toList.map (·.dst)) cs H i o (E n ρ1 ds) v) (he : ∀ t ∈ o.looksAt ops, ρ1 t = ρ2 t) : StepY P w0 (ops.toList.map (·.dst)) cs H i o (E n ρ2 ds) v := by
  have hw : wanted' (ops.toList.map (·.dst)) o.guard (E n ρ1 ds).tmps = wanted' (ops.toList.map (·.dst)) o.guard (E n ρ2 ds).tmps := by
    cases hg : o.guard with
    | none => rfl
    | some x =>
      obtain ⟨j, b⟩ := x
      rw [wanted_some, wanted_some]
      congr 2
      cases hd0 : (ops.toList.map (·.dst))[j]? with
      | none => rfl
      | some o0 =>
      cases o0 with
      | none => rfl
      | some t =>
        simp only [lookT, E_tmps, tm_get?]
        rw [he t]
        have hd' : (ops[j]?).bind (·.dst) = some t := by
          rw [List.getElem?_map, Array.getElem?_toList] at hd0
          cases hj : ops[j]? with
          | none => rw [hj] at hd0; cases hd0
          | some oj => rw [hj] at hd0; simp only [Option.map_some, Option.some.injEq] at hd0; exact hd0
        unfold Oper.looksAt
        rw [hg]
        exact List.mem_append_right _ (by simp [hd'])
  unfold StepY at h ⊢
  rw [← hw]
  rcases h with ⟨h1, h2⟩ | h
  · refine .inl ⟨h1, fun c hc1 hc2 => ?_⟩
    obtain ⟨v', h3, h4⟩ := h2 c hc1 hc2
    refine ⟨v', h3.congr fun x hx => ?_, put_transfer h4⟩
    cases x with
    | tmp t =>
      rw [eval_tmp, eval_tmp, rd, rd, he t]
      unfold Oper.looksAt
      exact List.mem_append_left _ (List.mem_filterMap.2 ⟨.tmp t, by simpa using hx, rfl⟩)
    | _ => rfl
  · exact .inr h

theorem draw2_go {md : Region.Mode} {vals : Nat → Value} (hok : drawOk ops = true) (hk : certOk ops cs N = true) (hv : ∀ j o, ops[j]? = some o → StepY P w0 (ops.toList.map (·.dst)) cs H j o (E n (env ops vals ρ (below j)) ds) (vals j)) (hq : Q .normal (E n (env ops vals ρ (below ops.size)) ds) (hs H N)) :
    ∀ (fuel t : Nat) (listed : Array Bool), listed.size = ops.size → listed.toList.count false ≤ fuel → Closed ops (fun j => listed.getD j false) →
      aopsI P w0 nr ops Q (Region.linearise.go md ops fuel t listed []) (E n (env ops vals ρ (fun j => listed.getD j false)) ds) (hs H (lvl cs (fun j => listed.getD j false))) := by
  have finish : ∀ listed : Array Bool, listed.size = ops.size → (∀ j, j < ops.size → listed.getD j false = true) → Q .normal (E n (env ops vals ρ (fun j => listed.getD j false)) ds) (hs H (lvl cs (fun j => listed.getD j false))) := by
    intro listed hs1 hall
    have : env ops vals ρ (fun j => listed.getD j false) = env ops vals ρ (below ops.size) := by
      funext t
      unfold env
      cases hx : dIx ops t with
      | none => rfl
      | some j =>
        obtain ⟨o, ho, _⟩ := dIx_some hx
        have hj := (Array.getElem?_eq_some_iff.1 ho).1
        simp only [hall j hj, below, hj, decide_true]
    rw [this]
    have h2 : lvl cs (fun j => listed.getD j false) = N := by
      rw [(certOk_at hk).2.1]
      unfold lvl
      rw [List.countP_eq_length]
      intro j hj
      have h3 := List.mem_range.1 (List.mem_filter.1 hj).1
      have h4 := (certOk_at hk).1
      exact hall j (by omega)
    rw [h2]; exact hq
  intro fuel
  induction fuel with
  | zero =>
    intro t listed hs1 hc hcl
    simp only [Region.linearise.go, List.reverse_nil, aopsI]
    refine finish listed hs1 fun j hj => ?_
    have h0 : listed.toList.count false = 0 := by omega
    rw [List.count_eq_zero] at h0
    have hj' : j < listed.size := by omega
    cases hb : listed.getD j false with
    | true => rfl
    | false =>
      exfalso
      apply h0
      have : listed.getD j false = listed[j] := by simp [Array.getD, hj']
      rw [this] at hb
      rw [← hb]
      exact Array.getElem_mem_toList hj'
  | succ fuel ih =>
    intro t listed hs1 hc hcl
    simp only [Region.linearise.go]
    change aopsI P w0 nr ops Q (match (Region.ready md ops listed)[t % (Region.ready md ops listed).length]? with
      | some i => Region.linearise.go md ops fuel (t / (Region.ready md ops listed).length) (listed.setIfInBounds i true) [i]
      | none => [].reverse) _ _
    cases hi : (Region.ready md ops listed)[t % (Region.ready md ops listed).length]? with
    | none =>
      have hnil : Region.ready md ops listed = [] := by
        cases hr : Region.ready md ops listed with
        | nil => rfl
        | cons x xs =>
          rw [hr] at hi
          have hlt : t % (x :: xs).length < (x :: xs).length := Nat.mod_lt _ (by simp)
          rw [List.getElem?_eq_none_iff] at hi
          omega
      simp only [List.reverse_nil, aopsI]
      refine finish listed hs1 fun j => ?_
      induction j using Nat.strongRecOn with
      | _ j ihj =>
        intro hj
        cases hb : listed.getD j false with
        | true => rfl
        | false =>
          exfalso
          exact not_stuck hok (by omega) hj hb (fun k hk => ihj k hk (by omega)) hnil
    | some i =>
      simp only []
      rw [linearise_go_acc, List.reverse_singleton, List.singleton_append]
      have hmem := mem_ready.1 (List.mem_of_getElem? hi)
      obtain ⟨hun, o, ho, hpre⟩ := hmem
      have hilt : i < ops.size := (Array.getElem?_eq_some_iff.1 ho).1
      have hil : i < listed.size := by omega
      have hif : listed.getD i false = false := by
        have h1 : listed.getD i false = listed[i] := by simp [Array.getD, hil]
        have h2 : listed.getD i true = listed[i] := by simp [Array.getD, hil]
        rw [h1, ← h2]; exact hun
      have hset : (fun j => (listed.setIfInBounds i true).getD j false) = fun j => j == i || listed.getD j false := by
        funext j
        by_cases hji : j = i
        · subst hji; simp [Array.getD, hil]
        · rw [getD_set_ne false (Ne.symm hji)]; simp [hji]
      have hpre' : ∀ e ∈ o.after, Region.binds .any e = true → listed.getD e.on false = true := fun e he hb => hpre e he (binds_any hb)
      have hstep := (hv i o ho).at (ρ2 := env ops vals ρ (fun j => listed.getD j false)) fun u hu => env_sees hok ho hif hpre' hcl hu
      obtain ⟨hlen, _, hat⟩ := certOk_at hk
      obtain ⟨c, hcc, hca⟩ := hat i o ho
      have hbt := lvl_between hok hk ho hcc hca hcl hif hpre'
      have hla := lvl_add (cs := cs) (L := fun j => listed.getD j false) hif (by omega)
      have hnext := ih (t / (Region.ready md ops listed).length) (listed.setIfInBounds i true) (by simpa using hs1) (by
          have h1 : listed.toList.count false = (listed.toList.set i true).count false + 1 := by
            have hpos : 0 < listed.toList.count false := by
              rw [List.count_pos_iff]
              have h1 : listed.getD i false = listed[i] := by simp [Array.getD, hil]
              rw [← hif, h1]
              exact Array.getElem_mem_toList hil
            have h3 : listed[i] = false := by
              have h1 : listed.getD i false = listed[i] := by simp [Array.getD, hil]
              rw [← h1]; exact hif
            rw [List.count_set (by simpa using hil)]
            have h4 : listed.toList[i]'(by simpa using hil) = false := by rw [Array.getElem_toList]; exact h3
            rw [h4, if_pos (by decide), if_neg (by decide)]
            omega
          rw [Array.toList_setIfInBounds]
          omega) (fun j oj hj hoj e he hb => by
          by_cases hji : j = i
          · subst hji
            rw [ho] at hoj; cases hoj
            exact getD_set_true (hpre' e he hb)
          · simp only at hj ⊢
            rw [getD_set_ne false (Ne.symm hji)] at hj
            exact getD_set_true (hcl j oj hj hoj e he hb))
      rw [hset, env_add hok ho, hla] at hnext
      simp only [aopsI, ho]
      rw [wanted_eq]
      rcases hstep with ⟨h1, h2⟩ | ⟨h1, h2, h3⟩
      · rw [if_pos h1]
        obtain ⟨v', h4, h5⟩ := h2 _ hbt.1 hbt.2
        exact h4.aoper nr Q (by rw [h5, put_EO]; exact hnext)
      · rw [if_neg (by rw [h1]; decide), put_EO]
        rw [h2, if_neg (by decide), Nat.add_zero, h3] at hnext
        exact hnext

/-- **A drawn region** whose operations turn the heap from one told heap to the next. -/
theorem aw_draw2 {A : St} {id : Nat} (cs : List Cert) (H : List St) (N : Nat) (hok : drawOk ops = true) (hk : certOk ops cs N = true) (hA : hs H 0 = A) (h : aopsX P w0 (ops.toList.map (·.dst)) Q H N ops.toList cs (E n ρ ds) A) : AW P w0 n0 nr (.region id ops true) Q (E n ρ ds) A := by
  refine aw_region_draw fun t => ?_
  obtain ⟨vals, _, h2, h3⟩ := aopsX_vals (vals0 := fun _ => undef) (ρ := ρ) (n := n) (ds := ds) hok hk ops.size 0 (by omega) (by rw [env_zero, List.drop_zero, List.drop_zero]; exact h)
  have key : ∀ (md : Region.Mode) (t : Nat), aopsI P w0 nr ops Q (Region.linearise md ops t) (E n ρ ds) A := by
    intro md t
    have := draw2_go (nr := nr) (md := md) hok hk (fun j o ho => h2 j o (Nat.zero_le _) ho) h3 ops.size t (Array.replicate ops.size false) (by simp) (by simp) (fun j oj hj => by simp [Array.getElem?_replicate] at hj; split at hj <;> simp at hj)
    have he0 : (fun j => (Array.replicate ops.size false).getD j false) = fun _ => false := by
      funext j
      simp [Array.getElem?_replicate]
      split <;> rfl
    have he : env ops vals ρ (fun _ => false) = ρ := by
      funext u
      unfold env
      split <;> simp
    have hl : lvl cs (fun _ => false) = 0 := by
      unfold lvl; rw [List.countP_eq_zero]; simp
    rw [he0, he, hl, hA] at this
    exact this
  unfold Region.schedule
  split
  · exact key _ _
  · exact key _ _
end
end Go.Fw

/-! Equations for the steps of drawn regions. -/
set_option linter.unusedSimpArgs false
set_option linter.unusedVariables false
namespace Go.Fw
open Go.RowKit
section
variable (P : Program) (w0 : World) (d : Option Tmp) (ty : TypeId) (pos : String) (aft : Array Edge) (g : Option (Nat × Bool)) (K : Act → St → Prop) (a : Act) (A A' : St)
theorem stepT_call (f : Operand) (args : Array Operand) (ts : Array TypeId) : stepT P w0 ⟨d, .call { callee := .value f, args, argTypes := ts }, ty, pos, aft, g⟩ A' K a A = callV (okO f && args.all okO) (∃ v, ACallV P w0 (a.eval f) (args.map a.eval) A (fin v A') ∧ K (a.put d v) A') := Eq.trans rfl rfl
theorem pure_call (f : Operand) (args : Array Operand) (ts : Array TypeId) : pureOp (.call { callee := .value f, args, argTypes := ts }) = false := Eq.trans rfl rfl
theorem stepT_move (x : Operand) : stepT P w0 ⟨d, .move x, ty, pos, aft, g⟩ A' K a A = aoper P w0 true ⟨d, .move x, ty, pos, aft, g⟩ a A (to A' K) noQ := Eq.trans rfl rfl
theorem pure_move (x : Operand) : pureOp (.move x) = true := Eq.trans rfl rfl
theorem stepT_assign (x : Operand) : stepT P w0 ⟨d, .assign x, ty, pos, aft, g⟩ A' K a A = aoper P w0 true ⟨d, .assign x, ty, pos, aft, g⟩ a A (to A' K) noQ := Eq.trans rfl rfl
theorem pure_assign (x : Operand) : pureOp (.assign x) = true := Eq.trans rfl rfl
theorem stepT_pick (x y z : Operand) : stepT P w0 ⟨d, .pick x y z, ty, pos, aft, g⟩ A' K a A = aoper P w0 true ⟨d, .pick x y z, ty, pos, aft, g⟩ a A (to A' K) noQ := Eq.trans rfl rfl
theorem pure_pick (x y z : Operand) : pureOp (.pick x y z) = true := Eq.trans rfl rfl
theorem stepT_alloc (t : TypeId) : stepT P w0 ⟨d, .alloc t, ty, pos, aft, g⟩ A' K a A = aoper P w0 true ⟨d, .alloc t, ty, pos, aft, g⟩ a A (to A' K) noQ := Eq.trans rfl rfl
theorem pure_alloc (t : TypeId) : pureOp (.alloc t) = false := Eq.trans rfl rfl
theorem stepT_box (t : TypeId) (x : Operand) : stepT P w0 ⟨d, .box t x, ty, pos, aft, g⟩ A' K a A = aoper P w0 true ⟨d, .box t x, ty, pos, aft, g⟩ a A (to A' K) noQ := Eq.trans rfl rfl
theorem pure_box (t : TypeId) (x : Operand) : pureOp (.box t x) = false := Eq.trans rfl rfl
theorem stepT_build (t : TypeId) (ps : Array (Nat × Operand)) : stepT P w0 ⟨d, .build t ps, ty, pos, aft, g⟩ A' K a A = aoper P w0 true ⟨d, .build t ps, ty, pos, aft, g⟩ a A (to A' K) noQ := Eq.trans rfl rfl
theorem pure_build (t : TypeId) (ps : Array (Nat × Operand)) : pureOp (.build t ps) = true := Eq.trans rfl rfl
theorem stepT_buildSlice (t : TypeId) (n : Nat) (ps : Array (Nat × Operand)) : stepT P w0 ⟨d, .buildSlice t n ps, ty, pos, aft, g⟩ A' K a A = aoper P w0 true ⟨d, .buildSlice t n ps, ty, pos, aft, g⟩ a A (to A' K) noQ := Eq.trans rfl rfl
theorem pure_buildSlice (t : TypeId) (n : Nat) (ps : Array (Nat × Operand)) : pureOp (.buildSlice t n ps) = false := Eq.trans rfl rfl
theorem stepT_load (t : TypeId) (x : Operand) : stepT P w0 ⟨d, .load t x, ty, pos, aft, g⟩ A' K a A = aoper P w0 true ⟨d, .load t x, ty, pos, aft, g⟩ a A (to A' K) noQ := Eq.trans rfl rfl
theorem pure_load (t : TypeId) (x : Operand) : pureOp (.load t x) = false := Eq.trans rfl rfl
theorem stepT_store (t : TypeId) (x y : Operand) : stepT P w0 ⟨d, .store t x y, ty, pos, aft, g⟩ A' K a A = aoper P w0 true ⟨d, .store t x y, ty, pos, aft, g⟩ a A (to A' K) noQ := Eq.trans rfl rfl
theorem pure_store (t : TypeId) (x y : Operand) : pureOp (.store t x y) = false := Eq.trans rfl rfl
theorem stepT_nilCheck (x : Operand) : stepT P w0 ⟨d, .nilCheck x, ty, pos, aft, g⟩ A' K a A = aoper P w0 true ⟨d, .nilCheck x, ty, pos, aft, g⟩ a A (to A' K) noQ := Eq.trans rfl rfl
theorem pure_nilCheck (x : Operand) : pureOp (.nilCheck x) = true := Eq.trans rfl rfl
theorem stepT_binOp (op : BinOp) (t u : TypeId) (x y : Operand) : stepT P w0 ⟨d, .binOp op t x y u, ty, pos, aft, g⟩ A' K a A = aoper P w0 true ⟨d, .binOp op t x y u, ty, pos, aft, g⟩ a A (to A' K) noQ := Eq.trans rfl rfl
theorem pure_binOp (op : BinOp) (t u : TypeId) (x y : Operand) : pureOp (.binOp op t x y u) = decide (t ≠ bptr) := Eq.trans rfl rfl
theorem stepT_unOp (op : UnOp) (t : TypeId) (x : Operand) : stepT P w0 ⟨d, .unOp op t x, ty, pos, aft, g⟩ A' K a A = aoper P w0 true ⟨d, .unOp op t x, ty, pos, aft, g⟩ a A (to A' K) noQ := Eq.trans rfl rfl
theorem pure_unOp (op : UnOp) (t : TypeId) (x : Operand) : pureOp (.unOp op t x) = true := Eq.trans rfl rfl
theorem stepT_convert (t u : TypeId) (x : Operand) : stepT P w0 ⟨d, .convert t u x, ty, pos, aft, g⟩ A' K a A = aoper P w0 true ⟨d, .convert t u x, ty, pos, aft, g⟩ a A (to A' K) noQ := Eq.trans rfl rfl
theorem pure_convert (t u : TypeId) (x : Operand) : pureOp (.convert t u x) = false := Eq.trans rfl rfl
theorem stepT_makeInterface (t : TypeId) (x : Operand) : stepT P w0 ⟨d, .makeInterface t x, ty, pos, aft, g⟩ A' K a A = aoper P w0 true ⟨d, .makeInterface t x, ty, pos, aft, g⟩ a A (to A' K) noQ := Eq.trans rfl rfl
theorem pure_makeInterface (t : TypeId) (x : Operand) : pureOp (.makeInterface t x) = true := Eq.trans rfl rfl
theorem stepT_makeFunc (f : Fn) (x y : Array Operand) : stepT P w0 ⟨d, .makeFunc f x y, ty, pos, aft, g⟩ A' K a A = aoper P w0 true ⟨d, .makeFunc f x y, ty, pos, aft, g⟩ a A (to A' K) noQ := Eq.trans rfl rfl
theorem pure_makeFunc (f : Fn) (x y : Array Operand) : pureOp (.makeFunc f x y) = true := Eq.trans rfl rfl
theorem stepT_makeSlice (t : TypeId) (x y : Operand) : stepT P w0 ⟨d, .makeSlice t x y, ty, pos, aft, g⟩ A' K a A = aoper P w0 true ⟨d, .makeSlice t x y, ty, pos, aft, g⟩ a A (to A' K) noQ := Eq.trans rfl rfl
theorem pure_makeSlice (t : TypeId) (x y : Operand) : pureOp (.makeSlice t x y) = false := Eq.trans rfl rfl
theorem stepT_slice (t : TypeId) (x : Operand) (l h m : Option Operand) : stepT P w0 ⟨d, .slice t x l h m, ty, pos, aft, g⟩ A' K a A = aoper P w0 true ⟨d, .slice t x l h m, ty, pos, aft, g⟩ a A (to A' K) noQ := Eq.trans rfl rfl
theorem pure_slice (t : TypeId) (x : Operand) (l h m : Option Operand) : pureOp (.slice t x l h m) = true := Eq.trans rfl rfl
theorem stepT_fieldAddr (t : TypeId) (x : Operand) (f : Nat) : stepT P w0 ⟨d, .fieldAddr t x f, ty, pos, aft, g⟩ A' K a A = aoper P w0 true ⟨d, .fieldAddr t x f, ty, pos, aft, g⟩ a A (to A' K) noQ := Eq.trans rfl rfl
theorem pure_fieldAddr (t : TypeId) (x : Operand) (f : Nat) : pureOp (.fieldAddr t x f) = true := Eq.trans rfl rfl
theorem stepT_field (t : TypeId) (x : Operand) (f : Nat) : stepT P w0 ⟨d, .field t x f, ty, pos, aft, g⟩ A' K a A = aoper P w0 true ⟨d, .field t x f, ty, pos, aft, g⟩ a A (to A' K) noQ := Eq.trans rfl rfl
theorem pure_field (t : TypeId) (x : Operand) (f : Nat) : pureOp (.field t x f) = true := Eq.trans rfl rfl
theorem stepT_indexAddr (t : TypeId) (x y : Operand) : stepT P w0 ⟨d, .indexAddr t x y, ty, pos, aft, g⟩ A' K a A = aoper P w0 true ⟨d, .indexAddr t x y, ty, pos, aft, g⟩ a A (to A' K) noQ := Eq.trans rfl rfl
theorem pure_indexAddr (t : TypeId) (x y : Operand) : pureOp (.indexAddr t x y) = true := Eq.trans rfl rfl
theorem stepT_index (t : TypeId) (x y : Operand) : stepT P w0 ⟨d, .index t x y, ty, pos, aft, g⟩ A' K a A = aoper P w0 true ⟨d, .index t x y, ty, pos, aft, g⟩ a A (to A' K) noQ := Eq.trans rfl rfl
theorem pure_index (t : TypeId) (x y : Operand) : pureOp (.index t x y) = true := Eq.trans rfl rfl
theorem stepT_extract (x : Operand) (i : Nat) : stepT P w0 ⟨d, .extract x i, ty, pos, aft, g⟩ A' K a A = aoper P w0 true ⟨d, .extract x i, ty, pos, aft, g⟩ a A (to A' K) noQ := Eq.trans rfl rfl
theorem pure_extract (x : Operand) (i : Nat) : pureOp (.extract x i) = true := Eq.trans rfl rfl
theorem stepT_typeAssert (x : Operand) (t u : TypeId) (ok : Bool) : stepT P w0 ⟨d, .typeAssert x t u ok, ty, pos, aft, g⟩ A' K a A = aoper P w0 true ⟨d, .typeAssert x t u ok, ty, pos, aft, g⟩ a A (to A' K) noQ := Eq.trans rfl rfl
theorem pure_typeAssert (x : Operand) (t u : TypeId) (ok : Bool) : pureOp (.typeAssert x t u ok) = true := Eq.trans rfl rfl
theorem stepT_lookup (t : TypeId) (x y : Operand) (ok : Bool) : stepT P w0 ⟨d, .lookup t x y ok, ty, pos, aft, g⟩ A' K a A = aoper P w0 true ⟨d, .lookup t x y ok, ty, pos, aft, g⟩ a A (to A' K) noQ := Eq.trans rfl rfl
theorem pure_lookup (t : TypeId) (x y : Operand) (ok : Bool) : pureOp (.lookup t x y ok) = false := Eq.trans rfl rfl
theorem stepT_mapUpdate (t : TypeId) (x y z : Operand) : stepT P w0 ⟨d, .mapUpdate t x y z, ty, pos, aft, g⟩ A' K a A = aoper P w0 true ⟨d, .mapUpdate t x y z, ty, pos, aft, g⟩ a A (to A' K) noQ := Eq.trans rfl rfl
theorem pure_mapUpdate (t : TypeId) (x y z : Operand) : pureOp (.mapUpdate t x y z) = false := Eq.trans rfl rfl
theorem stepT_makeMap (t : TypeId) : stepT P w0 ⟨d, .makeMap t none, ty, pos, aft, g⟩ A' K a A = aoper P w0 true ⟨d, .makeMap t none, ty, pos, aft, g⟩ a A (to A' K) noQ := Eq.trans rfl rfl
theorem pure_makeMap (t : TypeId) : pureOp (.makeMap t none) = false := Eq.trans rfl rfl
theorem stepT_builtin (bi : Builtin) (xs : Array Operand) (ts : Array TypeId) : stepT P w0 ⟨d, .call { callee := .builtin bi, args := xs, argTypes := ts }, ty, pos, aft, g⟩ A' K a A = aoper P w0 true ⟨d, .call { callee := .builtin bi, args := xs, argTypes := ts }, ty, pos, aft, g⟩ a A (to A' K) noQ := Eq.trans rfl rfl
theorem pure_b_len (xs : Array Operand) (ts : Array TypeId) : pureOp (.call { callee := .builtin .len, args := xs, argTypes := ts }) = true := Eq.trans rfl rfl
theorem pure_b_append (xs : Array Operand) (ts : Array TypeId) : pureOp (.call { callee := .builtin .append, args := xs, argTypes := ts }) = false := Eq.trans rfl rfl
theorem pure_b_copy (xs : Array Operand) (ts : Array TypeId) : pureOp (.call { callee := .builtin .copy, args := xs, argTypes := ts }) = false := Eq.trans rfl rfl
theorem pure_b_min (xs : Array Operand) (ts : Array TypeId) : pureOp (.call { callee := .builtin .min, args := xs, argTypes := ts }) = false := Eq.trans rfl rfl
theorem pure_b_max (xs : Array Operand) (ts : Array TypeId) : pureOp (.call { callee := .builtin .max, args := xs, argTypes := ts }) = false := Eq.trans rfl rfl
theorem pure_b_unsafeSliceData (xs : Array Operand) (ts : Array TypeId) : pureOp (.call { callee := .builtin .unsafeSliceData, args := xs, argTypes := ts }) = false := Eq.trans rfl rfl
theorem pure_b_unsafeString (xs : Array Operand) (ts : Array TypeId) : pureOp (.call { callee := .builtin .unsafeString, args := xs, argTypes := ts }) = false := Eq.trans rfl rfl
end
end Go.Fw


/-! Deferred Go functions, in the walk's form. -/
set_option linter.unusedSimpArgs false
set_option linter.unusedVariables false
namespace Go.Fw
open Go.RowKit
section
variable {P : Program} {w0 : World} {A : St}
def leaveK (P : Program) (w0 : World) (fn : Func) (t : Array Value) (R : Ending → St → Prop) (ds : List Deferred) (A' : St) : Prop := aleave P w0 fn t R ds A'
theorem leaveK_eq (fn : Func) (t : Array Value) (R : Ending → St → Prop) (ds : List Deferred) (A' : St) : leaveK P w0 fn t R ds A' = aleave P w0 fn t R ds A' := Eq.trans rfl rfl
def leaveF (P : Program) (w0 : World) (g : Nat) (args : Array Value) (A : St) (K : St → Prop) : Prop := Enters P g ∧ ADef P w0 g args A K
theorem aleave_fn (fn : Func) (t : Array Value) (R : Ending → St → Prop) (g : Nat) (cap args : Array Value) (ds : List Deferred) : aleave P w0 fn t R (⟨.fn (.func g) cap, args⟩ :: ds) A = leaveF P w0 g (args ++ cap) A (leaveK P w0 fn t R ds) := Eq.trans rfl rfl
def deferV (nr b : Bool) (v : Value) (args : Array Value) (a : Act) (A : St) (d : Option Tmp) (next : Act → St → Prop) : Prop :=
  nr = true ∧ b = true ∧ match v with
    | .func (.func g) first cap => next ({ a with defers := ⟨.fn (.func g) cap, first ++ args⟩ :: a.defers }.put d undef) A
    | _ => False
theorem op_defer (nr : Bool) (d : Option Tmp) (ty : TypeId) (pos : String) (aft : Array Edge) (g : Option (Nat × Bool)) (a : Act) (next : Act → St → Prop) (Q : Exit → Act → St → Prop) (f : Operand) (args : Array Operand) (ts : Array TypeId) :
    aoper P w0 nr ⟨d, .defer { callee := .value f, args, argTypes := ts }, ty, pos, aft, g⟩ a A next Q = deferV nr (okO f && args.all okO) (a.eval f) (args.map a.eval) a A d next := Eq.trans rfl rfl
theorem deferV_func (n : Nat) (ρ : Nat → Value) (ds : List Deferred) (g : Nat) (fs cs args : Array Value) (next : Act → St → Prop) (d : Option Tmp) : deferV true true (.func (.func g) fs cs) args (E n ρ ds) A d next = next ((E n ρ (⟨.fn (.func g) cs, fs ++ args⟩ :: ds)).put d undef) A := by
  simp [deferV]; rfl
def defQ (P : Program) (fn : Func) (R : St → Prop) (e : Exit) (a' : Act) (A' : St) : Prop := (e = .normal ∨ e = .ret) ∧ a'.defers = [] ∧ ∃ v, aresults P fn A' a'.tmps = some v ∧ R A'
def resK (o : Option Value) (R : St → Prop) (A' : St) : Prop := ∃ v, o = some v ∧ R A'
theorem resK_some (v : Value) (R : St → Prop) (A' : St) : resK (some v) R A' = R A' := by simp [resK]
theorem defQ_ret (fn : Func) (R : St → Prop) (n : Nat) (ρ : Nat → Value) (A' : St) : defQ P fn R .ret (E n ρ []) A' = resK (finR (aresL P A' (tm n ρ) fn.results.toList)) R A' := by
  unfold defQ resK
  simp only [or_true, true_and, E_defers, E_tmps]
  rfl
theorem defQ_normal (fn : Func) (R : St → Prop) (n : Nat) (ρ : Nat → Value) (A' : St) : defQ P fn R .normal (E n ρ []) A' = resK (finR (aresL P A' (tm n ρ) fn.results.toList)) R A' := by
  unfold defQ resK
  simp only [true_or, true_and, E_defers, E_tmps]
  rfl
theorem adef_E {f : Nat} {fn : Func} {c : Code} {l : List Value} {R : St → Prop} (hf : P.funcs[f]? = some fn) (hb : fn.body = some c) (hl : l.length ≤ fn.ntmps)
    (h : WF A → BndA A.next l.toArray → wpA P w0 A.next true c (defQ P fn R) (E fn.ntmps (ar l) []) A) : ADef P w0 f l.toArray A R :=
  adef_of hf hb fun hw hbd => by rw [ent_E _ _ hl]; exact aw_of (h hw hbd)
end
end Go.Fw
