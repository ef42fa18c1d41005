import Derived.Test.YtphfkbagjpcmpaaFw16
import Derived.IntWalk
/-! Equations by which a walk is reckoned: places told by a function, one law for each operation. -/
set_option linter.unusedSimpArgs false
set_option linter.unusedVariables false
namespace Go.Fw
open Go.RowKit

/-- n places, told by a function. -/
def tm (n : Nat) (ρ : Nat → Value) : Array Value := ((List.range n).map ρ).toArray
def E (n : Nat) (ρ : Nat → Value) (ds : List Deferred) : Act := ⟨tm n ρ, ds⟩
def upd (ρ : Nat → Value) (i : Nat) (v : Value) : Nat → Value := fun j => if j = i then v else ρ j
def rd (n : Nat) (ρ : Nat → Value) (j : Nat) : Value := if j < n then ρ j else undef
def ar (l : List Value) (j : Nat) : Value := l.getD j undef
theorem upd_apply (ρ : Nat → Value) (i j : Nat) (v : Value) : upd ρ i v j = if j = i then v else ρ j := Eq.trans rfl rfl
theorem rd_eq (n : Nat) (ρ : Nat → Value) (j : Nat) : rd n ρ j = if j < n then ρ j else undef := Eq.trans rfl rfl
theorem ar_zero (v : Value) (l : List Value) : ar (v :: l) 0 = v := Eq.trans rfl rfl
theorem ar_succ (v : Value) (l : List Value) (j : Nat) : ar (v :: l) (j + 1) = ar l j := Eq.trans rfl rfl
theorem ar_nil (j : Nat) : ar [] j = undef := Eq.trans rfl rfl
theorem tm_size (n : Nat) (ρ : Nat → Value) : (tm n ρ).size = n := by simp [tm]
theorem tm_get? (n : Nat) (ρ : Nat → Value) (j : Nat) : (tm n ρ)[j]? = if j < n then some (ρ j) else none := by
  simp only [tm, List.getElem?_toArray, List.getElem?_map]
  by_cases h : j < n
  · rw [if_pos h, List.getElem?_range h]; rfl
  · rw [if_neg h, List.getElem?_eq_none (by simp; omega)]; rfl
theorem tm_getD (n : Nat) (ρ : Nat → Value) (j : Nat) : (tm n ρ).getD j undef = rd n ρ j := by
  rw [Array.getD_eq_getD_getElem?, tm_get?, rd]; split <;> rfl
theorem tm_set (n : Nat) (ρ : Nat → Value) (i : Nat) (v : Value) : (tm n ρ).setIfInBounds i v = tm n (upd ρ i v) := by
  apply Array.ext_getElem?
  intro j
  rw [Array.getElem?_setIfInBounds, tm_get?, tm_size, tm_get?]
  unfold upd
  by_cases h : i = j
  · subst h; simp
  · simp [h, Ne.symm h]
theorem tm_eq {n : Nat} {ρ ρ' : Nat → Value} (h : ∀ j, j < n → ρ j = ρ' j) : tm n ρ = tm n ρ' := by
  apply Array.ext_getElem?
  intro j
  rw [tm_get?, tm_get?]
  split
  · rename_i hj; rw [h j hj]
  · rfl
theorem E_eq {n : Nat} {ρ ρ' : Nat → Value} (ds : List Deferred) (h : ∀ j, j < n → ρ j = ρ' j) : E n ρ ds = E n ρ' ds := by unfold E; rw [tm_eq h]
theorem E_tmps (n : Nat) (ρ : Nat → Value) (ds : List Deferred) : (E n ρ ds).tmps = tm n ρ := Eq.trans rfl rfl
theorem E_defers (n : Nat) (ρ : Nat → Value) (ds : List Deferred) : (E n ρ ds).defers = ds := Eq.trans rfl rfl
theorem put_E (n : Nat) (ρ : Nat → Value) (ds : List Deferred) (i : Nat) (v : Value) : (E n ρ ds).put (some i) v = E n (upd ρ i v) ds := by
  simp only [E, Act.put, tm_set]
theorem put_none (a : Act) (v : Value) : Act.put a none v = a := Eq.trans rfl rfl
theorem eval_tmp (n : Nat) (ρ : Nat → Value) (ds : List Deferred) (j : Nat) : (E n ρ ds).eval (.tmp j) = rd n ρ j := tm_getD n ρ j
theorem eval_const (a : Act) (v : Value) : a.eval (.const v) = v := Eq.trans rfl rfl
theorem eval_func (a : Act) (f : Nat) : a.eval (.func f) = .func (.func f) #[] #[] := Eq.trans rfl rfl
theorem ent_E (n : Nat) (l : List Value) (h : l.length ≤ n) : ({ tmps := l.toArray ++ Array.replicate (n - l.toArray.size) undef, defers := [] } : Act) = E n (ar l) [] := by
  unfold E
  congr 1
  apply Array.ext_getElem?
  intro j
  rw [tm_get?, Array.getElem?_append, Array.getElem?_replicate]
  simp only [List.size_toArray, List.getElem?_toArray, ar, List.getD_eq_getElem?_getD]
  by_cases h1 : j < l.length
  · simp [h1, show j < n by omega]
  · rw [if_neg h1]
    by_cases h2 : j < n
    · rw [if_pos h2, if_pos (by omega), List.getElem?_eq_none (by omega)]; rfl
    · rw [if_neg h2, if_neg (by omega)]
theorem setArgs_1 (n : Nat) (ρ : Nat → Value) (p : Nat) (v : Value) : setArgs (tm n ρ) #[p] #[v] = tm n (upd ρ p v) := by
  rw [← tm_set]; unfold setArgs; simp only [List.zip_toArray, List.foldl_toArray']; rfl
theorem setArgs_2 (n : Nat) (ρ : Nat → Value) (p q : Nat) (v u : Value) : setArgs (tm n ρ) #[p, q] #[v, u] = tm n (upd (upd ρ p v) q u) := by
  rw [← tm_set, ← tm_set]; unfold setArgs; simp only [List.zip_toArray, List.foldl_toArray']; rfl
theorem setArgs_0 (n : Nat) (ρ : Nat → Value) : setArgs (tm n ρ) #[] #[] = tm n ρ := by
  unfold setArgs; simp only [List.zip_toArray, List.foldl_toArray']; rfl
theorem append_lit {α : Type} (x y : List α) : Array.append x.toArray y.toArray = (x ++ y).toArray := by simp [Array.append_eq_append]

def stepV (o : Option Value) (next : Act → St → Prop) (a : Act) (d : Option Tmp) (A : St) : Prop := match o with | some v => next (a.put d v) A | none => False
def stepA (o : Option (Value × St)) (next : Act → St → Prop) (a : Act) (d : Option Tmp) : Prop := match o with | some (v, A') => next (a.put d v) A' | none => False
theorem stepV_some (v : Value) (next : Act → St → Prop) (a : Act) (d : Option Tmp) (A : St) : stepV (some v) next a d A = next (a.put d v) A := Eq.trans rfl rfl
theorem stepA_some (v : Value) (A : St) (next : Act → St → Prop) (a : Act) (d : Option Tmp) : stepA (some (v, A)) next a d = next (a.put d v) A := Eq.trans rfl rfl
def guardO {α : Type} (b : Bool) (o : Option α) : Option α := if b then o else none
theorem guardO_true {α : Type} (o : Option α) : guardO true o = o := Eq.trans rfl rfl
/-- A branch on a truth value: what follows stays folded until the condition is told. -/
def ifB (b : Bool) (F G : Act → St → Prop) (a : Act) (A : St) : Prop := (b = true → F a A) ∧ (b = false → G a A)
theorem ifB_true (F G : Act → St → Prop) (a : Act) (A : St) : ifB true F G a A = F a A := by simp [ifB]
theorem ifB_false (F G : Act → St → Prop) (a : Act) (A : St) : ifB false F G a A = G a A := by simp [ifB]
theorem ifB_of {b : Bool} {F G : Act → St → Prop} {a : Act} {A : St} (h1 : b = true → F a A) (h2 : b = false → G a A) : ifB b F G a A := ⟨h1, h2⟩
theorem ifB_dec {p : Prop} [Decidable p] {F G : Act → St → Prop} {a : Act} {A : St} (h1 : p → F a A) (h2 : ¬ p → G a A) : ifB (decide p) F G a A := ⟨fun h => h1 (of_decide_eq_true h), fun h => h2 (of_decide_eq_false h)⟩
theorem ifB_dec_t {p : Prop} [Decidable p] {F G : Act → St → Prop} {a : Act} {A : St} (h : p) : ifB (decide p) F G a A = F a A := by rw [decide_eq_true h]; exact ifB_true ..
theorem ifB_dec_f {p : Prop} [Decidable p] {F G : Act → St → Prop} {a : Act} {A : St} (h : ¬ p) : ifB (decide p) F G a A = G a A := by rw [decide_eq_false h]; exact ifB_false ..
def condV (v : Value) (F G : Act → St → Prop) (a : Act) (A : St) : Prop := match v with | .bool b => ifB b F G a A | _ => False
theorem condV_bool (b : Bool) (F G : Act → St → Prop) (a : Act) (A : St) : condV (.bool b) F G a A = ifB b F G a A := Eq.trans rfl rfl
/-- A guarded operation. -/
def wantV (b : Bool) (P : Program) (w0 : World) (nr : Bool) (o : Oper) (next : Act → St → Prop) (Q : Exit → Act → St → Prop) (a : Act) (A : St) : Prop :=
  (b = true → aoper P w0 nr o a A next Q) ∧ (b = false → next (a.put o.dst undef) A)
theorem wantV_true (P : Program) (w0 : World) (nr : Bool) (o : Oper) (next : Act → St → Prop) (Q : Exit → Act → St → Prop) (a : Act) (A : St) : wantV true P w0 nr o next Q a A = aoper P w0 nr o a A next Q := by simp [wantV]
theorem wantV_false (P : Program) (w0 : World) (nr : Bool) (o : Oper) (next : Act → St → Prop) (Q : Exit → Act → St → Prop) (a : Act) (A : St) : wantV false P w0 nr o next Q a A = next (a.put o.dst undef) A := by simp [wantV]
theorem wantV_dec_t {p : Prop} [Decidable p] (P : Program) (w0 : World) (nr : Bool) (o : Oper) (next : Act → St → Prop) (Q : Exit → Act → St → Prop) (a : Act) (A : St) (h : p) : wantV (decide p) P w0 nr o next Q a A = aoper P w0 nr o a A next Q := by rw [decide_eq_true h]; exact wantV_true ..
theorem wantV_dec_f {p : Prop} [Decidable p] (P : Program) (w0 : World) (nr : Bool) (o : Oper) (next : Act → St → Prop) (Q : Exit → Act → St → Prop) (a : Act) (A : St) (h : ¬ p) : wantV (decide p) P w0 nr o next Q a A = next (a.put o.dst undef) A := by rw [decide_eq_false h]; exact wantV_false ..
theorem wantV_dec {p : Prop} [Decidable p] {P : Program} {w0 : World} {nr : Bool} {o : Oper} {next : Act → St → Prop} {Q : Exit → Act → St → Prop} {a : Act} {A : St} (h1 : p → aoper P w0 nr o a A next Q) (h2 : ¬ p → next (a.put o.dst undef) A) : wantV (decide p) P w0 nr o next Q a A := ⟨fun h => h1 (of_decide_eq_true h), fun h => h2 (of_decide_eq_false h)⟩
theorem wantV_of {b : Bool} {P : Program} {w0 : World} {nr : Bool} {o : Oper} {next : Act → St → Prop} {Q : Exit → Act → St → Prop} {a : Act} {A : St} (h1 : b = true → aoper P w0 nr o a A next Q) (h2 : b = false → next (a.put o.dst undef) A) : wantV b P w0 nr o next Q a A := ⟨h1, h2⟩
theorem dec_and (p q : Prop) [Decidable p] [Decidable q] : (decide p && decide q) = decide (p ∧ q) := by simp
theorem dec_or (p q : Prop) [Decidable p] [Decidable q] : (decide p || decide q) = decide (p ∨ q) := by simp
def isB : Option Value → Option Bool | some (.bool b) => some b | _ => none
theorem isB_bool (b : Bool) : isB (some (.bool b)) = some b := Eq.trans rfl rfl
theorem someB_t (b : Bool) : (some b == some true) = b := by cases b <;> rfl
theorem someB_f (b : Bool) : (some b == some false) = !b := by cases b <;> rfl
theorem someB (b w : Bool) : (some b == some w) = (b == w) := by cases b <;> cases w <;> rfl
theorem okO_tmp (t : Nat) : okO (.tmp t) = true := Eq.trans rfl rfl
theorem okO_func (t : Nat) : okO (.func t) = true := Eq.trans rfl rfl
theorem okO_int (k : IntKind) (i : Int) : okO (.const (.int k i)) = true := Eq.trans rfl rfl
theorem okO_bool (b : Bool) : okO (.const (.bool b)) = true := Eq.trans rfl rfl
theorem okO_string (s : ByteArray) : okO (.const (.string s)) = true := Eq.trans rfl rfl
theorem okO_ptr0 : okO (.const (.pointer none)) = true := Eq.trans rfl rfl
theorem okO_slice0 : okO (.const (.slice none 0 0)) = true := Eq.trans rfl rfl
theorem okO_nilFunc : okO (.const .nilFunc) = true := Eq.trans rfl rfl
theorem okO_nilIface : okO (.const .nilIface) = true := Eq.trans rfl rfl
theorem okO_map0 : okO (.const (.map none)) = true := Eq.trans rfl rfl
theorem okO_agg (cs : Array Value) : okO (.const (.agg cs)) = cs.all plain1 := Eq.trans rfl rfl

section
variable (P : Program) (w0 : World) (n0 : Nat) (nr : Bool) (d : Option Tmp) (ty : TypeId) (pos : String) (aft : Array Edge) (g : Option (Nat × Bool)) (a : Act) (A : St) (next : Act → St → Prop) (Q : Exit → Act → St → Prop)

theorem wanted_none (ds : List (Option Tmp)) (t : Array Value) : wanted' ds none t = true := Eq.trans rfl rfl
def lookT (t : Array Value) (o : Option (Option Tmp)) : Option Value := match o with | some (some j) => t[j]? | _ => none
theorem lookT_some (n : Nat) (ρ : Nat → Value) (j : Nat) : lookT (tm n ρ) (some (some j)) = if j < n then some (ρ j) else none := tm_get? ..
theorem wanted_some (ds : List (Option Tmp)) (j : Nat) (w : Bool) (t : Array Value) : wanted' ds (some (j, w)) t = (isB (lookT t ds[j]?) == some w) := by
  unfold wanted' isB lookT
  simp only
  cases h : ds[j]? with
  | none => rfl
  | some o => cases o <;> rfl
theorem aopsL_nil (ds : List (Option Tmp)) : aopsL P w0 nr ds Q [] a A = Q .normal a A := Eq.trans rfl rfl
theorem aopsL_cons (ds : List (Option Tmp)) (o : Oper) (rest : List Oper) : aopsL P w0 nr ds Q (o :: rest) a A = wantV (wanted' ds o.guard a.tmps) P w0 nr o (aopsL P w0 nr ds Q rest) Q a A := by
  show (if wanted' ds o.guard a.tmps = true then _ else _) = _
  cases h : wanted' ds o.guard a.tmps <;> simp [wantV_true, wantV_false]
theorem wpA_skip : wpA P w0 n0 nr .skip Q a A = Q .normal a A := Eq.trans rfl rfl
theorem wpA_label (l : Nat) : wpA P w0 n0 nr (.label l) Q a A = Q .normal a A := Eq.trans rfl rfl
theorem wpA_exit (i : Nat) : wpA P w0 n0 nr (.exit i) Q a A = Q (.exit i) a A := Eq.trans rfl rfl
theorem wpA_goto (i : Nat) : wpA P w0 n0 nr (.goto i) Q a A = Q (.goto i) a A := Eq.trans rfl rfl
theorem wpA_ret : wpA P w0 n0 nr .ret Q a A = Q .ret a A := Eq.trans rfl rfl
theorem wpA_seq (x y : Code) : wpA P w0 n0 nr (.seq x y) Q a A = wpA P w0 n0 nr x (thenQ (wpA P w0 n0 nr y Q) Q) a A := Eq.trans rfl rfl
theorem wpA_block (i : Nat) (c : Code) : wpA P w0 n0 nr (.block i c) Q a A = wpA P w0 n0 nr c (blockQ i Q) a A := Eq.trans rfl rfl
theorem wpA_region (id : Nat) (ops : Array Oper) : wpA P w0 n0 nr (.region id ops false) Q a A = aopsL P w0 nr (ops.toList.map (·.dst)) Q ops.toList a A := Eq.trans rfl rfl
theorem wpA_cond (t : Nat) (x y : Code) : wpA P w0 n0 nr (.cond (.tmp t) x y) Q a A = condV (a.eval (.tmp t)) (wpA P w0 n0 nr x Q) (wpA P w0 n0 nr y Q) a A := by
  show (match a.tmps.getD t undef with | .bool b => (b = true → wpA P w0 n0 nr x Q a A) ∧ (b = false → wpA P w0 n0 nr y Q a A) | _ => False) = _
  unfold condV ifB Act.eval
  rfl
theorem wpA_loop (c : Code) : wpA P w0 n0 nr (.loop c) Q a A = AW P w0 n0 nr (.loop c) Q a A := Eq.trans rfl rfl
theorem wpA_rangeFunc (f : Operand) (ps : Array Tmp) (asg body : Code) : wpA P w0 n0 nr (.rangeFunc f ps asg body) Q a A = AW P w0 n0 nr (.rangeFunc f ps asg body) Q a A := Eq.trans rfl rfl
theorem wpA_draw (id : Nat) (ops : Array Oper) : wpA P w0 n0 nr (.region id ops true) Q a A = AW P w0 n0 nr (.region id ops true) Q a A := Eq.trans rfl rfl

theorem op_move (x : Operand) : aoper P w0 nr ⟨d, .move x, ty, pos, aft, g⟩ a A next Q = stepV (guardO (okO x) (some (a.eval x))) next a d A := by
  unfold aoper
  simp only [aop, Op.operands, Call.operands, List.all_toArray, List.all_cons, List.all_nil, Bool.and_true, List.append_toArray, List.nil_append, List.cons_append, List.append_nil, guardO, aop0]
  cases (okO x) <;> simp [stepV, abuiltin] <;> (try (cases (some (a.eval x)) <;> rfl)) <;> rfl
theorem op_assign (x : Operand) : aoper P w0 nr ⟨d, .assign x, ty, pos, aft, g⟩ a A next Q = stepV (guardO (okO x) (some (a.eval x))) next a d A := by
  unfold aoper
  simp only [aop, Op.operands, Call.operands, List.all_toArray, List.all_cons, List.all_nil, Bool.and_true, List.append_toArray, List.nil_append, List.cons_append, List.append_nil, guardO, aop0]
  cases (okO x) <;> simp [stepV, abuiltin] <;> (try (cases (some (a.eval x)) <;> rfl)) <;> rfl
def pickV (c a b : Value) : Option Value := match c with | .bool t => some (if t then a else b) | _ => none
theorem pickV_bool (t : Bool) (a b : Value) : pickV (.bool t) a b = some (if t then a else b) := rfl
theorem pickV_or (t y : Bool) : pickV (.bool t) (.bool true) (.bool y) = some (.bool (t || y)) := by cases t <;> rfl
theorem pickV_and (t y : Bool) : pickV (.bool t) (.bool y) (.bool false) = some (.bool (t && y)) := by cases t <;> rfl
theorem pickV_t {p : Prop} [Decidable p] (a b : Value) (h : p) : pickV (.bool (decide p)) a b = some a := by simp [pickV, h]
theorem pickV_f {p : Prop} [Decidable p] (a b : Value) (h : ¬ p) : pickV (.bool (decide p)) a b = some b := by simp [pickV, h]
theorem pickV_true (a b : Value) : pickV (.bool true) a b = some a := Eq.trans rfl rfl
theorem pickV_false (a b : Value) : pickV (.bool false) a b = some b := Eq.trans rfl rfl
theorem op_pick (c x y : Operand) : aoper P w0 nr ⟨d, .pick c x y, ty, pos, aft, g⟩ a A next Q = stepV (guardO (okO c && (okO x && okO y)) (pickV (a.eval c) (a.eval x) (a.eval y))) next a d A := by
  unfold aoper
  simp only [aop, Op.operands, List.all_toArray, List.all_cons, List.all_nil, Bool.and_true, guardO, aop0]
  cases (okO c && (okO x && okO y)) <;> simp [stepV, pickV]
  cases a.eval c <;> rfl
def allocV (z : Option Value) (t : TypeId) (A : St) : Option (Value × St) := z.map fun z => (.pointer (some ⟨A.next, 0, none⟩), A.alloc (.cells z.cells.toList t (some 0)))
theorem allocV_some (z : Value) (t : TypeId) : allocV (some z) t A = some (.pointer (some ⟨A.next, 0, none⟩), A.alloc (.cells z.cells.toList t (some 0))) := Eq.trans rfl rfl
theorem op_alloc (t : TypeId) : aoper P w0 nr ⟨d, .alloc t, ty, pos, aft, g⟩ a A next Q = stepA (allocV (tzero P t) t A) next a d := by
  unfold aoper
  simp only [aop, Op.operands, List.all_toArray, List.all_nil, if_true, aop0, stepA, allocV]
  rfl
theorem op_box (t : TypeId) (x : Operand) : aoper P w0 nr ⟨d, .box t x, ty, pos, aft, g⟩ a A next Q = stepA (guardO (okO x) (some (.pointer (some ⟨A.next, 0, none⟩), A.alloc (.cells (a.eval x).cells.toList t (some 0))))) next a d := by
  unfold aoper
  simp only [aop, Op.operands, Call.operands, List.all_toArray, List.all_cons, List.all_nil, Bool.and_true, List.append_toArray, List.nil_append, List.cons_append, List.append_nil, guardO, aop0]
  cases (okO x) <;> simp [stepA, abuiltin] <;> (try (cases (some (.pointer (some ⟨A.next, 0, none⟩), A.alloc (.cells (a.eval x).cells.toList t (some 0)))) <;> rfl)) <;> rfl
theorem op_load (t : TypeId) (x : Operand) : aoper P w0 nr ⟨d, .load t x, ty, pos, aft, g⟩ a A next Q = stepV (guardO (okO x) (aload P A t (a.eval x))) next a d A := by
  unfold aoper
  simp only [aop, Op.operands, Call.operands, List.all_toArray, List.all_cons, List.all_nil, Bool.and_true, List.append_toArray, List.nil_append, List.cons_append, List.append_nil, guardO, aop0]
  cases (okO x) <;> simp [stepV, abuiltin] <;> (try (cases (aload P A t (a.eval x)) <;> rfl)) <;> rfl
theorem op_nilCheck (x : Operand) : aoper P w0 nr ⟨d, .nilCheck x, ty, pos, aft, g⟩ a A next Q = stepV (guardO (okO x) (anilCheck (a.eval x))) next a d A := by
  unfold aoper
  simp only [aop, Op.operands, Call.operands, List.all_toArray, List.all_cons, List.all_nil, Bool.and_true, List.append_toArray, List.nil_append, List.cons_append, List.append_nil, guardO, aop0]
  cases (okO x) <;> simp [stepV, abuiltin] <;> (try (cases (anilCheck (a.eval x)) <;> rfl)) <;> rfl
theorem op_bin (op : BinOp) (t yt : TypeId) (x y : Operand) : aoper P w0 nr ⟨d, .binOp op t x y yt, ty, pos, aft, g⟩ a A next Q = stepV (guardO (okO x && okO y) (if t = bptr then abinA P A op t x y (a.eval x) (a.eval y) else abin P op t x y (a.eval x) (a.eval y))) next a d A := by
  unfold aoper
  simp only [aop, Op.operands, Call.operands, List.all_toArray, List.all_cons, List.all_nil, Bool.and_true, List.append_toArray, List.nil_append, List.cons_append, List.append_nil, guardO, aop0]
  cases (okO x && okO y) <;> simp [stepV, abuiltin] <;> (try (cases (if t = bptr then abinA P A op t x y (a.eval x) (a.eval y) else abin P op t x y (a.eval x) (a.eval y)) <;> rfl)) <;> rfl
theorem op_lookup (t : TypeId) (x y : Operand) (ok : Bool) : aoper P w0 nr ⟨d, .lookup t x y ok, ty, pos, aft, g⟩ a A next Q = stepV (guardO (okO x && okO y) (alookup P A t (a.eval x) (a.eval y) ok)) next a d A := by
  unfold aoper
  simp only [aop, Op.operands, Call.operands, List.all_toArray, List.all_cons, List.all_nil, Bool.and_true, List.append_toArray, List.nil_append, List.cons_append, List.append_nil, guardO, aop0]
  cases (okO x && okO y) <;> simp [stepV, abuiltin] <;> (try (cases (alookup P A t (a.eval x) (a.eval y) ok) <;> rfl)) <;> rfl
theorem op_un (op : UnOp) (t : TypeId) (x : Operand) : aoper P w0 nr ⟨d, .unOp op t x, ty, pos, aft, g⟩ a A next Q = stepV (guardO (okO x) (aun op (a.eval x))) next a d A := by
  unfold aoper
  simp only [aop, Op.operands, Call.operands, List.all_toArray, List.all_cons, List.all_nil, Bool.and_true, List.append_toArray, List.nil_append, List.cons_append, List.append_nil, guardO, aop0]
  cases (okO x) <;> simp [stepV, abuiltin] <;> (try (cases (aun op (a.eval x)) <;> rfl)) <;> rfl
theorem op_convert (s t : TypeId) (x : Operand) : aoper P w0 nr ⟨d, .convert s t x, ty, pos, aft, g⟩ a A next Q = stepA (guardO (okO x) (aconv P A s t (a.eval x))) next a d := by
  unfold aoper
  simp only [aop, Op.operands, Call.operands, List.all_toArray, List.all_cons, List.all_nil, Bool.and_true, List.append_toArray, List.nil_append, List.cons_append, List.append_nil, guardO, aop0]
  cases (okO x) <;> simp [stepA, abuiltin] <;> (try (cases (aconv P A s t (a.eval x)) <;> rfl)) <;> rfl
theorem op_makeInterface (t : TypeId) (x : Operand) : aoper P w0 nr ⟨d, .makeInterface t x, ty, pos, aft, g⟩ a A next Q = stepV (guardO (okO x) (amkIface P t (a.eval x))) next a d A := by
  unfold aoper
  simp only [aop, Op.operands, Call.operands, List.all_toArray, List.all_cons, List.all_nil, Bool.and_true, List.append_toArray, List.nil_append, List.cons_append, List.append_nil, guardO, aop0]
  cases (okO x) <;> simp [stepV, abuiltin] <;> (try (cases (amkIface P t (a.eval x)) <;> rfl)) <;> rfl
theorem op_makeSlice (t : TypeId) (x y : Operand) : aoper P w0 nr ⟨d, .makeSlice t x y, ty, pos, aft, g⟩ a A next Q = stepA (guardO (okO x && okO y) (amakeSlice P A t (a.eval x) (a.eval y))) next a d := by
  unfold aoper
  simp only [aop, Op.operands, Call.operands, List.all_toArray, List.all_cons, List.all_nil, Bool.and_true, List.append_toArray, List.nil_append, List.cons_append, List.append_nil, guardO, aop0]
  cases (okO x && okO y) <;> simp [stepA, abuiltin] <;> (try (cases (amakeSlice P A t (a.eval x) (a.eval y)) <;> rfl)) <;> rfl
theorem op_fieldAddr (t : TypeId) (x : Operand) (f : Nat) : aoper P w0 nr ⟨d, .fieldAddr t x f, ty, pos, aft, g⟩ a A next Q = stepV (guardO (okO x) (afieldAddr P t (a.eval x) f)) next a d A := by
  unfold aoper
  simp only [aop, Op.operands, Call.operands, List.all_toArray, List.all_cons, List.all_nil, Bool.and_true, List.append_toArray, List.nil_append, List.cons_append, List.append_nil, guardO, aop0]
  cases (okO x) <;> simp [stepV, abuiltin] <;> (try (cases (afieldAddr P t (a.eval x) f) <;> rfl)) <;> rfl
theorem op_field (t : TypeId) (x : Operand) (f : Nat) : aoper P w0 nr ⟨d, .field t x f, ty, pos, aft, g⟩ a A next Q = stepV (guardO (okO x) (afield P t (a.eval x) f)) next a d A := by
  unfold aoper
  simp only [aop, Op.operands, Call.operands, List.all_toArray, List.all_cons, List.all_nil, Bool.and_true, List.append_toArray, List.nil_append, List.cons_append, List.append_nil, guardO, aop0]
  cases (okO x) <;> simp [stepV, abuiltin] <;> (try (cases (afield P t (a.eval x) f) <;> rfl)) <;> rfl
theorem op_indexAddr (t : TypeId) (x y : Operand) : aoper P w0 nr ⟨d, .indexAddr t x y, ty, pos, aft, g⟩ a A next Q = stepV (guardO (okO x && okO y) (aindexAddr P t (a.eval x) (a.eval y))) next a d A := by
  unfold aoper
  simp only [aop, Op.operands, Call.operands, List.all_toArray, List.all_cons, List.all_nil, Bool.and_true, List.append_toArray, List.nil_append, List.cons_append, List.append_nil, guardO, aop0]
  cases (okO x && okO y) <;> simp [stepV, abuiltin] <;> (try (cases (aindexAddr P t (a.eval x) (a.eval y)) <;> rfl)) <;> rfl
theorem op_index (t : TypeId) (x y : Operand) : aoper P w0 nr ⟨d, .index t x y, ty, pos, aft, g⟩ a A next Q = stepV (guardO (okO x && okO y) (aindex P t (a.eval x) (a.eval y))) next a d A := by
  unfold aoper
  simp only [aop, Op.operands, Call.operands, List.all_toArray, List.all_cons, List.all_nil, Bool.and_true, List.append_toArray, List.nil_append, List.cons_append, List.append_nil, guardO, aop0]
  cases (okO x && okO y) <;> simp [stepV, abuiltin] <;> (try (cases (aindex P t (a.eval x) (a.eval y)) <;> rfl)) <;> rfl
theorem op_extract (x : Operand) (i : Nat) : aoper P w0 nr ⟨d, .extract x i, ty, pos, aft, g⟩ a A next Q = stepV (guardO (okO x) (aextract (a.eval x) i)) next a d A := by
  unfold aoper
  simp only [aop, Op.operands, Call.operands, List.all_toArray, List.all_cons, List.all_nil, Bool.and_true, List.append_toArray, List.nil_append, List.cons_append, List.append_nil, guardO, aop0]
  cases (okO x) <;> simp [stepV, abuiltin] <;> (try (cases (aextract (a.eval x) i) <;> rfl)) <;> rfl
theorem op_typeAssert (x : Operand) (xt t : TypeId) (ok : Bool) : aoper P w0 nr ⟨d, .typeAssert x xt t ok, ty, pos, aft, g⟩ a A next Q = stepV (guardO (okO x) (aassert P (a.eval x) t ok)) next a d A := by
  unfold aoper
  simp only [aop, Op.operands, Call.operands, List.all_toArray, List.all_cons, List.all_nil, Bool.and_true, List.append_toArray, List.nil_append, List.cons_append, List.append_nil, guardO, aop0]
  cases (okO x) <;> simp [stepV, abuiltin] <;> (try (cases (aassert P (a.eval x) t ok) <;> rfl)) <;> rfl
def storeV (o : Option St) : Option (Value × St) := o.map (undef, ·)
theorem storeV_some (A : St) : storeV (some A) = some (undef, A) := Eq.trans rfl rfl
theorem op_store (t : TypeId) (x y : Operand) : aoper P w0 nr ⟨d, .store t x y, ty, pos, aft, g⟩ a A next Q = stepA (guardO (okO x && okO y) (storeV (astore P A t (a.eval x) (a.eval y)))) next a d := by
  unfold aoper
  simp only [aop, Op.operands, Call.operands, List.all_toArray, List.all_cons, List.all_nil, Bool.and_true, List.append_toArray, List.nil_append, List.cons_append, List.append_nil, guardO, aop0]
  cases (okO x && okO y) <;> simp [stepA, abuiltin] <;> (try (cases (storeV (astore P A t (a.eval x) (a.eval y))) <;> rfl)) <;> rfl
theorem op_makeMap (t : TypeId) : aoper P w0 nr ⟨d, .makeMap t none, ty, pos, aft, g⟩ a A next Q = stepA (some (.map (some A.next), A.alloc (.smap []))) next a d := by
  unfold aoper
  simp only [aop, Op.operands, Option.toArray_none, List.all_toArray, List.all_nil, if_true, aop0, stepA]
theorem op_mapUpdate (t : TypeId) (x y z : Operand) : aoper P w0 nr ⟨d, .mapUpdate t x y z, ty, pos, aft, g⟩ a A next Q = stepA (guardO (okO x && (okO y && okO z)) (storeV (amapSet P A t (a.eval x) (a.eval y) (a.eval z)))) next a d := by
  unfold aoper
  simp only [aop, Op.operands, List.all_toArray, List.all_cons, List.all_nil, Bool.and_true, guardO, aop0]
  cases (okO x && (okO y && okO z)) <;> simp [stepA, storeV]
  cases (amapSet P A t (a.eval x) (a.eval y) (a.eval z)) <;> rfl
theorem op_slice00 (t : TypeId) (x : Operand) : aoper P w0 nr ⟨d, .slice t x none none none, ty, pos, aft, g⟩ a A next Q = stepV (guardO (okO x) (aslice P t (a.eval x) none none none)) next a d A := by
  unfold aoper
  simp only [aop, Op.operands, Option.toArray_some, Option.toArray_none, List.all_toArray, List.all_cons, List.all_nil, Bool.and_true, Bool.true_and, List.append_toArray, List.nil_append, List.cons_append, List.append_nil, Array.append_empty, List.all_append, guardO, aop0, Option.map_some, Option.map_none]
  cases (okO x) <;> simp [stepV] <;> cases (aslice P t (a.eval x) none none none) <;> rfl
theorem op_slice10 (t : TypeId) (x l : Operand) : aoper P w0 nr ⟨d, .slice t x (some l) none none, ty, pos, aft, g⟩ a A next Q = stepV (guardO (okO x && okO l) (aslice P t (a.eval x) (some (a.eval l)) none none)) next a d A := by
  unfold aoper
  simp only [aop, Op.operands, Option.toArray_some, Option.toArray_none, List.all_toArray, List.all_cons, List.all_nil, Bool.and_true, Bool.true_and, List.append_toArray, List.nil_append, List.cons_append, List.append_nil, Array.append_empty, List.all_append, guardO, aop0, Option.map_some, Option.map_none]
  cases (okO x && okO l) <;> simp [stepV] <;> cases (aslice P t (a.eval x) (some (a.eval l)) none none) <;> rfl
theorem op_slice01 (t : TypeId) (x h : Operand) : aoper P w0 nr ⟨d, .slice t x none (some h) none, ty, pos, aft, g⟩ a A next Q = stepV (guardO (okO x && okO h) (aslice P t (a.eval x) none (some (a.eval h)) none)) next a d A := by
  unfold aoper
  simp only [aop, Op.operands, Option.toArray_some, Option.toArray_none, List.all_toArray, List.all_cons, List.all_nil, Bool.and_true, Bool.true_and, List.append_toArray, List.nil_append, List.cons_append, List.append_nil, Array.append_empty, List.all_append, guardO, aop0, Option.map_some, Option.map_none]
  cases (okO x && okO h) <;> simp [stepV] <;> cases (aslice P t (a.eval x) none (some (a.eval h)) none) <;> rfl
theorem op_slice11 (t : TypeId) (x l h : Operand) : aoper P w0 nr ⟨d, .slice t x (some l) (some h) none, ty, pos, aft, g⟩ a A next Q = stepV (guardO (okO x && (okO l && okO h)) (aslice P t (a.eval x) (some (a.eval l)) (some (a.eval h)) none)) next a d A := by
  unfold aoper
  simp only [aop, Op.operands, Option.toArray_some, Option.toArray_none, List.all_toArray, List.all_cons, List.all_nil, Bool.and_true, Bool.true_and, List.append_toArray, List.nil_append, List.cons_append, List.append_nil, Array.append_empty, List.all_append, guardO, aop0, Option.map_some, Option.map_none]
  cases (okO x && (okO l && okO h)) <;> simp [stepV] <;> cases (aslice P t (a.eval x) (some (a.eval l)) (some (a.eval h)) none) <;> rfl
theorem op_slice111 (t : TypeId) (x l h m : Operand) : aoper P w0 nr ⟨d, .slice t x (some l) (some h) (some m), ty, pos, aft, g⟩ a A next Q = stepV (guardO (okO x && (okO l && (okO h && okO m))) (aslice P t (a.eval x) (some (a.eval l)) (some (a.eval h)) (some (a.eval m)))) next a d A := by
  unfold aoper
  simp only [aop, Op.operands, Option.toArray_some, Option.toArray_none, List.all_toArray, List.all_cons, List.all_nil, Bool.and_true, Bool.true_and, List.append_toArray, List.nil_append, List.cons_append, List.append_nil, Array.append_empty, List.all_append, guardO, aop0, Option.map_some, Option.map_none]
  cases (okO x && (okO l && (okO h && okO m))) <;> simp [stepV] <;> cases (aslice P t (a.eval x) (some (a.eval l)) (some (a.eval h)) (some (a.eval m))) <;> rfl
theorem op_slice011 (t : TypeId) (x h m : Operand) : aoper P w0 nr ⟨d, .slice t x none (some h) (some m), ty, pos, aft, g⟩ a A next Q = stepV (guardO (okO x && (okO h && okO m)) (aslice P t (a.eval x) none (some (a.eval h)) (some (a.eval m)))) next a d A := by
  unfold aoper
  simp only [aop, Op.operands, Option.toArray_some, Option.toArray_none, List.all_toArray, List.all_cons, List.all_nil, Bool.and_true, Bool.true_and, List.append_toArray, List.nil_append, List.cons_append, List.append_nil, Array.append_empty, List.all_append, guardO, aop0, Option.map_some, Option.map_none]
  cases (okO x && (okO h && okO m)) <;> simp [stepV] <;> cases (aslice P t (a.eval x) none (some (a.eval h)) (some (a.eval m))) <;> rfl
theorem op_build (t : TypeId) (ps : Array (Nat × Operand)) : aoper P w0 nr ⟨d, .build t ps, ty, pos, aft, g⟩ a A next Q = stepV (guardO ((ps.toList.map (·.2)).all okO) (abuild P t (ps.map fun (i, x) => (i, a.eval x)))) next a d A := by
  unfold aoper
  simp only [aop, Op.operands, List.all_toArray, guardO, aop0]
  cases ((ps.toList.map (·.2)).all okO) <;> simp [stepV]
  cases abuild P t (ps.map fun (i, x) => (i, a.eval x)) <;> rfl
theorem op_buildSlice (t : TypeId) (n : Nat) (ps : Array (Nat × Operand)) : aoper P w0 nr ⟨d, .buildSlice t n ps, ty, pos, aft, g⟩ a A next Q = stepA (guardO ((ps.toList.map (·.2)).all okO) (abuildSlice P A t n (ps.map fun (i, x) => (i, a.eval x)))) next a d := by
  unfold aoper
  simp only [aop, Op.operands, List.all_toArray, guardO, aop0]
  cases ((ps.toList.map (·.2)).all okO) <;> simp [stepA] <;> rfl
theorem op_makeFunc (f : Nat) (fs cs : Array Operand) : aoper P w0 nr ⟨d, .makeFunc (.func f) fs cs, ty, pos, aft, g⟩ a A next Q = stepV (guardO ((fs ++ cs).all okO) (some (.func (.func f) (fs.map a.eval) (cs.map a.eval)))) next a d A := by
  unfold aoper
  simp only [aop, Op.operands, guardO, aop0, notYield, if_true]
  cases ((fs ++ cs).all okO) <;> simp [stepV]
def callV (b : Bool) (X : Prop) : Prop := b = true ∧ X
theorem callV_true (X : Prop) : callV true X = X := by simp [callV]
theorem op_call (f : Operand) (args : Array Operand) (ts : Array TypeId) : aoper P w0 nr ⟨d, .call { callee := .value f, args, argTypes := ts }, ty, pos, aft, g⟩ a A next Q = callV (okO f && args.all okO) (ACallV P w0 (a.eval f) (args.map a.eval) A (afterCall d a next Q)) := Eq.trans rfl rfl
theorem op_builtin (b : Builtin) (args : Array Operand) (ts : Array TypeId) : aoper P w0 nr ⟨d, .call { callee := .builtin b, args, argTypes := ts }, ty, pos, aft, g⟩ a A next Q = stepA (guardO (args.all okO) (abuiltin P A b ts.toList (args.toList.map a.eval))) next a d := by
  unfold aoper
  simp only [aop, Op.operands, Call.operands, guardO, aop0, Array.empty_append]
  cases args.all okO <;> simp [stepA] <;> rfl
def panicV (b : Bool) (v : Value) (a : Act) (A : St) (Q : Exit → Act → St → Prop) : Prop := b = true ∧ match v with | .iface t v => Q (.panic [⟨.iface t v, false, false⟩]) a A | _ => False
theorem panicV_iface (t : TypeId) (v : Value) : panicV true (.iface t v) a A Q = Q (.panic [⟨.iface t v, false, false⟩]) a A := by simp [panicV]
theorem op_panic (x : Operand) : aoper P w0 nr ⟨d, .panic x, ty, pos, aft, g⟩ a A next Q = panicV (okO x) (a.eval x) a A Q := Eq.trans rfl rfl
theorem ACallV_func (f : Nat) (fs cs args : Array Value) (R : Ending → St → Prop) : ACallV P w0 (.func (.func f) fs cs) args A R = ACallF P w0 (noBody P f) f (fs ++ args ++ cs) A R := Eq.trans rfl rfl
theorem ACallF_false (f : Nat) (args : Array Value) (R : Ending → St → Prop) : ACallF P w0 false f args A R = ACalls P w0 f args A R := by simp [ACallF]
theorem ACallF_true (f : Nat) (args : Array Value) (R : Ending → St → Prop) : ACallF P w0 true f args A R = AExt P w0 f args A R := by simp [ACallF]
theorem ACallV_yield (l : Nat) (fs cs args : Array Value) (R : Ending → St → Prop) : ACallV P w0 (.func (.yield l) fs cs) args A R = AYield P w0 l args A R := Eq.trans rfl rfl
theorem afterCall_returned (v : Value) (A' : St) : afterCall d a next Q (.returned v) A' = next (a.put d v) A' := Eq.trans rfl rfl
theorem afterCall_panicked (c : List PanicEntry) (A' : St) : afterCall d a next Q (.panicked c) A' = Q (.panic c) a A' := Eq.trans rfl rfl


/-! Single operations, by the shape of their values. -/
variable (t u s : TypeId) (x y : Operand) (k k' : IntKind)
theorem bin_add (i j : Int) : abin P .add t x y (.int k i) (.int k j) = some (.int k (k.wrap (i + j))) := by simp [abin, ibin]
theorem bin_sub (i j : Int) : abin P .sub t x y (.int k i) (.int k j) = some (.int k (k.wrap (i - j))) := by simp [abin, ibin]
theorem bin_mul (i j : Int) : abin P .mul t x y (.int k i) (.int k j) = some (.int k (k.wrap (i * j))) := by simp [abin, ibin]
theorem bin_and (i j : Int) : abin P .and t x y (.int k i) (.int k j) = some (.int k (ibits .and k i j)) := by simp [abin, ibin]
theorem bin_or (i j : Int) : abin P .or t x y (.int k i) (.int k j) = some (.int k (ibits .or k i j)) := by simp [abin, ibin]
theorem bin_xor (i j : Int) : abin P .xor t x y (.int k i) (.int k j) = some (.int k (ibits .xor k i j)) := by simp [abin, ibin]
theorem bin_andNot (i j : Int) : abin P .andNot t x y (.int k i) (.int k j) = some (.int k (ibits .andNot k i j)) := by simp [abin, ibin]
theorem bin_eql (i j : Int) : abin P .eql t x y (.int k i) (.int k j) = some (.bool (decide (i = j))) := by simp only [abin, ibin, if_true, Option.some.injEq, Value.bool.injEq]; by_cases h : i = j <;> simp [h]
theorem bin_neq (i j : Int) : abin P .neq t x y (.int k i) (.int k j) = some (.bool (decide (i ≠ j))) := by simp only [abin, ibin, if_true, Option.some.injEq, Value.bool.injEq]; by_cases h : i = j <;> simp [h]
theorem bin_lss (i j : Int) : abin P .lss t x y (.int k i) (.int k j) = some (.bool (decide (i < j))) := by simp [abin, ibin]
theorem bin_leq (i j : Int) : abin P .leq t x y (.int k i) (.int k j) = some (.bool (decide (i ≤ j))) := by simp [abin, ibin]
theorem bin_gtr (i j : Int) : abin P .gtr t x y (.int k i) (.int k j) = some (.bool (decide (i > j))) := by simp [abin, ibin]
theorem bin_geq (i j : Int) : abin P .geq t x y (.int k i) (.int k j) = some (.bool (decide (i ≥ j))) := by simp [abin, ibin]
theorem bin_quo (i j : Int) (h : j ≠ 0) : abin P .quo t x y (.int k i) (.int k j) = some (.int k (k.wrap (i.tdiv j))) := by simp [abin, ibin, h]
theorem bin_rem (i j : Int) (h : j ≠ 0) : abin P .rem t x y (.int k i) (.int k j) = some (.int k (i.tmod j)) := by simp [abin, ibin, h]
theorem bin_shl (i j : Int) (h : 0 ≤ j) : abin P .shl t x y (.int k i) (.int k' j) = some (.int k (ishl k i j)) := by simp [abin, show ¬ j < 0 by omega]
theorem bin_shr (i j : Int) (h : 0 ≤ j) : abin P .shr t x y (.int k i) (.int k' j) = some (.int k (ishr k i j)) := by simp [abin, show ¬ j < 0 by omega]
theorem bin_sadd (p q : ByteArray) (h : p.size + q.size ≤ 9223372036854775807) : abin P .add t x y (.string p) (.string q) = some (.string (p ++ q)) := by simp [abin, sbin, h]
theorem bin_seql (p q : ByteArray) : abin P .eql t x y (.string p) (.string q) = some (.bool (p == q)) := Eq.trans rfl rfl
theorem bin_sneq (p q : ByteArray) : abin P .neq t x y (.string p) (.string q) = some (.bool (!(p == q))) := Eq.trans rfl rfl
theorem bin_slss (p q : ByteArray) : abin P .lss t x y (.string p) (.string q) = some (.bool (Op.bytesLess p.toList q.toList)) := Eq.trans rfl rfl
def uB (o : Option TypeDesc) (v : Value) : Option Value := match o with | some .bool => some v | _ => none
theorem uB_bool (v : Value) : uB (some .bool) v = some v := Eq.trans rfl rfl
theorem bin_beql (p q : Bool) : abin P .eql t x y (.bool p) (.bool q) = uB (P.underlying t) (.bool (p == q)) := by
  simp only [abin, uB]; split <;> simp_all
theorem bin_bneq (p q : Bool) : abin P .neq t x y (.bool p) (.bool q) = uB (P.underlying t) (.bool (!(p == q))) := by
  simp only [abin, uB]; split <;> simp_all
def uP (o : Option TypeDesc) (v : Value) : Option Value := match o with | some (.pointer _) => some v | _ => none
theorem uP_pointer (e : TypeId) (v : Value) : uP (some (.pointer e)) v = some v := Eq.trans rfl rfl
theorem bin_peql (p : Option Addr) : abin P .eql t x y (.pointer p) (.pointer none) = uP (P.underlying t) (.bool p.isNone) := by
  simp only [abin, uP]; split <;> simp_all
theorem bin_pneq (p : Option Addr) : abin P .neq t x y (.pointer p) (.pointer none) = uP (P.underlying t) (.bool (!p.isNone)) := by
  simp only [abin, uP]; split <;> simp_all
def uS (o : Option TypeDesc) (v : Value) : Option Value := match o with | some (.slice _) => some v | _ => none
theorem uS_slice (e : TypeId) (v : Value) : uS (some (.slice e)) v = some v := Eq.trans rfl rfl
theorem bin_leql (p : Option Addr) (m n m' n' : Nat) : abin P .eql t x y (.slice p m n) (.slice none m' n') = uS (P.underlying t) (.bool p.isNone) := by
  simp only [abin, uS]; split <;> simp_all
theorem bin_lneq (p : Option Addr) (m n m' n' : Nat) : abin P .neq t x y (.slice p m n) (.slice none m' n') = uS (P.underlying t) (.bool (!p.isNone)) := by
  simp only [abin, uS]; split <;> simp_all
def uI (o : Option TypeDesc) (v : Value) : Option Value := match o with | some (.interface _) => some v | _ => none
theorem bin_ieql (u : TypeId) (v : Value) : abin P .eql t x y (.iface u v) .nilIface = uI (P.underlying t) (.bool false) := by
  simp only [abin, uI]; split <;> simp_all
theorem bin_ineq (u : TypeId) (v : Value) : abin P .neq t x y (.iface u v) .nilIface = uI (P.underlying t) (.bool true) := by
  simp only [abin, uI]; split <;> simp_all
theorem bin_neql (h : (isC x || isC y) = true) : abin P .eql t x y .nilIface .nilIface = uI (P.underlying t) (.bool true) := by
  simp only [abin, uI, h]; split <;> simp_all
theorem bin_nneq (h : (isC x || isC y) = true) : abin P .neq t x y .nilIface .nilIface = uI (P.underlying t) (.bool false) := by
  simp only [abin, uI, h]; split <;> simp_all
theorem un_neg (i : Int) : aun .neg (.int k i) = some (.int k (k.wrap (0 - i))) := Eq.trans rfl rfl
theorem un_xor (i : Int) : aun .xor (.int k i) = some (.int k (ibits .xor k (if k.signed then -1 else k.max) i)) := Eq.trans rfl rfl
theorem un_not (b : Bool) : aun .not (.bool b) = some (.bool (!b)) := Eq.trans rfl rfl

theorem nilCheck_ptr (p : Addr) : anilCheck (.pointer (some p)) = some (.pointer (some p)) := Eq.trans rfl rfl
theorem nilCheck_func (f : Nat) (p q : Array Value) : anilCheck (.func (.func f) p q) = some (.func (.func f) p q) := Eq.trans rfl rfl
theorem nilCheck_yield (l : Nat) (p q : Array Value) : anilCheck (.func (.yield l) p q) = some (.func (.yield l) p q) := Eq.trans rfl rfl
/-- Loads and stores, with what is told of the type and of the block. -/
def loadC (ag : Option Bool) (sz : Option Nat) (B : Option Blk) (off : Nat) : Option Value :=
  match ag, sz, B with
  | some true, some sz, some (.cells cs _ _) => if off + sz ≤ cs.length then some (.agg ((cs.drop off).take sz).toArray) else none
  | some false, _, some (.cells cs _ _) => cs[off]?
  | _, _, _ => none
theorem load_ptr (b off : Nat) : aload P A t (.pointer (some ⟨b, off, none⟩)) = loadC (tagg P t) (tsz P t) (A.get b) off := by
  unfold aload loadC; rfl
theorem loadC_one (sz : Option Nat) (cs : List Value) (e : TypeId) (m : Option Nat) (off : Nat) : loadC (some false) sz (some (.cells cs e m)) off = cs[off]? := Eq.trans rfl rfl
theorem loadC_agg (sz : Nat) (cs : List Value) (e : TypeId) (m : Option Nat) (off : Nat) (h : off + sz ≤ cs.length) : loadC (some true) (some sz) (some (.cells cs e m)) off = some (.agg ((cs.drop off).take sz).toArray) := by simp [loadC, h]
def storeC (A : St) (sz : Option Nat) (B : Option Blk) (b off : Nat) (v : Value) : Option St :=
  match B with
  | some (.cells cs e (some k)) => if sz = some v.cells.size ∧ k ≤ off ∧ off + v.cells.size ≤ cs.length ∧ v.cells.all cell1 = true then some (A.upd b (some (.cells (setList cs off v.cells.toList) e (some k)))) else none
  | _ => none
theorem store_ptr (b off : Nat) (v : Value) : astore P A t (.pointer (some ⟨b, off, none⟩)) v = storeC A (tsz P t) (A.get b) b off v := Eq.trans rfl rfl
theorem storeC_cells (sz b off k : Nat) (cs : List Value) (e : TypeId) (v : Value) (h : sz = v.cells.size ∧ k ≤ off ∧ off + v.cells.size ≤ cs.length ∧ v.cells.all cell1 = true) : storeC A (some sz) (some (.cells cs e (some k))) b off v = some (A.upd b (some (.cells (setList cs off v.cells.toList) e (some k)))) := by
  simp only [storeC]; rw [if_pos ⟨by rw [h.1], h.2⟩]
def c1 (v : Value) : Bool := match v with | .agg _ => false | _ => true
theorem storeC_one (b off k : Nat) (cs : List Value) (e : TypeId) (v : Value) (hv : v.cells = #[v]) (hc : cell1 v = true) (h1 : k ≤ off) (h2 : off + 1 ≤ cs.length) : storeC A (some 1) (some (.cells cs e (some k))) b off v = some (A.upd b (some (.cells (cs.set off v) e (some k)))) := by
  rw [storeC_cells]
  · rw [hv]; rfl
  · rw [hv]; simp [hc]; omega
def mval (o : Option Value) (z : Value) (ok : Bool) : Value := match o with | some v => if ok then .tuple #[v, .bool true] else v | none => if ok then .tuple #[z, .bool false] else z
theorem mval_some (v z : Value) : mval (some v) z true = .tuple #[v, .bool true] := Eq.trans rfl rfl
theorem mval_none (z : Value) : mval none z true = .tuple #[z, .bool false] := Eq.trans rfl rfl
def lookK (o : Option TypeDesc) (B : Option Blk) (z : Option Value) (s : ByteArray) (ok : Bool) : Option Value := match o, B, z with | some .string, some (.smap L), some z => some (mval (smGet L s) z ok) | _, _, _ => none
def lookU (P : Program) (o : Option TypeDesc) (B : Option Blk) (s : ByteArray) (ok : Bool) : Option Value := match o with | some (.map kt et) => lookK (P.underlying kt) B (tzero P et) s ok | _ => none
theorem lookup_map (b : Nat) (s : ByteArray) (ok : Bool) : alookup P A t (.map (some b)) (.string s) ok = lookU P (P.underlying t) (A.get b) s ok := by
  unfold alookup lookU
  cases h : P.underlying t with
  | none => rfl
  | some u =>
    cases u <;> try rfl
    rename_i kt et
    simp only [lookK]
    split <;> simp_all [mval]
    split <;> simp_all
theorem lookU_map (kt et : TypeId) (B : Option Blk) (s : ByteArray) (ok : Bool) : lookU P (some (.map kt et)) B s ok = lookK (P.underlying kt) B (tzero P et) s ok := Eq.trans rfl rfl
theorem lookK_smap (L : List (ByteArray × Value)) (z : Value) (s : ByteArray) (ok : Bool) : lookK (some .string) (some (.smap L)) (some z) s ok = some (mval (smGet L s) z ok) := Eq.trans rfl rfl
def msetK (A : St) (o : Option TypeDesc) (B : Option Blk) (b : Nat) (s : ByteArray) (x : Value) : Option St := match o, B with | some .string, some (.smap L) => if plainV x then some (A.upd b (some (.smap (smSet L s x)))) else none | _, _ => none
def msetU (P : Program) (A : St) (o : Option TypeDesc) (B : Option Blk) (b : Nat) (s : ByteArray) (x : Value) : Option St := match o with | some (.map kt _) => msetK A (P.underlying kt) B b s x | _ => none
theorem mapSet_map (b : Nat) (s : ByteArray) (x : Value) : amapSet P A t (.map (some b)) (.string s) x = msetU P A (P.underlying t) (A.get b) b s x := by
  unfold amapSet msetU
  cases h : P.underlying t with
  | none => rfl
  | some u => cases u <;> rfl
theorem msetU_map (kt et : TypeId) (B : Option Blk) (b : Nat) (s : ByteArray) (x : Value) : msetU P A (some (.map kt et)) B b s x = msetK A (P.underlying kt) B b s x := Eq.trans rfl rfl
theorem msetK_int (L : List (ByteArray × Value)) (b : Nat) (s : ByteArray) (k : IntKind) (i : Int) : msetK A (some .string) (some (.smap L)) b s (.int k i) = some (A.upd b (some (.smap (smSet L s (.int k i))))) := Eq.trans rfl rfl
theorem bin_same (b off : Nat) (sp : Option Nat) (op : BinOp) (x y : Operand) : abinA P A op t x y (.pointer (some ⟨b, off, sp⟩)) (.pointer (some ⟨b, off, sp⟩)) = asame P A op t ⟨b, off, sp⟩ ⟨b, off, sp⟩ := Eq.trans rfl rfl
theorem bin_nil (op : BinOp) (x y : Operand) (p : Option Addr) : abinA P A op t x y (.pointer p) (.pointer none) = abin P op t x y (.pointer p) (.pointer none) := by cases p <;> rfl
theorem bdata_nil (n c : Nat) : asliceData A (.slice none n c) = some (.pointer none, A) := Eq.trans rfl rfl
theorem bdata_some (b off : Nat) (sp : Option Nat) (n c : Nat) (h : n ≠ 0) : asliceData A (.slice (some ⟨b, off, sp⟩) n c) = some (.pointer (some ⟨b, off, none⟩), A) := by simp [asliceData, h]
theorem builtin_data (ts : List TypeId) (v : Value) : abuiltin P A .unsafeSliceData ts [v] = asliceData A v := Eq.trans rfl rfl
theorem builtin_str (pt it : TypeId) (p : Option Addr) (n : Int) : abuiltin P A .unsafeString [pt, it] [.pointer p, .int .i64 n] = aunsafeStr P A pt p n := Eq.trans rfl rfl
def boundV (y : Nat) (v : Value) : Option Nat := abound1 y v
theorem bound_int (n : Nat) (i : Int) (h0 : 0 ≤ i) (h1 : i ≤ n) : abound1 n (.int k i) = some i.toNat := by simp [abound1, h0, h1]
theorem bounds_11 (n m : Nat) (i j : Int) (h0 : 0 ≤ i) (h1 : i ≤ j) (h2 : j ≤ m) : abounds n m (some (.int k i)) (some (.int k' j)) none = some (i.toNat, j.toNat, m) := by
  have : i ≤ (j.toNat : Int) := by omega
  have h3 : 0 ≤ j := by omega
  simp only [abounds, abound1, h0, h2, h3, this, and_self, if_true, Option.bind_some, Option.map_some]
theorem bounds_10 (n m : Nat) (i : Int) (h0 : 0 ≤ i) (h1 : i ≤ n) : abounds n m (some (.int k i)) none none = some (i.toNat, n, m) := by
  simp [abounds, abound1, h0, h1]
theorem bounds_01 (n m : Nat) (j : Int) (h0 : 0 ≤ j) (h1 : j ≤ m) : abounds n m none (some (.int k j)) none = some (0, j.toNat, m) := by
  simp [abounds, abound1, h0, h1]
theorem bounds_00 (n m : Nat) : abounds n m none none none = some (0, n, m) := Eq.trans rfl rfl
def sliceU (o : Option TypeDesc) (sz : TypeId → Option Nat) (x : Value) (lo hi mx : Option Value) : Option Value :=
  match o, x with
  | some .string, .string s => if mx.isSome then none else asliceS s lo hi
  | some (.slice e), .slice a len cap => (sz e).bind fun sz => asliceL sz a len cap lo hi mx
  | some (.array n e), .pointer (some ⟨b, off, none⟩) => (sz e).bind fun sz => asliceL sz (some ⟨b, off, none⟩) n n lo hi mx
  | _, _ => none
theorem slice_eq (v : Value) (lo hi mx : Option Value) : aslice P t v lo hi mx = sliceU (P.underlying t) (tsz P) v lo hi mx := Eq.trans rfl rfl
theorem sliceU_string (f : TypeId → Option Nat) (p : ByteArray) (lo hi : Option Value) : sliceU (some .string) f (.string p) lo hi none = asliceS p lo hi := Eq.trans rfl rfl
theorem sliceU_slice (f : TypeId → Option Nat) (e : TypeId) (ad : Option Addr) (n c : Nat) (lo hi mx : Option Value) : sliceU (some (.slice e)) f (.slice ad n c) lo hi mx = (f e).bind fun sz => asliceL sz ad n c lo hi mx := Eq.trans rfl rfl
theorem sliceU_array (f : TypeId → Option Nat) (m : Nat) (e : TypeId) (b off : Nat) (lo hi mx : Option Value) : sliceU (some (.array m e)) f (.pointer (some ⟨b, off, none⟩)) lo hi mx = (f e).bind fun sz => asliceL sz (some ⟨b, off, none⟩) m m lo hi mx := Eq.trans rfl rfl
def boundsS (o : Option (Nat × Nat × Nat)) (p : ByteArray) : Option Value := o.map fun (l, h, _) => .string (p.extract l h)
theorem sliceS_eq (p : ByteArray) (lo hi : Option Value) : asliceS p lo hi = boundsS (abounds p.size p.size lo hi none) p := Eq.trans rfl rfl
theorem boundsS_some (l h m : Nat) (p : ByteArray) : boundsS (some (l, h, m)) p = some (.string (p.extract l h)) := Eq.trans rfl rfl
def boundsL (o : Option (Nat × Nat × Nat)) (sz : Nat) (ad : Option Addr) (mx : Bool) : Option Value :=
  match o with
  | none => none
  | some (l, h, m) =>
    match ad with
    | none => some (.slice none (h - l) (m - l))
    | some ⟨b, off, sp⟩ =>
      match sp, mx with
      | none, _ | some 0, false => some (.slice (some ⟨b, off + l * sz, sp⟩) (h - l) (m - l))
      | some (k + 1), false => if k + 1 = sz then some (.slice (some ⟨b, off + l * sz, sp⟩) (h - l) (m - l)) else none
      | _, true => some (.slice (some ⟨b, off + l * sz, none⟩) (h - l) (m - l))
theorem sliceL_eq (sz : Nat) (ad : Option Addr) (n c : Nat) (lo hi mx : Option Value) : asliceL sz ad n c lo hi mx = boundsL (abounds n c lo hi mx) sz ad mx.isSome := Eq.trans rfl rfl
theorem boundsL_nil (l h m sz : Nat) (mx : Bool) : boundsL (some (l, h, m)) sz none mx = some (.slice none (h - l) (m - l)) := Eq.trans rfl rfl
theorem boundsL_exact (l h m sz b off : Nat) (mx : Bool) : boundsL (some (l, h, m)) sz (some ⟨b, off, none⟩) mx = some (.slice (some ⟨b, off + l * sz, none⟩) (h - l) (m - l)) := Eq.trans rfl rfl
theorem boundsL_least (l h m sz b off : Nat) : boundsL (some (l, h, m)) sz (some ⟨b, off, some 0⟩) false = some (.slice (some ⟨b, off + l * sz, some 0⟩) (h - l) (m - l)) := Eq.trans rfl rfl
theorem boundsL_own (l h m b off : Nat) : boundsL (some (l, h, m)) 1 (some ⟨b, off, some 1⟩) false = some (.slice (some ⟨b, off + l * 1, some 1⟩) (h - l) (m - l)) := Eq.trans rfl rfl
theorem boundsL_ownN (l h m b off k : Nat) : boundsL (some (l, h, m)) (k + 1) (some ⟨b, off, some (k + 1)⟩) false = some (.slice (some ⟨b, off + l * (k + 1), some (k + 1)⟩) (h - l) (m - l)) := by simp [boundsL]
def lenU (o : Option TypeDesc) (v : Value) : Option (Value × St) :=
  ((match o, v with
  | some .string, .string s => some (.int .i64 s.size)
  | some (.array n _), _ => some (.int .i64 n)
  | some (.slice _), .slice _ n _ => some (.int .i64 n)
  | some (.map _ _), .map none => some (.int .i64 0)
  | _, _ => none : Option Value)).map (·, A)
theorem builtin_len (v : Value) : abuiltin P A .len [t] [v] = lenU A (P.underlying t) v := Eq.trans rfl rfl
theorem len_string (p : ByteArray) : lenU A (some .string) (.string p) = some (.int .i64 p.size, A) := Eq.trans rfl rfl
theorem len_array (n : Nat) (e : TypeId) (v : Value) : lenU A (some (.array n e)) v = some (.int .i64 n, A) := by cases v <;> rfl
theorem len_slice (e : TypeId) (p : Option Addr) (n c : Nat) : lenU A (some (.slice e)) (.slice p n c) = some (.int .i64 n, A) := Eq.trans rfl rfl
theorem builtin_append (s x : Value) : abuiltin P A .append [t, u] [s, x] = aappend P A t u s x := Eq.trans rfl rfl
theorem builtin_copy (s x : Value) : abuiltin P A .copy [t, u] [s, x] = acopy P A t s x := Eq.trans rfl rfl
def pairA (o : Option Value) (A : St) : Option (Value × St) := o.map (·, A)
theorem pairA_some (v : Value) : pairA (some v) A = some (v, A) := Eq.trans rfl rfl
theorem builtin_min (ts : List TypeId) (vs : List Value) : abuiltin P A .min ts vs = pairA (amm false vs) A := Eq.trans rfl rfl
theorem builtin_max (ts : List TypeId) (vs : List Value) : abuiltin P A .max ts vs = pairA (amm true vs) A := Eq.trans rfl rfl
theorem min_two (i j : Int) : amm false [.int k i, .int k' j] = some (.int k (if j < i then j else i)) := Eq.trans rfl rfl
theorem max_two (i j : Int) : amm true [.int k i, .int k' j] = some (.int k (if j > i then j else i)) := Eq.trans rfl rfl
def indexU (P : Program) (o : Option TypeDesc) (x i : Value) : Option Value :=
  match o, x, i with
  | some (.array n e), .agg cs, .int _ j => if 0 ≤ j ∧ j < n then (tsz P e).bind fun sz => apart P e cs (j.toNat * sz) else none
  | some .string, .string s, .int _ j => if 0 ≤ j ∧ j < s.size then some (.int .u8 (sbt s j.toNat)) else none
  | _, _, _ => none
theorem index_eq (v i : Value) : aindex P t v i = indexU P (P.underlying t) v i := Eq.trans rfl rfl
theorem index_string (p : ByteArray) (j : Int) (h0 : 0 ≤ j) (h1 : j < p.size) : indexU P (some .string) (.string p) (.int k j) = some (.int .u8 (sbt p j.toNat)) := by simp [indexU, h0, h1]
theorem index_array (n : Nat) (e : TypeId) (cs : Array Value) (j : Int) (h0 : 0 ≤ j) (h1 : j < n) : indexU P (some (.array n e)) (.agg cs) (.int k j) = (tsz P e).bind fun sz => apart P e cs (j.toNat * sz) := by simp [indexU, h0, h1]
def indexAddrU (P : Program) (o : Option TypeDesc) (x i : Value) : Option Value :=
  match o, x, i with
  | some (.array n e), .pointer (some ⟨b, off, none⟩), .int _ j => if 0 ≤ j ∧ j < n then (tsz P e).map fun sz => .pointer (some ⟨b, off + j.toNat * sz, none⟩) else none
  | some (.slice e), .slice (some ⟨b, off, _⟩) len _, .int _ j => if 0 ≤ j ∧ j < len then (tsz P e).map fun sz => .pointer (some ⟨b, off + j.toNat * sz, none⟩) else none
  | _, _, _ => none
theorem indexAddr_eq (v i : Value) : aindexAddr P t v i = indexAddrU P (P.underlying t) v i := Eq.trans rfl rfl
theorem indexAddr_array (n : Nat) (e : TypeId) (b off : Nat) (j : Int) (h0 : 0 ≤ j) (h1 : j < n) : indexAddrU P (some (.array n e)) (.pointer (some ⟨b, off, none⟩)) (.int k j) = (tsz P e).map fun sz => .pointer (some ⟨b, off + j.toNat * sz, none⟩) := by simp [indexAddrU, h0, h1]
theorem indexAddr_slice (e : TypeId) (b off : Nat) (sp : Option Nat) (n c : Nat) (j : Int) (h0 : 0 ≤ j) (h1 : j < n) : indexAddrU P (some (.slice e)) (.slice (some ⟨b, off, sp⟩) n c) (.int k j) = (tsz P e).map fun sz => .pointer (some ⟨b, off + j.toNat * sz, none⟩) := by simp [indexAddrU, h0, h1]
def fieldAddrU (P : Program) (o : Option TypeDesc) (x : Value) (f : Nat) : Option Value :=
  match o, x with
  | some (.struct fs), .pointer (some ⟨b, off, none⟩) =>
    match fs[f]? with
    | some fd => match tsz P fd.type with | some (_ + 1) => some (.pointer (some ⟨b, off + fd.offset, none⟩)) | _ => none
    | none => none
  | _, _ => none
theorem fieldAddr_eq (v : Value) (f : Nat) : afieldAddr P t v f = fieldAddrU P (P.underlying t) v f := by
  unfold afieldAddr fieldAddrU; rfl
def posO (o : Option Nat) (v : Value) : Option Value := match o with | some (_ + 1) => some v | _ => none
theorem posO_some (n : Nat) (v : Value) : posO (some (n + 1)) v = some v := Eq.trans rfl rfl
def fAddr (P : Program) (o : Option Field) (b off : Nat) : Option Value := match o with | some fd => posO (tsz P fd.type) (.pointer (some ⟨b, off + fd.offset, none⟩)) | none => none
theorem fAddr_some (fd : Field) (b off : Nat) : fAddr P (some fd) b off = posO (tsz P fd.type) (.pointer (some ⟨b, off + fd.offset, none⟩)) := Eq.trans rfl rfl
theorem fieldAddr_struct (fs : Array Field) (b off f : Nat) : fieldAddrU P (some (.struct fs)) (.pointer (some ⟨b, off, none⟩)) f = fAddr P fs[f]? b off := by
  unfold fieldAddrU fAddr posO; rfl
def partC (P : Program) (o : Option Field) (cs : Array Value) : Option Value := match o with | some fd => apart P fd.type cs fd.offset | none => none
theorem partC_some (fd : Field) (cs : Array Value) : partC P (some fd) cs = apart P fd.type cs fd.offset := Eq.trans rfl rfl
def fieldU (P : Program) (o : Option TypeDesc) (x : Value) (f : Nat) : Option Value :=
  match o, x with
  | some (.struct fs), .agg cs => partC P fs[f]? cs
  | _, _ => none
theorem field_eq (v : Value) (f : Nat) : afield P t v f = fieldU P (P.underlying t) v f := by
  unfold afield fieldU partC; rfl
theorem field_struct (fs : Array Field) (cs : Array Value) (f : Nat) : fieldU P (some (.struct fs)) (.agg cs) f = partC P fs[f]? cs := Eq.trans rfl rfl
def partU (ag : Option Bool) (sz : Option Nat) (cs : Array Value) (off : Nat) : Option Value :=
  match ag with
  | some true => sz.map fun n => .agg (cs.extract off (off + n))
  | some false => cs[off]?
  | none => none
theorem part_eq (cs : Array Value) (off : Nat) : apart P t cs off = partU (tagg P t) (tsz P t) cs off := Eq.trans rfl rfl
theorem partU_one (sz : Option Nat) (cs : Array Value) (off : Nat) : partU (some false) sz cs off = cs[off]? := Eq.trans rfl rfl
theorem partU_agg (n : Nat) (cs : Array Value) (off : Nat) : partU (some true) (some n) cs off = some (.agg (cs.extract off (off + n))) := Eq.trans rfl rfl
theorem extract_tuple (vs : Array Value) (i : Nat) : aextract (.tuple vs) i = vs[i]? := Eq.trans rfl rfl
def convU (P : Program) (A : St) (us ud : Option TypeDesc) (x : Value) : Option (Value × St) :=
  match us, ud, x with
  | some _, some (.int k), .int _ i => some (.int k (k.wrap i), A)
  | some _, some .string, .string s => some (.string s, A)
  | some _, some (.slice e), .string s =>
    match P.underlying e with
    | some (.int .u8) => some (.slice (some ⟨A.next, 0, some 1⟩) s.size s.size, A.alloc (.cells (s.data.toList.map fun b => .int .u8 b.toNat) e (some 0)))
    | _ => none
  | some (.slice e), some .string, .slice a len _ =>
    match P.underlying e with
    | some (.int .u8) =>
      match a with
      | none => some (.string .empty, A)
      | some ⟨b, off, _⟩ =>
        if len = 0 then some (.string .empty, A) else
        match A.get b with
        | some (.cells cs _ _) => if off + len ≤ cs.length then (intsOf .u8 ((cs.drop off).take len)).map fun ns => (.string (strOfNums ns), A) else none
        | _ => none
    | _ => none
  | some (.pointer t), some .unsafePointer, .pointer (some ⟨b, off, sp⟩) =>
    match A.get b, tsz P t with
    | some (.cells cs _ _), some (_ + 1) => if off < cs.length then some (.pointer (some ⟨b, off, sp⟩), A) else none
    | _, _ => none
  | some .unsafePointer, some (.pointer u), .pointer (some ⟨b, off, sp⟩) =>
    match A.get b, tsz P u with
    | some (.cells cs e (some _)), some s => if e = btype ∧ u = e ∧ off = 0 ∧ s ≠ 0 ∧ s ≤ cs.length then some (.pointer (some ⟨b, off, sp⟩), A) else none
    | _, _ => none
  | _, _, _ => none
def unsT (A : St) (B : Option Blk) (z : Option Nat) (b off : Nat) (sp : Option Nat) : Option (Value × St) :=
  match B, z with
  | some (.cells cs _ _), some (_ + 1) => if off < cs.length then some (.pointer (some ⟨b, off, sp⟩), A) else none
  | _, _ => none
def unsF (A : St) (B : Option Blk) (z : Option Nat) (u b off : Nat) (sp : Option Nat) : Option (Value × St) :=
  match B, z with
  | some (.cells cs e (some _)), some s => if e = btype ∧ u = e ∧ off = 0 ∧ s ≠ 0 ∧ s ≤ cs.length then some (.pointer (some ⟨b, off, sp⟩), A) else none
  | _, _ => none
theorem conv_to (e : TypeId) (b off : Nat) (sp : Option Nat) : convU P A (some (.pointer e)) (some .unsafePointer) (.pointer (some ⟨b, off, sp⟩)) = unsT A (A.get b) (tsz P e) b off sp := Eq.trans rfl rfl
theorem conv_from (e : TypeId) (b off : Nat) (sp : Option Nat) : convU P A (some .unsafePointer) (some (.pointer e)) (.pointer (some ⟨b, off, sp⟩)) = unsF A (A.get b) (tsz P e) e b off sp := Eq.trans rfl rfl
theorem unsT_cells (cs : List Value) (e : TypeId) (m : Option Nat) (n b off : Nat) (sp : Option Nat) (h0 : n ≠ 0) (h : off < cs.length) : unsT A (some (.cells cs e m)) (some n) b off sp = some (.pointer (some ⟨b, off, sp⟩), A) := by
  cases n with
  | zero => exact absurd rfl h0
  | succ n => simp [unsT, h]
theorem unsF_cells (cs : List Value) (e k n b : Nat) (sp : Option Nat) (h0 : n ≠ 0) (h : n ≤ cs.length) : unsF A (some (.cells cs e (some k))) (some n) e b 0 sp = if e = btype then some (.pointer (some ⟨b, 0, sp⟩), A) else none := by
  simp [unsF, h0, h]
theorem conv_eq (v : Value) : aconv P A s t v = convU P A (P.underlying s) (P.underlying t) v := by
  unfold aconv convU; rfl
theorem conv_int (us : TypeDesc) (i : Int) : convU P A (some us) (some (.int k)) (.int k' i) = some (.int k (k.wrap i), A) := by cases us <;> rfl
theorem conv_string (us : TypeDesc) (p : ByteArray) : convU P A (some us) (some .string) (.string p) = some (.string p, A) := by cases us <;> rfl
def u8O {α : Type} (o : Option TypeDesc) (r : Option α) : Option α := match o with | some (.int .u8) => r | _ => none
theorem u8O_u8 {α : Type} (r : Option α) : u8O (some (.int .u8)) r = r := Eq.trans rfl rfl
/-- Bytes as cells, and back. -/
def bcells (p : ByteArray) : List Value := p.data.toList.map fun b => .int .u8 b.toNat
theorem conv_bytes (us : TypeDesc) (e : TypeId) (p : ByteArray) : convU P A (some us) (some (.slice e)) (.string p) = u8O (P.underlying e) (some (.slice (some ⟨A.next, 0, some 1⟩) p.size p.size, A.alloc (.cells (bcells p) e (some 0)))) := by
  cases us <;> rfl
theorem conv_text_nil (e : TypeId) (n c : Nat) : convU P A (some (.slice e)) (some .string) (.slice none n c) = u8O (P.underlying e) (some (.string .empty, A)) := Eq.trans rfl rfl
theorem conv_text_zero (e : TypeId) (ad : Addr) (c : Nat) : convU P A (some (.slice e)) (some .string) (.slice (some ad) 0 c) = u8O (P.underlying e) (some (.string .empty, A)) := by
  simp only [convU, u8O]; split <;> first | rfl | simp_all
def textC (A : St) (B : Option Blk) (off n : Nat) : Option (Value × St) :=
  match B with
  | some (.cells cs _ _) => if off + n ≤ cs.length then (intsOf .u8 ((cs.drop off).take n)).map fun ns => (.string (strOfNums ns), A) else none
  | _ => none
theorem conv_text (e : TypeId) (b off : Nat) (sp : Option Nat) (n c : Nat) (h : n ≠ 0) : convU P A (some (.slice e)) (some .string) (.slice (some ⟨b, off, sp⟩) n c) = u8O (P.underlying e) (textC A (A.get b) off n) := by
  simp only [convU, u8O, textC]; split <;> simp_all
def ifaceU (o : Option TypeDesc) (t : TypeId) (x : Value) : Option Value := match o with | some (.interface _) | none => none | _ => some (.iface t x)
theorem mkIface_eq (v : Value) : amkIface P t v = ifaceU (P.underlying t) t v := by
  unfold amkIface ifaceU; rfl
theorem get_upd_same (b : Nat) (B : Option Blk) : (A.upd b B).get b = B := by simp [St.get_upd]
theorem get_alloc_same (B : Blk) : (A.alloc B).get A.next = some B := by simp [St.get_alloc]
end


section
variable {P : Program} {w0 : World} {A : St}
/-- The results of a body that defers nothing. -/
def finR (o : Option (List Value)) : Option Value := match o with | some [v] => some v | some vs => some (.tuple vs.toArray) | none => none
def consO (v : Option Value) (o : Option (List Value)) : Option (List Value) := match v, o with | some v, some vs => some (v :: vs) | _, _ => none
theorem consO_some (v : Value) (vs : List Value) : consO (some v) (some vs) = some (v :: vs) := Eq.trans rfl rfl
theorem finR_0 : finR (some []) = some (.tuple #[]) := Eq.trans rfl rfl
theorem finR_1 (v : Value) : finR (some [v]) = some v := Eq.trans rfl rfl
theorem finR_2 (v u : Value) (l : List Value) : finR (some (v :: u :: l)) = some (.tuple (v :: u :: l).toArray) := Eq.trans rfl rfl
theorem aresL_nil (t : Array Value) : aresL P A t [] = some [] := Eq.trans rfl rfl
theorem aresL_cons (t : Array Value) (r : ResultVar) (rs : List ResultVar) : aresL P A t (r :: rs) = consO (ares1 P A t r) (aresL P A t rs) := by
  show (match ares1 P A t r, aresL P A t rs with | some v, some vs => some (v :: vs) | _, _ => none) = _
  unfold consO; rfl
theorem ares1_tmp (n : Nat) (ρ : Nat → Value) (j : Nat) : ares1 P A (tm n ρ) (.tmp j) = some (rd n ρ j) := by
  simp only [ares1, tm_getD]
theorem ares1_cell (n : Nat) (ρ : Nat → Value) (j : Nat) (t : TypeId) : ares1 P A (tm n ρ) (.cell j t) = aload P A t (rd n ρ j) := by
  simp only [ares1, tm_getD]
def retV (o : Option Value) (R : Ending → St → Prop) (A : St) : Prop := ∃ v, o = some v ∧ R (.returned v) A
theorem retV_some (v : Value) (R : Ending → St → Prop) : retV (some v) R A = R (.returned v) A := by simp [retV]
theorem aleave_nil (fn : Func) (t : Array Value) (R : Ending → St → Prop) : aleave P w0 fn t R [] A = retV (finR (aresL P A t fn.results.toList)) R A := by
  show (∃ v, aresults P fn A t = some v ∧ R (.returned v) A) = _
  unfold retV aresults finR; rfl
theorem aleave_coll (fn : Func) (t : Array Value) (R : Ending → St → Prop) (D : Nat) (args : Array Value) (ds : List Deferred) : aleave P w0 fn t R (⟨.collected D, args⟩ :: ds) A = (A.get D = some (.dfr false) ∧ aleave P w0 fn t R ds (A.upd D (some (.dfr true)))) := Eq.trans rfl rfl

/-- A body's walk, from its arguments on. -/
theorem call_E {f : Nat} {fn : Func} {c : Code} {l : List Value} {R : Ending → St → Prop} (hen : Enters P f) (hf : P.funcs[f]? = some fn) (hb : fn.body = some c) (hl : l.length ≤ fn.ntmps)
    (h : WF A → BndA A.next l.toArray → wpA P w0 A.next true c (funQ P w0 fn A R) (E fn.ntmps (ar l) []) A) : ACalls P w0 f l.toArray A R :=
  call_of hen hf hb fun hw hbd => by rw [ent_E _ _ hl]; exact h hw hbd

/-- An exact end. -/
def fin (v : Value) (A : St) (e : Ending) (A' : St) : Prop := e = .returned v ∧ A' = A
theorem fin_self (v : Value) : fin v A (.returned v) A := ⟨rfl, rfl⟩
theorem call1 {f : Nat} {args : Array Value} {v : Value} {A' : St} {R : Ending → St → Prop} (h : ACalls P w0 f args A (fin v A')) (hr : R (.returned v) A') : ACalls P w0 f args A R :=
  h.mono fun e A1 ⟨h1, h2⟩ => by subst h1 h2; exact hr
/-- What has been laid since is let go. -/
structure Over (A A' : St) : Prop where
  next : A.next ≤ A'.next
  get : ∀ b, b < A.next → A'.get b = A.get b
theorem Over.refl (A : St) : Over A A := ⟨Nat.le_refl _, fun _ _ => rfl⟩
theorem Over.alloc {A A' : St} (h : Over A A') (B : Blk) : Over A (A'.alloc B) := ⟨by have := h.next; simp; omega, fun b hb => by have := h.next; rw [St.get_alloc, if_neg (by omega)]; exact h.get b hb⟩
theorem Over.upd {A A' : St} (h : Over A A') {b : Nat} (hb : A.next ≤ b) (B : Option Blk) : Over A (A'.upd b B) := ⟨h.next, fun c hc => by rw [St.get_upd, if_neg (by omega)]; exact h.get c hc⟩
theorem Over.trans {A B C : St} (h : Over A B) (k : Over B C) : Over A C := ⟨Nat.le_trans h.next k.next, fun b hb => (k.get b (Nat.lt_of_lt_of_le hb h.next)).trans (h.get b hb)⟩
theorem Over.sub {A' : St} (h : Over A A') (hw : WF A) : Sub A A' := ⟨h.next, h.get, fun b hb => by
  cases hg : A.get b with
  | none => rfl
  | some B => have := (hw b B hg).1; omega⟩
theorem gc_over {A' : St} {R : Ending → St → Prop} {e : Ending} (hw : WF A) (h : Over A A') (hb : BndE A.next e) (hr : R e A) : GcE A R e A' := .inr ⟨A, h.sub hw, Nat.le_refl _, hw, hb, hr⟩
theorem gc_fin {A' : St} {v : Value} (hw : WF A) (h : Over A A') (hb : Bnd A.next v) : GcE A (fin v A) (.returned v) A' := gc_over hw h (.returned hb) (fin_self v)
theorem gc_fin' {A' : St} {v v' : Value} (hw : WF A) (h : Over A A') (e : v' = v) (hb : Bnd A.next v) : GcE A (fin v A) (.returned v') A' := by subst e; exact gc_fin hw h hb
theorem gc_here {A' : St} {R : Ending → St → Prop} {e : Ending} (hr : R e A') : GcE A R e A' := .inl hr
theorem bnd_int (n : Nat) (k : IntKind) (i : Int) : Bnd n (.int k i) = True := eq_true (.int k i)
theorem bnd_bool (n : Nat) (b : Bool) : Bnd n (.bool b) = True := eq_true (.bool b)
theorem bnd_string (n : Nat) (s : ByteArray) : Bnd n (.string s) = True := eq_true (.string s)
theorem bnd_nilIface (n : Nat) : Bnd n .nilIface = True := eq_true .nilIface
theorem bnd_slice0 (n l c : Nat) : Bnd n (.slice none l c) = True := eq_true (.slice0 l c)
theorem bnd_iface (n : Nat) (t : TypeId) (v : Value) : Bnd n (.iface t v) = Bnd n v := propext ⟨fun h => by cases h; assumption, .iface t v⟩
theorem bnd_slice (n : Nat) (a : Addr) (l c : Nat) : Bnd n (.slice (some a) l c) = (a.block < n) := propext ⟨fun h => by cases h; assumption, .slice a l c⟩
theorem bnd_ptr (n : Nat) (a : Addr) : Bnd n (.pointer (some a)) = (a.block < n) := propext ⟨fun h => by cases h; assumption, .ptr a⟩
theorem bnd_ptr0 (n : Nat) : Bnd n (.pointer none) = True := eq_true .ptr0
def bndL (n : Nat) (l : List Value) : Prop := ∀ v ∈ l, Bnd n v
theorem bndL_nil (n : Nat) : bndL n [] = True := eq_true (by intro v hv; cases hv)
theorem bndL_cons (n : Nat) (v : Value) (l : List Value) : bndL n (v :: l) = (Bnd n v ∧ bndL n l) := by simp [bndL]
theorem bndA_lit (n : Nat) (l : List Value) : BndA n l.toArray = bndL n l := propext ⟨fun h v hv => by
    obtain ⟨i, hi⟩ := List.getElem?_of_mem hv
    exact h i v (by simpa using hi), fun h i v hv => h v (List.mem_of_getElem? (by simpa using hv))⟩
theorem bnd_tuple (n : Nat) (l : List Value) : Bnd n (.tuple l.toArray) = bndL n l := propext ⟨fun h => by cases h with | tuple _ h => rw [← bndA_lit]; exact h, fun h => .tuple _ (by rw [← bndA_lit] at h; exact h)⟩
theorem bnd_agg (n : Nat) (l : List Value) : Bnd n (.agg l.toArray) = bndL n l := propext ⟨fun h => by cases h with | agg _ h => rw [← bndA_lit]; exact h, fun h => .agg _ (by rw [← bndA_lit] at h; exact h)⟩
end
end Go.Fw

