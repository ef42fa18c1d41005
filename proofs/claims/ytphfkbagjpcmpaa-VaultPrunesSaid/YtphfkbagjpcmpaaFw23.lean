import Derived.Test.YtphfkbagjpcmpaaFw22
/-! Equations for the steps of drawn regions. -/
set_option linter.unusedSimpArgs false
set_option linter.unusedVariables false
namespace Go.Fw
open Go.RowKit
section
variable (P : Program) (w0 : World) (d : Option Tmp) (ty : TypeId) (pos : String) (aft : Array Edge) (g : Option (Nat × Bool)) (K : Act → St → Prop) (a : Act) (A A' : St)
theorem stepT_call (f : Operand) (args : Array Operand) (ts : Array TypeId) : stepT P w0 ⟨d, .call { callee := .value f, args, argTypes := ts }, ty, pos, aft, g⟩ A' K a A = callV (okO f && args.all okO) (∃ v, ACallV P w0 (a.eval f) (args.map a.eval) A (fin v A') ∧ K (a.put d v) A') := Eq.trans rfl rfl
theorem pure_call (f : Operand) (args : Array Operand) (ts : Array TypeId) : pureOp (.call { callee := .value f, args, argTypes := ts }) = false := Eq.trans rfl rfl
theorem stepT_move (x : Operand) : stepT P w0 ⟨d, .move x, ty, pos, aft, g⟩ A' K a A = aoper P w0 true ⟨d, .move x, ty, pos, aft, g⟩ a A (to A' K) noQ := Eq.trans rfl rfl
theorem pure_move (x : Operand) : pureOp (.move x) = true := Eq.trans rfl rfl
theorem stepT_assign (x : Operand) : stepT P w0 ⟨d, .assign x, ty, pos, aft, g⟩ A' K a A = aoper P w0 true ⟨d, .assign x, ty, pos, aft, g⟩ a A (to A' K) noQ := Eq.trans rfl rfl
theorem pure_assign (x : Operand) : pureOp (.assign x) = true := Eq.trans rfl rfl
theorem stepT_pick (x y z : Operand) : stepT P w0 ⟨d, .pick x y z, ty, pos, aft, g⟩ A' K a A = aoper P w0 true ⟨d, .pick x y z, ty, pos, aft, g⟩ a A (to A' K) noQ := Eq.trans rfl rfl
theorem pure_pick (x y z : Operand) : pureOp (.pick x y z) = true := Eq.trans rfl rfl
theorem stepT_alloc (t : TypeId) : stepT P w0 ⟨d, .alloc t, ty, pos, aft, g⟩ A' K a A = aoper P w0 true ⟨d, .alloc t, ty, pos, aft, g⟩ a A (to A' K) noQ := Eq.trans rfl rfl
theorem pure_alloc (t : TypeId) : pureOp (.alloc t) = false := Eq.trans rfl rfl
theorem stepT_box (t : TypeId) (x : Operand) : stepT P w0 ⟨d, .box t x, ty, pos, aft, g⟩ A' K a A = aoper P w0 true ⟨d, .box t x, ty, pos, aft, g⟩ a A (to A' K) noQ := Eq.trans rfl rfl
theorem pure_box (t : TypeId) (x : Operand) : pureOp (.box t x) = false := Eq.trans rfl rfl
theorem stepT_build (t : TypeId) (ps : Array (Nat × Operand)) : stepT P w0 ⟨d, .build t ps, ty, pos, aft, g⟩ A' K a A = aoper P w0 true ⟨d, .build t ps, ty, pos, aft, g⟩ a A (to A' K) noQ := Eq.trans rfl rfl
theorem pure_build (t : TypeId) (ps : Array (Nat × Operand)) : pureOp (.build t ps) = true := Eq.trans rfl rfl
theorem stepT_buildSlice (t : TypeId) (n : Nat) (ps : Array (Nat × Operand)) : stepT P w0 ⟨d, .buildSlice t n ps, ty, pos, aft, g⟩ A' K a A = aoper P w0 true ⟨d, .buildSlice t n ps, ty, pos, aft, g⟩ a A (to A' K) noQ := Eq.trans rfl rfl
theorem pure_buildSlice (t : TypeId) (n : Nat) (ps : Array (Nat × Operand)) : pureOp (.buildSlice t n ps) = false := Eq.trans rfl rfl
theorem stepT_load (t : TypeId) (x : Operand) : stepT P w0 ⟨d, .load t x, ty, pos, aft, g⟩ A' K a A = aoper P w0 true ⟨d, .load t x, ty, pos, aft, g⟩ a A (to A' K) noQ := Eq.trans rfl rfl
theorem pure_load (t : TypeId) (x : Operand) : pureOp (.load t x) = false := Eq.trans rfl rfl
theorem stepT_store (t : TypeId) (x y : Operand) : stepT P w0 ⟨d, .store t x y, ty, pos, aft, g⟩ A' K a A = aoper P w0 true ⟨d, .store t x y, ty, pos, aft, g⟩ a A (to A' K) noQ := Eq.trans rfl rfl
theorem pure_store (t : TypeId) (x y : Operand) : pureOp (.store t x y) = false := Eq.trans rfl rfl
theorem stepT_nilCheck (x : Operand) : stepT P w0 ⟨d, .nilCheck x, ty, pos, aft, g⟩ A' K a A = aoper P w0 true ⟨d, .nilCheck x, ty, pos, aft, g⟩ a A (to A' K) noQ := Eq.trans rfl rfl
theorem pure_nilCheck (x : Operand) : pureOp (.nilCheck x) = true := Eq.trans rfl rfl
theorem stepT_binOp (op : BinOp) (t u : TypeId) (x y : Operand) : stepT P w0 ⟨d, .binOp op t x y u, ty, pos, aft, g⟩ A' K a A = aoper P w0 true ⟨d, .binOp op t x y u, ty, pos, aft, g⟩ a A (to A' K) noQ := Eq.trans rfl rfl
theorem pure_binOp (op : BinOp) (t u : TypeId) (x y : Operand) : pureOp (.binOp op t x y u) = decide (t ≠ bptr) := Eq.trans rfl rfl
theorem stepT_unOp (op : UnOp) (t : TypeId) (x : Operand) : stepT P w0 ⟨d, .unOp op t x, ty, pos, aft, g⟩ A' K a A = aoper P w0 true ⟨d, .unOp op t x, ty, pos, aft, g⟩ a A (to A' K) noQ := Eq.trans rfl rfl
theorem pure_unOp (op : UnOp) (t : TypeId) (x : Operand) : pureOp (.unOp op t x) = true := Eq.trans rfl rfl
theorem stepT_convert (t u : TypeId) (x : Operand) : stepT P w0 ⟨d, .convert t u x, ty, pos, aft, g⟩ A' K a A = aoper P w0 true ⟨d, .convert t u x, ty, pos, aft, g⟩ a A (to A' K) noQ := Eq.trans rfl rfl
theorem pure_convert (t u : TypeId) (x : Operand) : pureOp (.convert t u x) = false := Eq.trans rfl rfl
theorem stepT_makeInterface (t : TypeId) (x : Operand) : stepT P w0 ⟨d, .makeInterface t x, ty, pos, aft, g⟩ A' K a A = aoper P w0 true ⟨d, .makeInterface t x, ty, pos, aft, g⟩ a A (to A' K) noQ := Eq.trans rfl rfl
theorem pure_makeInterface (t : TypeId) (x : Operand) : pureOp (.makeInterface t x) = true := Eq.trans rfl rfl
theorem stepT_makeFunc (f : Fn) (x y : Array Operand) : stepT P w0 ⟨d, .makeFunc f x y, ty, pos, aft, g⟩ A' K a A = aoper P w0 true ⟨d, .makeFunc f x y, ty, pos, aft, g⟩ a A (to A' K) noQ := Eq.trans rfl rfl
theorem pure_makeFunc (f : Fn) (x y : Array Operand) : pureOp (.makeFunc f x y) = true := Eq.trans rfl rfl
theorem stepT_makeSlice (t : TypeId) (x y : Operand) : stepT P w0 ⟨d, .makeSlice t x y, ty, pos, aft, g⟩ A' K a A = aoper P w0 true ⟨d, .makeSlice t x y, ty, pos, aft, g⟩ a A (to A' K) noQ := Eq.trans rfl rfl
theorem pure_makeSlice (t : TypeId) (x y : Operand) : pureOp (.makeSlice t x y) = false := Eq.trans rfl rfl
theorem stepT_slice (t : TypeId) (x : Operand) (l h m : Option Operand) : stepT P w0 ⟨d, .slice t x l h m, ty, pos, aft, g⟩ A' K a A = aoper P w0 true ⟨d, .slice t x l h m, ty, pos, aft, g⟩ a A (to A' K) noQ := Eq.trans rfl rfl
theorem pure_slice (t : TypeId) (x : Operand) (l h m : Option Operand) : pureOp (.slice t x l h m) = true := Eq.trans rfl rfl
theorem stepT_fieldAddr (t : TypeId) (x : Operand) (f : Nat) : stepT P w0 ⟨d, .fieldAddr t x f, ty, pos, aft, g⟩ A' K a A = aoper P w0 true ⟨d, .fieldAddr t x f, ty, pos, aft, g⟩ a A (to A' K) noQ := Eq.trans rfl rfl
theorem pure_fieldAddr (t : TypeId) (x : Operand) (f : Nat) : pureOp (.fieldAddr t x f) = true := Eq.trans rfl rfl
theorem stepT_field (t : TypeId) (x : Operand) (f : Nat) : stepT P w0 ⟨d, .field t x f, ty, pos, aft, g⟩ A' K a A = aoper P w0 true ⟨d, .field t x f, ty, pos, aft, g⟩ a A (to A' K) noQ := Eq.trans rfl rfl
theorem pure_field (t : TypeId) (x : Operand) (f : Nat) : pureOp (.field t x f) = true := Eq.trans rfl rfl
theorem stepT_indexAddr (t : TypeId) (x y : Operand) : stepT P w0 ⟨d, .indexAddr t x y, ty, pos, aft, g⟩ A' K a A = aoper P w0 true ⟨d, .indexAddr t x y, ty, pos, aft, g⟩ a A (to A' K) noQ := Eq.trans rfl rfl
theorem pure_indexAddr (t : TypeId) (x y : Operand) : pureOp (.indexAddr t x y) = true := Eq.trans rfl rfl
theorem stepT_index (t : TypeId) (x y : Operand) : stepT P w0 ⟨d, .index t x y, ty, pos, aft, g⟩ A' K a A = aoper P w0 true ⟨d, .index t x y, ty, pos, aft, g⟩ a A (to A' K) noQ := Eq.trans rfl rfl
theorem pure_index (t : TypeId) (x y : Operand) : pureOp (.index t x y) = true := Eq.trans rfl rfl
theorem stepT_extract (x : Operand) (i : Nat) : stepT P w0 ⟨d, .extract x i, ty, pos, aft, g⟩ A' K a A = aoper P w0 true ⟨d, .extract x i, ty, pos, aft, g⟩ a A (to A' K) noQ := Eq.trans rfl rfl
theorem pure_extract (x : Operand) (i : Nat) : pureOp (.extract x i) = true := Eq.trans rfl rfl
theorem stepT_typeAssert (x : Operand) (t u : TypeId) (ok : Bool) : stepT P w0 ⟨d, .typeAssert x t u ok, ty, pos, aft, g⟩ A' K a A = aoper P w0 true ⟨d, .typeAssert x t u ok, ty, pos, aft, g⟩ a A (to A' K) noQ := Eq.trans rfl rfl
theorem pure_typeAssert (x : Operand) (t u : TypeId) (ok : Bool) : pureOp (.typeAssert x t u ok) = true := Eq.trans rfl rfl
theorem stepT_lookup (t : TypeId) (x y : Operand) (ok : Bool) : stepT P w0 ⟨d, .lookup t x y ok, ty, pos, aft, g⟩ A' K a A = aoper P w0 true ⟨d, .lookup t x y ok, ty, pos, aft, g⟩ a A (to A' K) noQ := Eq.trans rfl rfl
theorem pure_lookup (t : TypeId) (x y : Operand) (ok : Bool) : pureOp (.lookup t x y ok) = false := Eq.trans rfl rfl
theorem stepT_mapUpdate (t : TypeId) (x y z : Operand) : stepT P w0 ⟨d, .mapUpdate t x y z, ty, pos, aft, g⟩ A' K a A = aoper P w0 true ⟨d, .mapUpdate t x y z, ty, pos, aft, g⟩ a A (to A' K) noQ := Eq.trans rfl rfl
theorem pure_mapUpdate (t : TypeId) (x y z : Operand) : pureOp (.mapUpdate t x y z) = false := Eq.trans rfl rfl
theorem stepT_makeMap (t : TypeId) : stepT P w0 ⟨d, .makeMap t none, ty, pos, aft, g⟩ A' K a A = aoper P w0 true ⟨d, .makeMap t none, ty, pos, aft, g⟩ a A (to A' K) noQ := Eq.trans rfl rfl
theorem pure_makeMap (t : TypeId) : pureOp (.makeMap t none) = false := Eq.trans rfl rfl
theorem stepT_builtin (bi : Builtin) (xs : Array Operand) (ts : Array TypeId) : stepT P w0 ⟨d, .call { callee := .builtin bi, args := xs, argTypes := ts }, ty, pos, aft, g⟩ A' K a A = aoper P w0 true ⟨d, .call { callee := .builtin bi, args := xs, argTypes := ts }, ty, pos, aft, g⟩ a A (to A' K) noQ := Eq.trans rfl rfl
theorem pure_b_len (xs : Array Operand) (ts : Array TypeId) : pureOp (.call { callee := .builtin .len, args := xs, argTypes := ts }) = true := Eq.trans rfl rfl
theorem pure_b_append (xs : Array Operand) (ts : Array TypeId) : pureOp (.call { callee := .builtin .append, args := xs, argTypes := ts }) = false := Eq.trans rfl rfl
theorem pure_b_copy (xs : Array Operand) (ts : Array TypeId) : pureOp (.call { callee := .builtin .copy, args := xs, argTypes := ts }) = false := Eq.trans rfl rfl
theorem pure_b_min (xs : Array Operand) (ts : Array TypeId) : pureOp (.call { callee := .builtin .min, args := xs, argTypes := ts }) = false := Eq.trans rfl rfl
theorem pure_b_max (xs : Array Operand) (ts : Array TypeId) : pureOp (.call { callee := .builtin .max, args := xs, argTypes := ts }) = false := Eq.trans rfl rfl
theorem pure_b_unsafeSliceData (xs : Array Operand) (ts : Array TypeId) : pureOp (.call { callee := .builtin .unsafeSliceData, args := xs, argTypes := ts }) = false := Eq.trans rfl rfl
theorem pure_b_unsafeString (xs : Array Operand) (ts : Array TypeId) : pureOp (.call { callee := .builtin .unsafeString, args := xs, argTypes := ts }) = false := Eq.trans rfl rfl
end
end Go.Fw

