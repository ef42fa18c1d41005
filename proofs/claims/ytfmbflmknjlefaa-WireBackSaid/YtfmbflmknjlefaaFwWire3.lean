import Derived.Test.YtfmbflmknjlefaaFwWire2
import Derived.Test.YtfmbflmknjlefaaFw38
set_option linter.unusedSimpArgs false
set_option linter.unusedVariables false
set_option maxRecDepth 4000
namespace Go.Fw
open Go.Proofs Go.RowKit
theorem Try.enters50 : Enters Try.prog 50 := enters_of Try.func50 rfl (by kernel_rfl)
theorem Try.enters51 : Enters Try.prog 51 := enters_of Try.func51 rfl (by kernel_rfl)
theorem Try.enters41 : Enters Try.prog 41 := enters_of Try.func41 rfl (by kernel_rfl)
theorem Try.enters42 : Enters Try.prog 42 := enters_of Try.func42 rfl (by kernel_rfl)
theorem Try.enters45 : Enters Try.prog 45 := enters_of Try.func45 rfl (by kernel_rfl)
theorem Try.enters48 : Enters Try.prog 48 := enters_of Try.func48 rfl (by kernel_rfl)
/-- An error that is panicked with. -/
def pE (e : Int) : Value := .iface 38 (.int .i64 e)
theorem pE_bnd (n : Nat) (e : Int) : Bnd n (pE e) := .iface _ _ (.int _ _)
theorem bndU (n : Nat) : Bnd n (.tuple #[]) := .tuple _ (fun i v h => by simp at h)
theorem ifU (e : Int) : ifaceU (some (.int .i64)) 38 (.int .i64 e) = some (.iface 38 (.int .i64 e)) := rfl
/-- The reader's block. -/
def rdW (r : List Int) : Blk := .cells [.string (strOfNums r)] 78 (some 0)
theorem rdW_bnd (n : Nat) (r : List Int) : ∀ v ∈ [Value.string (strOfNums r)], Bnd n v := by
  intro v hv; rw [List.mem_singleton.1 hv]; exact .string _
theorem gc_rw {A A' : St} {c : Nat} {r s : List Int} {v v' : Value} (hw : WF A) (hc : A.get c = some (rdW r)) (h : Over (A.upd c (some (rdW s))) A') (hv : v' = v) (hb : Bnd A.next v) : GcE A (fin v (A.upd c (some (rdW s)))) (.returned v') A' :=
  gc_upd hw (hw c _ hc).1 (rdW_bnd _ s) h hv hb
theorem wdone_ok (w0 : World) (A : St) (c : Nat) (r s : List Int) (hc : A.get c = some (rdW r)) : ACalls Try.prog w0 50 #[.pointer (some ⟨c, 0, none⟩), .string (strOfNums s), .int .i64 0] A (fin (.tuple #[]) (A.upd c (some (rdW s)))) := by
  refine call_E Try.enters50 Try.func50 rfl (Nat.le_of_ble_eq_true rfl) fun hw hbd => ?_
  have hc' := hc
  unfold rdW at hc'
  simp (maxSteps := 1000000) (disch := (first | omega | (simp only [nx_alloc, nx_upd, len_cons, len_nil, List.length_set, List.length_map, List.length_append] <;> omega) | fail)) only [go_sem, Try.ntmps50, Try.results50, hc']
  refine gc_rw hw hc (over_upd (by (try simp (disch := (first | omega | (simp only [nx_alloc, nx_upd, len_cons, len_nil, List.length_set, List.length_map, List.length_append] <;> omega) | fail)) only [St.get_upd, St.get_alloc, St.next_alloc, St.next_upd, ↓reduceIte, natF_lt, natF_gt, natF_ne, Nat.add_assoc, Nat.reduceAdd, Nat.reduceEqDiff, Nat.add_left_cancel_iff]); omega) (by simp (disch := (first | omega | (simp only [nx_alloc, nx_upd, len_cons, len_nil, List.length_set, List.length_map, List.length_append] <;> omega) | fail)) only [St.get_upd, St.get_alloc, St.next_alloc, St.next_upd, ↓reduceIte, natF_lt, natF_gt, natF_ne, Nat.add_assoc, Nat.reduceAdd, Nat.reduceEqDiff, Nat.add_left_cancel_iff]; rfl) (fun b hb hne => by simp (disch := (first | omega | (simp only [nx_alloc, nx_upd, len_cons, len_nil, List.length_set, List.length_map, List.length_append] <;> omega) | fail)) only [St.get_upd, St.get_alloc, St.next_alloc, St.next_upd, ↓reduceIte, natF_lt, natF_gt, natF_ne, Nat.add_assoc, Nat.reduceAdd, Nat.reduceEqDiff, Nat.add_left_cancel_iff])) rfl (bndU _)
theorem wdone_pan (w0 : World) (A : St) (v : Value) (s : ByteArray) (e : Int) (he : e ≠ 0) : ACalls Try.prog w0 50 #[v, .string s, .int .i64 e] A (pan (pE e) A) := by
  refine call_E Try.enters50 Try.func50 rfl (Nat.le_of_ble_eq_true rfl) fun hw hbd => ?_
  simp (maxSteps := 1000000) (disch := (first | omega | (simp only [nx_alloc, nx_upd, len_cons, len_nil, List.length_set, List.length_map, List.length_append] <;> omega) | fail)) only [go_sem, Try.ntmps50, Try.results50, he, ifU]
  exact gc_pan hw (Over.refl _) (pE_bnd _ _)
theorem sure_ok (w0 : World) (A : St) : ACalls Try.prog w0 51 #[.bool true] A (fin (.tuple #[]) A) := by
  refine call_E Try.enters51 Try.func51 rfl (Nat.le_of_ble_eq_true rfl) fun hw hbd => ?_
  simp (maxSteps := 1000000) (disch := (first | omega | (simp only [nx_alloc, nx_upd, len_cons, len_nil, List.length_set, List.length_map, List.length_append] <;> omega) | fail)) only [go_sem, Try.ntmps51, Try.results51]
  exact gc_fin hw (Over.refl _) (bndU _)
theorem sure_pan (w0 : World) (A : St) : ACalls Try.prog w0 51 #[.bool false] A (pan (pE 1) A) := by
  refine call_E Try.enters51 Try.func51 rfl (Nat.le_of_ble_eq_true rfl) fun hw hbd => ?_
  simp (maxSteps := 1000000) (disch := (first | omega | (simp only [nx_alloc, nx_upd, len_cons, len_nil, List.length_set, List.length_map, List.length_append] <;> omega) | fail)) only [go_sem, Try.ntmps51, Try.results51, ifU]
  exact gc_pan hw (Over.refl _) (pE_bnd _ _)
/-- What is left to read. -/
def RW (r : List Int) : Prop := (∀ x ∈ r, Byte x) ∧ r.length ≤ 1048576
theorem fixL_facts {r : List Int} (h : RW r) {w : Int} (h1 : 1 ≤ w) (h8 : w ≤ 4) {n : Int} {t : List Int} {e : Int} (hf : fixL r w = (n, t, e)) : RW t ∧ t.length ≤ r.length ∧ 0 ≤ n ∧ n < 256 ^ w.toNat ∧ (e ≠ 0 → e = 40 ∧ n = 0 ∧ t = []) ∧ (e = 0 → (r.length : Int) ≥ w ∧ n = beN (r.take w.toNat) ∧ t = r.drop w.toNat) := by
  unfold fixL at hf
  rw [if_neg (by omega)] at hf
  have hp : (0 : Int) < 256 ^ w.toNat := Int.pow_pos (by omega)
  by_cases hl : (r.length : Int) < w
  · rw [if_pos hl] at hf
    injection hf with e1 e2
    injection e2 with e2 e3
    subst e1 e2 e3
    exact ⟨⟨fun x hx => (by cases hx), by simp⟩, by simp, by omega, hp, fun _ => ⟨rfl, rfl, rfl⟩, fun h => (by cases h)⟩
  · rw [if_neg hl] at hf
    injection hf with e1 e2
    injection e2 with e2 e3
    subst e1 e2 e3
    obtain ⟨q1, q2⟩ := beN_lt w.toNat (r.take w.toNat) (by rw [List.length_take]; omega) (fun x hx => h.1 x (List.mem_of_mem_take hx))
    have := h.2
    exact ⟨⟨fun x hx => h.1 x (List.mem_of_mem_drop hx), by rw [List.length_drop]; omega⟩, by rw [List.length_drop]; omega, q1, q2, fun h => absurd rfl h, fun _ => ⟨by omega, rfl, rfl⟩⟩
theorem pow256_le {w : Int} (h1 : 1 ≤ w) (h8 : w ≤ 4) : (256 : Int) ^ w.toNat ≤ 4294967296 := by
  obtain ⟨k, rfl⟩ := Int.eq_ofNat_of_zero_le (show 0 ≤ w by omega)
  have hk : k ≤ 4 := by omega
  rw [Int.toNat_natCast]
  match k, hk with
  | 0, _ | 1, _ | 2, _ | 3, _ | 4, _ => decide
theorem numI_ok (w0 : World) (A : St) (c : Nat) (r : List Int) (w : Int) (hc : A.get c = some (rdW r)) (hr : RW r) (h1 : 1 ≤ w) (h4 : w ≤ 4) {n : Int} {t : List Int} (h : fixL r w = (n, t, 0)) : ACalls Try.prog w0 41 #[.pointer (some ⟨c, 0, none⟩), .int .i64 w] A (fin (.int .i64 n) (A.upd c (some (rdW t)))) := by
  obtain ⟨f1, _, f2, f3, _, _⟩ := fixL_facts hr h1 h4 h
  have f4 := pow256_le h1 h4
  refine call_E Try.enters41 Try.func41 rfl (Nat.le_of_ble_eq_true rfl) fun hw hbd => ?_
  have hc' := hc
  unfold rdW at hc'
  have hwr : IntKind.wrap .i64 n = n := IntWalk.i64_in _ (by constructor <;> omega)
  simp (maxSteps := 1000000) (disch := (first | omega | (simp only [nx_alloc, nx_upd, len_cons, len_nil, List.length_set, List.length_map, List.length_append] <;> omega) | fail)) only [go_sem, Try.ntmps41, Try.results41, hc']
  refine call1 (fixed_ok w0 A (strOfNums r) w (by rw [str_size]; have := hr.2; omega)) ?_
  rw [nums_str hr.1, h]
  unfold getV
  simp (maxSteps := 1000000) (disch := (first | omega | (simp only [nx_alloc, nx_upd, len_cons, len_nil, List.length_set, List.length_map, List.length_append] <;> omega) | fail)) only [go_sem]
  refine call1 (wdone_ok w0 A c r t hc) ?_
  simp (maxSteps := 1000000) (disch := (first | omega | (simp only [nx_alloc, nx_upd, len_cons, len_nil, List.length_set, List.length_map, List.length_append] <;> omega) | fail)) only [go_sem, hwr, Try.results41]
  exact gc_rw hw hc (Over.refl _) rfl (.int _ _)
theorem numI_pan (w0 : World) (A : St) (c : Nat) (r : List Int) (w : Int) (hc : A.get c = some (rdW r)) (hr : RW r) {n : Int} {t : List Int} {e : Int} (h : fixL r w = (n, t, e)) (he : e ≠ 0) : ACalls Try.prog w0 41 #[.pointer (some ⟨c, 0, none⟩), .int .i64 w] A (pan (pE e) A) := by
  refine call_E Try.enters41 Try.func41 rfl (Nat.le_of_ble_eq_true rfl) fun hw hbd => ?_
  have hc' := hc
  unfold rdW at hc'
  simp (maxSteps := 1000000) (disch := (first | omega | (simp only [nx_alloc, nx_upd, len_cons, len_nil, List.length_set, List.length_map, List.length_append] <;> omega) | fail)) only [go_sem, Try.ntmps41, Try.results41, hc']
  refine call1 (fixed_ok w0 A (strOfNums r) w (by rw [str_size]; have := hr.2; omega)) ?_
  rw [nums_str hr.1, h]
  unfold getV
  simp (maxSteps := 1000000) (disch := (first | omega | (simp only [nx_alloc, nx_upd, len_cons, len_nil, List.length_set, List.length_map, List.length_append] <;> omega) | fail)) only [go_sem]
  refine callp (wdone_pan w0 A _ (strOfNums t) e he) ?_
  simp (maxSteps := 1000000) (disch := (first | omega | (simp only [nx_alloc, nx_upd, len_cons, len_nil, List.length_set, List.length_map, List.length_append] <;> omega) | fail)) only [go_sem, after_pan]
  exact gc_pan hw (Over.refl _) (pE_bnd _ _)
theorem numU_ok (w0 : World) (A : St) (c : Nat) (r : List Int) (w : Int) (hc : A.get c = some (rdW r)) (hr : RW r) (h1 : 1 ≤ w) (h4 : w ≤ 4) {n : Int} {t : List Int} (h : fixL r w = (n, t, 0)) : ACalls Try.prog w0 42 #[.pointer (some ⟨c, 0, none⟩), .int .i64 w] A (fin (.int .u32 n) (A.upd c (some (rdW t)))) := by
  obtain ⟨f1, _, f2, f3, _, _⟩ := fixL_facts hr h1 h4 h
  have f4 := pow256_le h1 h4
  refine call_E Try.enters42 Try.func42 rfl (Nat.le_of_ble_eq_true rfl) fun hw hbd => ?_
  have hc' := hc
  unfold rdW at hc'
  have hwr : IntKind.wrap .u32 n = n := IntWalk.u32_in _ (by constructor <;> omega)
  simp (maxSteps := 1000000) (disch := (first | omega | (simp only [nx_alloc, nx_upd, len_cons, len_nil, List.length_set, List.length_map, List.length_append] <;> omega) | fail)) only [go_sem, Try.ntmps42, Try.results42, hc']
  refine call1 (fixed_ok w0 A (strOfNums r) w (by rw [str_size]; have := hr.2; omega)) ?_
  rw [nums_str hr.1, h]
  unfold getV
  simp (maxSteps := 1000000) (disch := (first | omega | (simp only [nx_alloc, nx_upd, len_cons, len_nil, List.length_set, List.length_map, List.length_append] <;> omega) | fail)) only [go_sem]
  refine call1 (wdone_ok w0 A c r t hc) ?_
  simp (maxSteps := 1000000) (disch := (first | omega | (simp only [nx_alloc, nx_upd, len_cons, len_nil, List.length_set, List.length_map, List.length_append] <;> omega) | fail)) only [go_sem, hwr, Try.results42]
  exact gc_rw hw hc (Over.refl _) rfl (.int _ _)
theorem numU_pan (w0 : World) (A : St) (c : Nat) (r : List Int) (w : Int) (hc : A.get c = some (rdW r)) (hr : RW r) {n : Int} {t : List Int} {e : Int} (h : fixL r w = (n, t, e)) (he : e ≠ 0) : ACalls Try.prog w0 42 #[.pointer (some ⟨c, 0, none⟩), .int .i64 w] A (pan (pE e) A) := by
  refine call_E Try.enters42 Try.func42 rfl (Nat.le_of_ble_eq_true rfl) fun hw hbd => ?_
  have hc' := hc
  unfold rdW at hc'
  simp (maxSteps := 1000000) (disch := (first | omega | (simp only [nx_alloc, nx_upd, len_cons, len_nil, List.length_set, List.length_map, List.length_append] <;> omega) | fail)) only [go_sem, Try.ntmps42, Try.results42, hc']
  refine call1 (fixed_ok w0 A (strOfNums r) w (by rw [str_size]; have := hr.2; omega)) ?_
  rw [nums_str hr.1, h]
  unfold getV
  simp (maxSteps := 1000000) (disch := (first | omega | (simp only [nx_alloc, nx_upd, len_cons, len_nil, List.length_set, List.length_map, List.length_append] <;> omega) | fail)) only [go_sem]
  refine callp (wdone_pan w0 A _ (strOfNums t) e he) ?_
  simp (maxSteps := 1000000) (disch := (first | omega | (simp only [nx_alloc, nx_upd, len_cons, len_nil, List.length_set, List.length_map, List.length_append] <;> omega) | fail)) only [go_sem, after_pan]
  exact gc_pan hw (Over.refl _) (pE_bnd _ _)
theorem numE_ok (w0 : World) (A : St) (c : Nat) (r : List Int) (w : Int) (hc : A.get c = some (rdW r)) (hr : RW r) (h1 : 1 ≤ w) (h4 : w ≤ 4) {n : Int} {t : List Int} (h : fixL r w = (n, t, 0)) : ACalls Try.prog w0 45 #[.pointer (some ⟨c, 0, none⟩), .int .i64 w] A (fin (.int .i64 n) (A.upd c (some (rdW t)))) := by
  obtain ⟨f1, _, f2, f3, _, _⟩ := fixL_facts hr h1 h4 h
  have f4 := pow256_le h1 h4
  refine call_E Try.enters45 Try.func45 rfl (Nat.le_of_ble_eq_true rfl) fun hw hbd => ?_
  have hc' := hc
  unfold rdW at hc'
  have hwr : IntKind.wrap .i64 n = n := IntWalk.i64_in _ (by constructor <;> omega)
  simp (maxSteps := 1000000) (disch := (first | omega | (simp only [nx_alloc, nx_upd, len_cons, len_nil, List.length_set, List.length_map, List.length_append] <;> omega) | fail)) only [go_sem, Try.ntmps45, Try.results45, hc']
  refine call1 (fixed_ok w0 A (strOfNums r) w (by rw [str_size]; have := hr.2; omega)) ?_
  rw [nums_str hr.1, h]
  unfold getV
  simp (maxSteps := 1000000) (disch := (first | omega | (simp only [nx_alloc, nx_upd, len_cons, len_nil, List.length_set, List.length_map, List.length_append] <;> omega) | fail)) only [go_sem]
  refine call1 (wdone_ok w0 A c r t hc) ?_
  simp (maxSteps := 1000000) (disch := (first | omega | (simp only [nx_alloc, nx_upd, len_cons, len_nil, List.length_set, List.length_map, List.length_append] <;> omega) | fail)) only [go_sem, hwr, Try.results45]
  exact gc_rw hw hc (Over.refl _) rfl (.int _ _)
theorem numE_pan (w0 : World) (A : St) (c : Nat) (r : List Int) (w : Int) (hc : A.get c = some (rdW r)) (hr : RW r) {n : Int} {t : List Int} {e : Int} (h : fixL r w = (n, t, e)) (he : e ≠ 0) : ACalls Try.prog w0 45 #[.pointer (some ⟨c, 0, none⟩), .int .i64 w] A (pan (pE e) A) := by
  refine call_E Try.enters45 Try.func45 rfl (Nat.le_of_ble_eq_true rfl) fun hw hbd => ?_
  have hc' := hc
  unfold rdW at hc'
  simp (maxSteps := 1000000) (disch := (first | omega | (simp only [nx_alloc, nx_upd, len_cons, len_nil, List.length_set, List.length_map, List.length_append] <;> omega) | fail)) only [go_sem, Try.ntmps45, Try.results45, hc']
  refine call1 (fixed_ok w0 A (strOfNums r) w (by rw [str_size]; have := hr.2; omega)) ?_
  rw [nums_str hr.1, h]
  unfold getV
  simp (maxSteps := 1000000) (disch := (first | omega | (simp only [nx_alloc, nx_upd, len_cons, len_nil, List.length_set, List.length_map, List.length_append] <;> omega) | fail)) only [go_sem]
  refine callp (wdone_pan w0 A _ (strOfNums t) e he) ?_
  simp (maxSteps := 1000000) (disch := (first | omega | (simp only [nx_alloc, nx_upd, len_cons, len_nil, List.length_set, List.length_map, List.length_append] <;> omega) | fail)) only [go_sem, after_pan]
  exact gc_pan hw (Over.refl _) (pE_bnd _ _)
end Go.Fw
