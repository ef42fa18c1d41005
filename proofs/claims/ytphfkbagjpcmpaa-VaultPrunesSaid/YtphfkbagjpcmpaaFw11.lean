import Derived.Test.YtphfkbagjpcmpaaFw10
import Derived.MapKept
import Derived.Lib.UnsafeStr
import Derived.Lib.Builder
/-! copy, conversions; all operations together. -/
set_option linter.unusedSimpArgs false
set_option linter.unusedVariables false
namespace Go.Fw
open Go.RowKit

def acopy (P : Program) (A : St) (dT : TypeId) (d x : Value) : Option (Value × St) :=
  match telem P dT with
  | none => none
  | some e =>
    match tsz P e with
    | none => none
    | some sz =>
      match srcCells A sz x, d with
      | some (n, new), .slice base len _ =>
        if Nat.min n len = 0 then some (.int .i64 0, A) else
        match base with
        | none => none
        | some ⟨b, off, _⟩ =>
          match A.get b with
          | some (.cells cs e' (some m)) =>
            if m ≤ off ∧ off + Nat.min n len * sz ≤ cs.length ∧ (new.take (Nat.min n len * sz)).all cell1 = true then some (.int .i64 (Nat.min n len : Nat), A.upd b (some (.cells (setList cs off (new.take (Nat.min n len * sz))) e' (some m)))) else none
          | _ => none
      | _, _ => none

def aconv (P : Program) (A : St) (src dst : TypeId) (x : Value) : Option (Value × St) :=
  match P.underlying src, P.underlying dst, x with
  | some _, some (.int k), .int _ i => some (.int k (k.wrap i), A)
  | some _, some .string, .string s => some (.string s, A)
  | some _, some (.slice e), .string s =>
    match P.underlying e with
    | some (.int .u8) => some (.slice (some ⟨A.next, 0, some 1⟩) s.size s.size, A.alloc (.cells (s.data.toList.map fun b => .int .u8 b.toNat) e (some 0)))
    | _ => none
  | some (.slice e), some .string, .slice a len _ =>
    match P.underlying e with
    | some (.int .u8) =>
      match a with
      | none => some (.string .empty, A)
      | some ⟨b, off, _⟩ =>
        if len = 0 then some (.string .empty, A) else
        match A.get b with
        | some (.cells cs _ _) => if off + len ≤ cs.length then (intsOf .u8 ((cs.drop off).take len)).map fun ns => (.string (strOfNums ns), A) else none
        | _ => none
    | _ => none
  | some (.pointer t), some .unsafePointer, .pointer (some ⟨b, off, sp⟩) =>
    match A.get b, tsz P t with
    | some (.cells cs _ _), some (_ + 1) => if off < cs.length then some (.pointer (some ⟨b, off, sp⟩), A) else none
    | _, _ => none
  | some .unsafePointer, some (.pointer u), .pointer (some ⟨b, off, sp⟩) =>
    match A.get b, tsz P u with
    | some (.cells cs e (some _)), some s => if e = btype ∧ u = e ∧ off = 0 ∧ s ≠ 0 ∧ s ≤ cs.length then some (.pointer (some ⟨b, off, sp⟩), A) else none
    | _, _ => none
  | _, _, _ => none

section
variable {P : Program} {w0 : World} {φ : Nat → Option Loc} {A : St} {w : World}

theorem acopy_sound (h : Sim w0 φ A w) {dT xT ty : TypeId} {d x cd cx v : Value} {A' : St} (e : acopy P A dT d x = some (v, A')) (hd : VR φ A.next d cd) (hx : VR φ A.next x cx) :
    ∃ v' w' φ', (Builtin.copy_ #[dT, xT] ty #[cd, cx]).run P w = .ok v' w' ∧ VR φ' A'.next v v' ∧ Sim w0 φ' A' w' ∧ A.next ≤ A'.next ∧ Ext A.next φ φ' := by
  unfold acopy at e
  split at e
  · cases e
  · rename_i el hel
    split at e
    · cases e
    · rename_i sz hsz
      split at e
      · rename_i n new base len cap hsrc
        obtain ⟨hlen, hnl, _, hsrcs⟩ := srcCells_sound (P := P) h hsrc hx
        obtain ⟨ds, hds, hdc⟩ := hsrcs (Nat.min n len) (Nat.min_le_left _ _)
        have hrun : ∀ base' ccap, (Builtin.copy_ #[dT, xT] ty #[.slice base' len ccap, cx]).run P w =
            ((match base' with | some a => storeCells a ds.toList | none => pure () : Sem Unit).run P w).andThen fun _ w' => .ok (goInt ((Nat.min n len : Nat) : Int)) w' := by
          intro base' ccap
          unfold Builtin.copy_
          simp only [List.getElem?_toArray, List.getElem?_cons_zero, List.getElem?_cons_succ, Sem.run_bind, run_und (telem_und hel), Result.andThen_ok, run_tsz hsz, hlen, hds, Sem.run_pure]
          cases base' with
          | none => rfl
          | some a => simp only [Sem.run_bind, Sem.run_pure]
        split at e
        · rename_i hk0
          simp only [Option.some.injEq, Prod.mk.injEq] at e
          obtain ⟨rfl, rfl⟩ := e
          have hds0 : ds = #[] := by
            have := hdc.1
            rw [hk0] at this
            simp at this
            exact Array.eq_empty_of_size_eq_zero (by omega)
          subst hds0
          refine ⟨.int .i64 0, w, φ, ?_, .int _ _, h, Nat.le_refl _, Ext.refl _ _⟩
          rcases hd.slice_inv with ⟨rfl, rfl, rfl, rfl⟩ | ⟨b, off, sp, ca, ccap, rfl, rfl, _⟩
          · rw [hrun, hk0]; rfl
          · rw [hrun, hk0]; rfl
        · rename_i hk0
          split at e
          · cases e
          · rename_i b off sp
            rcases hd.slice_inv with ⟨e0, _⟩ | ⟨b', off', sp', ca, ccap, e0, rfl, hb, hle, hcc, hloc⟩
            · cases e0
            · cases e0
              split at e
              · rename_i bcs e' m hg
                split at e
                · rename_i hc
                  obtain ⟨c1, c2, c3⟩ := hc
                  simp only [Option.some.injEq, Prod.mk.injEq] at e
                  obtain ⟨rfl, rfl⟩ := e
                  obtain ⟨_, l, hl, _⟩ := h.blk b _ hg
                  have hkn : Nat.min n len ≤ n := Nat.min_le_left _ _
                  have hmul : Nat.min n len * sz ≤ n * sz := Nat.mul_le_mul_right _ hkn
                  have htl : (new.take (Nat.min n len * sz)).length = Nat.min n len * sz := by rw [List.length_take]; omega
                  have hdl : ds.size = Nat.min n len * sz := by have := hdc.1; simp only [List.size_toArray] at this; omega
                  rcases hloc l hl with ⟨rfl, hcap⟩ | ⟨c4, _⟩
                  · obtain ⟨w', hr, hs'⟩ := Sim.store (P := P) hl off (new.take (Nat.min n len * sz)) ds.toList 0 A w bcs h hg (by rw [htl]; simp [hdl]) (fun j v v' a b => ⟨hdc.2 j v v' (by simpa using a) (by simpa using b), by
                      rw [List.all_eq_true] at c3; exact c3 v (List.mem_of_getElem? a)⟩) (by omega) (by omega)
                    refine ⟨_, w', φ, ?_, .int _ _, hs', Nat.le_refl _, Ext.refl _ _⟩
                    rw [hrun]
                    show ((storeCells ⟨l.block, l.base + off, none⟩ ds.toList).run P w).andThen _ = _
                    rw [hr]; rfl
                  · have : len = 0 := by omega
                    subst this
                    exact absurd (Nat.min_zero n) hk0
                · cases e
              · cases e
      · cases e

theorem tsz_info {P : Program} {t : TypeId} {n : Nat} (h : tsz P t = some n) : ∃ i, P.info? t = some i ∧ i.size = n := by
  unfold tsz at h
  cases hi : P.info? t with
  | none => rw [hi] at h; cases h
  | some i => rw [hi] at h; cases h; exact ⟨i, rfl, rfl⟩
theorem liesAt_self {P : Program} {e : TypeId} (hc : P.cellsOf e ≠ 0) (count : Nat) (hn : 1 ≤ count) : liesAt P P.depth e count 0 e 1 = true := by
  have hd : P.depth = (2 * (P.types.size + Made.depth) + 1) + 1 := rfl
  rw [hd]
  simp only [liesAt, Bool.or_eq_true]
  left
  rw [hd]
  simp [rowAt, hc, hn, sameLayout]
theorem aconv_sound (h : Sim w0 φ A w) {src dst : TypeId} {x cx v : Value} {A' : St} (e : aconv P A src dst x = some (v, A')) (hx : VR φ A.next x cx) :
    ∃ v' w' φ', (convert src dst cx).run P w = .ok v' w' ∧ VR φ' A'.next v v' ∧ Sim w0 φ' A' w' ∧ A.next ≤ A'.next ∧ Ext A.next φ φ' := by
  unfold aconv at e
  split at e
  · rename_i ds k k' i hs hd
    obtain rfl := hx.int_inv
    simp only [Option.some.injEq, Prod.mk.injEq] at e
    obtain ⟨rfl, rfl⟩ := e
    refine ⟨_, w, φ, ?_, .int _ _, h, Nat.le_refl _, Ext.refl _ _⟩
    simp only [convert, Sem.run_bind, run_und hs, run_und hd, Result.andThen_ok]
    cases ds <;> rfl
  · rename_i ds s hs hd
    obtain rfl := hx.string_inv
    simp only [Option.some.injEq, Prod.mk.injEq] at e
    obtain ⟨rfl, rfl⟩ := e
    refine ⟨_, w, φ, ?_, .string _, h, Nat.le_refl _, Ext.refl _ _⟩
    simp only [convert, Sem.run_bind, run_und hs, run_und hd, Result.andThen_ok]
    cases ds <;> rfl
  · rename_i ds el s hs hd
    obtain rfl := hx.string_inv
    split at e
    · rename_i he
      simp only [Option.some.injEq, Prod.mk.injEq] at e
      obtain ⟨rfl, rfl⟩ := e
      obtain ⟨ncap, hnc, hq⟩ : ∃ ncap, s.size ≤ ncap ∧ Question.cut (.appendCap s.size 0 el) (w.tape w.drawn (.appendCap s.size 0 el)) = ncap := ⟨_, by simp [Question.cut], rfl⟩
      obtain ⟨C, hC⟩ : ∃ C : Array Value, C = s.data.map (fun b => Value.int .u8 b.toNat) ++ Array.replicate (ncap - s.size) (.int .u8 0) := ⟨_, rfl⟩
      have hCs : C.size = ncap := by
        have : s.data.size = s.size := rfl
        rw [hC, Array.size_append, Array.size_map, Array.size_replicate, this]; omega
      obtain ⟨φ', hs', he', hφ'⟩ := h.drew.newRow (s.data.toList.map fun b => Value.int .u8 b.toNat) C el (C.size, C.size + 1) (by
          have : s.data.toList.length = s.size := by rw [Array.length_toList]; rfl
          rw [List.length_map, this, hCs]; exact hnc) (fun i v hi => by
        refine ⟨v, ?_, ?_⟩
        · rw [hC]
          have hlt : i < (s.data.map (fun b => Value.int .u8 b.toNat)).size := by
            have := (List.getElem?_eq_some_iff.1 hi).1
            rw [List.length_map, Array.length_toList] at this
            rw [Array.size_map]; exact this
          rw [Array.getElem?_append, if_pos hlt, ← Array.getElem?_toList, Array.toList_map]; exact hi
        · rw [List.getElem?_map, Option.map_eq_some_iff] at hi
          obtain ⟨y, _, rfl⟩ := hi
          exact .int _ _) (fun i hi hx => by simp only at hx; omega)
      refine ⟨.slice (some ⟨w.heap.size, 0, none⟩) s.size ncap, _, φ', ?_, ?_, hs', by simp, he'⟩
      · have hconv : (convert src dst (.string s)).run P w = (Conv.stringToBytes el s).run P w := by
          simp only [convert, Sem.run_bind, run_und hs, run_und hd, Result.andThen_ok]
          cases ds <;> simp only [Sem.run_bind, run_und he, Result.andThen_ok]
        rw [hconv]
        have hsh : (w.drew.alloc (.cells C el)).shape? w.heap.size = some (el, C.size) := by
          have := heap_alloc_new w.drew (.cells C el)
          rw [World.size_drew] at this
          simp only [World.shape?, this]
        have hfz : (w.drew.alloc (.cells C el)).freeze { block := w.heap.size, off := C.size } 1 = w.drew.alloc (.cells C el (C.size, C.size + 1)) := by
          have e1 : (w.drew.alloc (.cells C el)).heap.modify w.heap.size (fun
            | .cells c elem (lo, hi) => .cells c elem (if lo == hi then (C.size, C.size + 1) else (min lo C.size, max hi (C.size + 1)))
            | o => o) = (w.drew.alloc (.cells C el (C.size, C.size + 1))).heap := by
            show (w.heap.push (.cells C el)).modify w.heap.size _ = w.heap.push (.cells C el (C.size, C.size + 1))
            apply Array.ext
            · simp
            · intro i h1 h2
              rw [Array.getElem_modify]
              by_cases hi : w.heap.size = i
              · subst hi; simp
              · have : i < w.heap.size := by simp at h1; omega
                rw [if_neg hi, Array.getElem_push_lt this, Array.getElem_push_lt this]
          unfold World.freeze
          rw [if_neg (by decide)]
          exact congrArg (fun hp => { w.drew.alloc (.cells C el) with heap := hp }) e1
        simp only [Conv.stringToBytes, Sem.run_bind, run_choose_drew, Question.forced, Bool.false_eq_true, if_false, hq, Result.andThen_ok, newRow, run_newObj, World.alloc_eq, World.size_drew, Sem.run_pure, pure_bind, ← hC, markStringish, run_shape, hsh, run_freeze, hfz]
      · refine .slice _ _ _ _ _ _ _ (by simp) (Nat.le_refl _) hnc fun l hl => ?_
        rw [hφ'] at hl; cases hl
        left
        refine ⟨by simp, ?_⟩
        simp only [capOk, hCs]; omega
    · cases e
  · rename_i el a len cap hs hd
    split at e
    · rename_i he
      have hnil : ∀ l c, (convert src dst (.slice none l c)).run P w = .ok (.string .empty) w := fun l c => run_convert_bytes_nil w src el hs he l c dst hd
      split at e
      · simp only [Option.some.injEq, Prod.mk.injEq] at e
        obtain ⟨rfl, rfl⟩ := e
        rcases hx.slice_inv with ⟨_, rfl, rfl, rfl⟩ | ⟨b, off, sp, ca, ccap, e0, _⟩
        · exact ⟨_, w, φ, hnil 0 0, .string _, h, Nat.le_refl _, Ext.refl _ _⟩
        · cases e0
      · rename_i b off sp
        rcases hx.slice_inv with ⟨e0, _⟩ | ⟨b', off', sp', ca, ccap, e0, rfl, hb, hle, hcc, hloc⟩
        · cases e0
        · cases e0
          split at e
          · rename_i h0
            subst h0
            simp only [Option.some.injEq, Prod.mk.injEq] at e
            obtain ⟨rfl, rfl⟩ := e
            refine ⟨.string .empty, w, φ, ?_, .string _, h, Nat.le_refl _, Ext.refl _ _⟩
            obtain ⟨cb, co, csp⟩ := ca
            simp only [convert, Sem.run_bind, run_und hs, run_und hd, Result.andThen_ok, run_und he, Conv.bytesToString, loadCells, loadCellsFrom, Sem.run_pure]
            simp
          · rename_i h0
            split at e
            · rename_i cs e1 m hg
              split at e
              · rename_i hc
                simp only [Option.map_eq_some_iff, Prod.mk.injEq] at e
                obtain ⟨ns, hns, rfl, rfl⟩ := e
                obtain ⟨_, l, hl, _⟩ := h.blk b _ hg
                have hl1 := intsOf_at hns
                have hlen : ns.length = len := by have := congrArg List.length hl1; simp at this; omega
                rcases hloc l hl with ⟨rfl, _⟩ | ⟨c1, _⟩
                · refine ⟨_, w, φ, run_convert_bytes_arg w src el hs he l.block (l.base + off) len ccap ns hlen (fun i hi => ?_) dst hd, .string _, h, Nat.le_refl _, Ext.refl _ _⟩
                  have hci : cs[off + i]? = some (.int .u8 (ns.getD i 0)) := by
                    have := congrArg (fun l => l[i]?) hl1
                    simp only [List.getElem?_take, if_pos hi, List.getElem?_drop, List.getElem?_map] at this
                    rw [this, List.getElem?_eq_getElem (by omega), List.getD_eq_getElem?_getD, List.getElem?_eq_getElem (by omega)]; rfl
                  obtain ⟨l', v', hl', hv1, hv2⟩ := h.cell hg hci
                  rw [hl] at hl'; cases hl'
                  rw [show l.base + off + i = l.base + (off + i) by omega, hv1, hv2.int_inv]
                · omega
              · cases e
            · cases e
    · cases e
  · rename_i t b off sp hs hd
    split at e
    · rename_i cs el m n hg ht
      split at e
      · rename_i hlt
        simp only [Option.some.injEq, Prod.mk.injEq] at e
        obtain ⟨rfl, rfl⟩ := e
        obtain ⟨_, l, hl, C, fr, h1, h2, h3, _⟩ := h.blk b _ hg
        have hx' := hx
        obtain ⟨ca, rfl, _, rfl, hca⟩ := hx.ptr_inv
        obtain rfl := hca l hl
        obtain ⟨ti, hti, htj⟩ := tsz_info ht
        refine ⟨_, w, φ, Lib.run_to_unsafe w _ hs hd hti (by omega) (e := el) (cells := C.size) (by simp [World.shape?, h1]) (by simp only; omega), hx', h, Nat.le_refl _, Ext.refl _ _⟩
      · cases e
    · cases e
  · rename_i u b off sp hs hd
    split at e
    · rename_i cs el k s hg hu
      split at e
      · rename_i hc
        obtain ⟨c1, rfl, rfl, c2, c3⟩ := hc
        simp only [Option.some.injEq, Prod.mk.injEq] at e
        obtain ⟨rfl, rfl⟩ := e
        obtain ⟨_, l, hl, C, fr, h1, h2, h3, _, h5⟩ := h.blk b _ hg
        have hbase := (h5 k rfl).1.2 c1
        have hx' := hx
        obtain ⟨ca, rfl, _, rfl, hca⟩ := hx.ptr_inv
        obtain rfl := hca l hl
        obtain ⟨ti, hti, htj⟩ := tsz_info hu
        have hcells : P.cellsOf u = s := by simp [Program.cellsOf, hti, htj]
        refine ⟨_, w, φ, Lib.run_from_unsafe w _ hs hd hti (e := u) (cells := C.size) (by simp [World.shape?, h1]) ?_, hx', h, Nat.le_refl _, Ext.refl _ _⟩
        simp only [hbase, hcells, Nat.add_zero]
        refine liesAt_self (by rw [hcells]; exact c2) _ ?_
        exact (Nat.le_div_iff_mul_le (by omega)).2 (by omega)
      · cases e
    · cases e
  · cases e
end

/-! ### Maps from strings -/
def smGet : List (ByteArray × Value) → ByteArray → Option Value
  | [], _ => none
  | p :: r, s => if s = p.1 then some p.2 else smGet r s
def smSet : List (ByteArray × Value) → ByteArray → Value → List (ByteArray × Value)
  | [], s, v => [(s, v)]
  | p :: r, s, v => if s = p.1 then (s, v) :: r else p :: smSet r s v
def alookup (P : Program) (A : St) (t : TypeId) (x k : Value) (ok : Bool) : Option Value :=
  match P.underlying t, x, k with
  | some (.map kt et), .map (some b), .string s =>
    match P.underlying kt, A.get b, tzero P et with
    | some .string, some (.smap L), some z =>
      match smGet L s with
      | some v => some (if ok then .tuple #[v, .bool true] else v)
      | none => some (if ok then .tuple #[z, .bool false] else z)
    | _, _, _ => none
  | _, _, _ => none
def amapSet (P : Program) (A : St) (t : TypeId) (m k x : Value) : Option St :=
  match P.underlying t, m, k with
  | some (.map kt _), .map (some b), .string s =>
    match P.underlying kt, A.get b with
    | some .string, some (.smap L) => if plainV x then some (A.upd b (some (.smap (smSet L s x)))) else none
    | _, _ => none
  | _, _, _ => none

section
variable {P : Program} {w0 : World} {φ : Nat → Option Loc} {A : St} {w : World}
def kv (e : MapEntry) : Value × Value := (e.key, e.val)
theorem findNow_get {s : ByteArray} : ∀ (es : List MapEntry) (L : List (ByteArray × Value)) (i : Nat), es.map (fun e => (e.key, e.val)) = L.map (fun p => (Value.string p.1, p.2)) →
    (smGet L s = none ∧ Instr.findNow .string (.string s) es i = some none) ∨ ∃ j v e, smGet L s = some v ∧ Instr.findNow .string (.string s) es i = some (some (i + j, v)) ∧ es[j]? = some e ∧ e.key = .string s
  | [], [], i, _ => .inl ⟨rfl, rfl⟩
  | [], _ :: _, i, h => by simp at h
  | _ :: _, [], i, h => by simp at h
  | e :: es, p :: L, i, h => by
    simp only [List.map_cons, List.cons.injEq, Prod.mk.injEq] at h
    obtain ⟨⟨h1, h2⟩, h3⟩ := h
    have hb : (s == p.1) = true ↔ s = p.1 := MapKept.bytes_beq s p.1
    by_cases hs : s = p.1
    · refine .inr ⟨0, p.2, e, by simp [smGet, hs], ?_, rfl, by rw [h1, hs]⟩
      simp only [Instr.findNow, h1, Instr.sameNow, hb.2 hs, Nat.add_zero, h2]
    · have hb' : (s == p.1) = false := by
        cases hx : (s == p.1) with
        | false => rfl
        | true => exact absurd (hb.1 hx) hs
      rcases findNow_get (s := s) es L (i + 1) h3 with ⟨a, b⟩ | ⟨j, v, e', a, b, c, d⟩
      · exact .inl ⟨by simp [smGet, hs, a], by simp only [Instr.findNow, h1, Instr.sameNow, hb', b]⟩
      · exact .inr ⟨j + 1, v, e', by simp [smGet, hs, a], by simp only [Instr.findNow, h1, Instr.sameNow, hb', b]; congr 3; omega, by simpa using c, d⟩

theorem smGet_mem {s : ByteArray} {v : Value} : ∀ {L : List (ByteArray × Value)}, smGet L s = some v → ∃ p ∈ L, p.2 = v
  | [], h => by cases h
  | p :: L, h => by
    unfold smGet at h
    split at h
    · cases h; exact ⟨p, .head _, rfl⟩
    · obtain ⟨q, h1, h2⟩ := smGet_mem h; exact ⟨q, .tail _ h1, h2⟩
theorem smSet_mem {s : ByteArray} {v : Value} : ∀ {L : List (ByteArray × Value)} {p : ByteArray × Value}, p ∈ smSet L s v → p ∈ L ∨ p.2 = v
  | [], p, h => by simp [smSet] at h; exact .inr (by rw [h])
  | q :: L, p, h => by
    unfold smSet at h
    split at h
    · rcases List.mem_cons.1 h with rfl | h
      · exact .inr rfl
      · exact .inl (.tail _ h)
    · rcases List.mem_cons.1 h with rfl | h
      · exact .inl (.head _)
      · rcases smSet_mem h with h | h
        · exact .inl (.tail _ h)
        · exact .inr h

theorem Sim.smap (h : Sim w0 φ A w) {b : Nat} {L : List (ByteArray × Value)} (hb : A.get b = some (.smap L)) {cx : Value} (hx : VR φ A.next (.map (some b)) cx) :
    ∃ l es clock, φ b = some l ∧ cx = .map (some l.block) ∧ w0.heap.size ≤ l.block ∧ (∀ p ∈ L, plainV p.2 = true) ∧ w.heap[l.block]? = some (.map es clock) ∧ es.toList.map (fun e => (e.key, e.val)) = L.map (fun p => (Value.string p.1, p.2)) := by
  obtain ⟨_, l, hl, h0, hp, es, c, h1, h2⟩ := h.blk b _ hb
  cases hx with
  | map _ b' _ h => obtain rfl := h l hl; exact ⟨l, es, c, hl, rfl, h0, hp, h1, h2⟩

theorem VR.pair {n : Nat} {v : Value} (h : plainV v = true) (b : Bool) : VR φ n (.tuple #[v, .bool b]) (.tuple #[v, .bool b]) := by
  refine .tuple _ _ rfl fun i x y e e' => ?_
  rw [e] at e'
  cases e'
  match i with
  | 0 => simp at e; subst e; exact VR.plain h
  | 1 => simp at e; subst e; exact .bool b
  | i + 2 => simp at e
theorem alookup_sound (h : Sim w0 φ A w) {t : TypeId} {x k cx ck v : Value} {ok : Bool} (e : alookup P A t x k ok = some v) (hx : VR φ A.next x cx) (hk : VR φ A.next k ck) :
    (Instr.lookup t cx ck ok).run P w = .ok v w ∧ VR φ A.next v v := by
  unfold alookup at e
  split at e
  · rename_i kt et b s ht
    obtain rfl := hk.string_inv
    split at e
    · rename_i L z hkt hL hz
      obtain ⟨l, es, c, _, rfl, _, hp, h1, h2⟩ := h.smap hL hx
      have hzr : (zeroValue et).run P w = .ok z w ∧ plainV z = true := run_tzero hz
      have hrun : (Instr.lookup t (.map (some l.block)) (.string s) ok).run P w = ((do
          let (v, ok') ← match ← Instr.findKey kt (.string s) es.toList with
            | some (_, v) => pure (v, true)
            | none => pure (← zeroValue et, false)
          pure (if ok then .tuple #[v, .bool ok'] else v) : Sem Value)).run P w := by
        simp only [Instr.lookup, Sem.run_bind, run_und ht, Result.andThen_ok, MapKept.run_getObj_map h1, Sem.run_pure, MapKept.run_checkKey hkt (show MapKept.IsKey .string (.string s) from trivial) es.isEmpty 9999]
        rfl
      rw [hrun]
      rcases findNow_get es.toList L 0 h2 with ⟨a, b⟩ | ⟨j, u, e', a, b, _, _⟩
      · rw [a] at e
        simp only [Option.some.injEq] at e
        subst e
        refine ⟨by simp only [Sem.run_bind, MapKept.run_findKey hkt b, Result.andThen_ok, hzr.1, Sem.run_pure], ?_⟩
        cases ok
        · exact VR.plain hzr.2
        · exact VR.pair hzr.2 false
      · rw [a] at e
        simp only [Option.some.injEq] at e
        subst e
        obtain ⟨p, hp1, rfl⟩ := smGet_mem a
        refine ⟨by simp only [Sem.run_bind, MapKept.run_findKey hkt b, Result.andThen_ok, Sem.run_pure], ?_⟩
        cases ok
        · exact VR.plain (hp p hp1)
        · exact VR.pair (hp p hp1) true
    · cases e
  · cases e

theorem es_push {es : Array MapEntry} {L : List (ByteArray × Value)} {s : ByteArray} {v : Value} {c : Nat} (h : es.toList.map (fun e => (e.key, e.val)) = L.map (fun p => (Value.string p.1, p.2))) (hn : smGet L s = none) :
    (es.push { key := .string s, val := v, born := c }).toList.map (fun e => (e.key, e.val)) = (smSet L s v).map (fun p => (Value.string p.1, p.2)) := by
  have : smSet L s v = L ++ [(s, v)] := by
    clear h
    induction L with
    | nil => rfl
    | cons p L ih =>
      unfold smGet at hn
      split at hn
      · cases hn
      · rename_i hs; unfold smSet; rw [if_neg hs, ih hn]; rfl
  rw [this, Array.toList_push, List.map_append, List.map_append, h]; rfl
theorem es_mod {s : ByteArray} {v : Value} : ∀ (es : List MapEntry) (L : List (ByteArray × Value)) (i j : Nat) (u : Value), es.map (fun e => (e.key, e.val)) = L.map (fun p => (Value.string p.1, p.2)) →
    Instr.findNow .string (.string s) es i = some (some (i + j, u)) → (es.modify j fun e => { e with key := .string s, val := v }).map (fun e => (e.key, e.val)) = (smSet L s v).map (fun p => (Value.string p.1, p.2))
  | [], _, i, j, u, _, h => by simp [Instr.findNow] at h
  | _ :: _, [], i, j, u, h, _ => by simp at h
  | e :: es, p :: L, i, j, u, h, hf => by
    simp only [List.map_cons, List.cons.injEq, Prod.mk.injEq] at h
    obtain ⟨⟨h1, h2⟩, h3⟩ := h
    have hb : (s == p.1) = true ↔ s = p.1 := MapKept.bytes_beq s p.1
    by_cases hs : s = p.1
    · simp only [Instr.findNow, h1, Instr.sameNow, hb.2 hs, Option.some.injEq, Prod.mk.injEq] at hf
      obtain rfl : j = 0 := by omega
      simp [smSet, hs, h3]
    · have hb' : (s == p.1) = false := by
        cases hx : (s == p.1) with
        | false => rfl
        | true => exact absurd (hb.1 hx) hs
      simp only [Instr.findNow, h1, Instr.sameNow, hb'] at hf
      have hge : ∀ (es : List MapEntry) (i r : Nat) (u : Value), Instr.findNow .string (.string s) es i = some (some (r, u)) → i ≤ r := by
        intro es
        induction es with
        | nil => intro i r u h; simp [Instr.findNow] at h
        | cons e es ih =>
          intro i r u h
          unfold Instr.findNow at h
          split at h
          · simp at h; omega
          · have := ih _ _ _ h; omega
          · cases h
      have h4 := hge _ _ _ _ hf
      obtain ⟨j', rfl⟩ : ∃ j', j = j' + 1 := ⟨j - 1, by omega⟩
      have := es_mod (s := s) (v := v) es L (i + 1) j' u h3 (by rw [hf]; congr 3; omega)
      simp only [List.modify_succ_cons, List.map_cons, this, smSet, if_neg hs, h1, h2]

theorem Below.setBlk {B : Nat} {a : World} (h : Below B a w) {r : Nat} (hr : B ≤ r) (o : Obj) : Below B a { w with heap := w.heap.setIfInBounds r o } :=
  ⟨h.os, h.tape, h.output, by have := h.size; simp; exact this, fun k hk => (by simp only [Array.getElem?_setIfInBounds]; rw [if_neg (by omega)] : ({ w with heap := w.heap.setIfInBounds r o } : World).heap[k]? = w.heap[k]?).trans (h.block k hk)⟩
theorem amapSet_sound (h : Sim w0 φ A w) {t : TypeId} {m k x cm ck cx : Value} {A' : St} (e : amapSet P A t m k x = some A') (hm : VR φ A.next m cm) (hk : VR φ A.next k ck) (hx : VR φ A.next x cx) :
    ∃ w', (Instr.mapUpdate t cm ck cx).run P w = .ok () w' ∧ Sim w0 φ A' w' ∧ A'.next = A.next := by
  unfold amapSet at e
  split at e
  · rename_i kt et b s ht
    obtain rfl := hk.string_inv
    split at e
    · rename_i L hkt hL
      split at e
      · rename_i hpl
        cases e
        rw [VR.plain_eq hpl hx]
        obtain ⟨l, es, c, hl, rfl, h0, hp, h1, h2⟩ := h.smap hL hm
        have hpv : ∀ p ∈ smSet L s x, plainV p.2 = true := fun p hq => by
          rcases smSet_mem (s := s) (v := x) hq with hq | hq
          · exact hp p hq
          · rw [hq]; exact hpl
        have hlt := (Array.getElem?_eq_some_iff.1 h1).1
        have put : ∀ (es' : Array MapEntry) (c' : Nat), es'.toList.map (fun e => (e.key, e.val)) = (smSet L s x).map (fun p => (Value.string p.1, p.2)) →
            Sim w0 φ (A.upd b (some (.smap (smSet L s x)))) { w with heap := w.heap.setIfInBounds l.block (.map es' c') } := fun es' c' he =>
          h.turn hL hl (by simp [roBlk]) (Below.setBlk h.below h0 _) (fun k hk _ => by simp only [Array.getElem?_setIfInBounds]; rw [if_neg (by omega)])
            ⟨h0, hpv, es', c', by simp only [Array.getElem?_setIfInBounds]; rw [if_pos trivial, if_pos hlt], he⟩
        rcases findNow_get es.toList L 0 h2 with ⟨a, hf⟩ | ⟨j, u, e', a, hf, hj, hkey⟩
        · refine ⟨_, ?_, put _ (c + 1) (es_push (c := c) h2 a), rfl⟩
          simp only [Instr.mapUpdate, Sem.run_bind, run_und ht, Result.andThen_ok, MapKept.run_getObj_map h1, MapKept.run_checkKey hkt (show MapKept.IsKey .string (.string s) from trivial) false 9999, MapKept.run_findKey hkt hf, MapKept.run_setObj_map _ h1]
        · refine ⟨_, ?_, put (es.modify j fun e => { e with key := .string s, val := x }) c (by rw [Array.toList_modify]; exact es_mod es.toList L 0 j u h2 hf), rfl⟩
          have hj' : es[j]? = some e' := by simpa using hj
          have hst : Instr.keyThatStays (.string s) (.string s) = pure (.string s) := by
            have : Instr.sameBits 10000 (.string s) (.string s) = true := (MapKept.bytes_beq s s).2 rfl
            unfold Instr.keyThatStays; rw [if_pos this]
          simp only [Instr.mapUpdate, Sem.run_bind, run_und ht, Result.andThen_ok, MapKept.run_getObj_map h1, MapKept.run_checkKey hkt (show MapKept.IsKey .string (.string s) from trivial) false 9999, MapKept.run_findKey hkt hf, Nat.zero_add, hj', Option.map_some, Option.getD_some, hkey, hst, Sem.run_pure, MapKept.run_setObj_map _ h1]
      · cases e
    · cases e
  · cases e

theorem makeMap_sound (h : Sim w0 φ A w) (t : TypeId) :
    ∃ v' w' φ', (Instr.makeMap t none).run P w = .ok v' w' ∧ VR φ' (A.alloc (.smap [])).next (.map (some A.next)) v' ∧ Sim w0 φ' (A.alloc (.smap [])) w' ∧ A.next ≤ (A.alloc (.smap [])).next ∧ Ext A.next φ φ' := by
  obtain ⟨hs, he⟩ := h.new (.smap []) (.map #[] 0) ⟨w.heap.size, 0, 0⟩ rfl ⟨h.old, by simp, #[], 0, heap_alloc_new w _, rfl⟩
  refine ⟨.map (some w.heap.size), _, _, ?_, ?_, hs, by simp, he⟩
  · simp only [Instr.makeMap, Sem.run_bind, run_newObj, Result.andThen_ok, Sem.run_pure, World.alloc_eq]
  · exact .map _ _ (by simp) fun l hl => by simp at hl; rw [← hl]
end

/-! ### unsafe.SliceData, unsafe.String; pointers held against themselves -/
def asliceData (A : St) : Value → Option (Value × St)
  | .slice none _ _ => some (.pointer none, A)
  | .slice (some ⟨b, off, _⟩) len _ => if len = 0 then none else some (.pointer (some ⟨b, off, none⟩), A)
  | _ => none
def aunsafeStr (P : Program) (A : St) (pt : TypeId) (p : Option Addr) (n : Int) : Option (Value × St) :=
  if n = 0 then some (.string .empty, A) else
  if n < 0 ∨ 9223372036854775807 < n then none else
  match p, P.underlying pt with
  | some ⟨b, off, _⟩, some (.pointer e) =>
    match A.get b, tsz P e with
    | some (.cells cs e' (some _)), some 1 =>
      if e' = e ∧ off + n.toNat ≤ cs.length then (intsOf .u8 ((cs.drop off).take n.toNat)).map fun ns => (.string (strOfNums ns), A.upd b none) else none
    | _, _ => none
  | _, _ => none
/-- A pointer held against itself. -/
def asame (P : Program) (A : St) (op : BinOp) (t : TypeId) (p q : Addr) : Option Value :=
  match P.underlying t, A.get p.block with
  | some (.pointer te), some _ =>
    if p = q ∧ (P.info? te).isSome = true then
      match op with
      | .eql => some (.bool true)
      | .neq => some (.bool false)
      | _ => none
    else none
  | _, _ => none
def abinA (P : Program) (A : St) (op : BinOp) (t : TypeId) (xo yo : Operand) (x y : Value) : Option Value :=
  match x, y with
  | .pointer (some p), .pointer (some q) => asame P A op t p q
  | _, _ => abin P op t xo yo x y

section
variable {P : Program} {w0 : World} {φ : Nat → Option Loc} {A : St} {w : World}
theorem Sim.other (h : Sim w0 φ A w) {g : Nat} (hno : ∀ c m, φ c = some m → m.block ≠ g) {w' : World} (hbel : Below w0.heap.size w0 w') (hoth : ∀ k, k ≠ g → w'.heap[k]? = w.heap[k]?) : Sim w0 φ A w' :=
  ⟨hbel, fun b B e => let ⟨h1, l, h2, h3⟩ := h.blk b B e; ⟨h1, l, h2, h3.mono (hoth _ (hno b l h2)) (Nat.le_refl _) (Ext.refl _ _)⟩, h.dead, h.inj⟩
theorem liesAt_at {e : TypeId} (hc : P.cellsOf e = 1) (count off n : Nat) (hn : off + n ≤ count) : liesAt P P.depth e count off e n = true := by
  have hd : P.depth = (2 * (P.types.size + Made.depth) + 1) + 1 := rfl
  rw [hd]
  simp only [liesAt, Bool.or_eq_true]
  left
  rw [hd]
  simp [rowAt, hc, hn, sameLayout, Nat.mod_one]
theorem run_loadBytesI : ∀ (l : List Int) (a : Addr) (acc : ByteArray), (∀ j x, l[j]? = some x → w.cell? (a.add j) = some (.int .u8 x)) →
    (loadBytes a acc l.length).run P w = .ok ⟨acc.data ++ (l.map fun n => UInt8.ofNat n.toNat).toArray⟩ w
  | [], a, acc, _ => by simp [loadBytes]
  | x :: l, a, acc, h => by
    have h0 : w.cell? a = some (.int .u8 x) := by
      have := h 0 x rfl
      simpa [Addr.add] using this
    have ih := run_loadBytesI l (a.add 1) (acc.push x.toNat.toUInt8) (fun j y hy => by
      have := h (j + 1) y (by simpa using hy)
      have e : (a.add 1).add j = a.add (j + 1) := by
        unfold Addr.add
        by_cases hj : j = 0
        · subst hj; simp
        · simp [hj]; omega
      rw [e]; exact this)
    simp only [List.length_cons, loadBytes, Sem.run_bind, run_load, h0, Result.andThen]
    rw [ih]
    congr 1
    apply ByteArray.ext
    simp [ByteArray.push]
theorem run_unsafeStr {pt it ty e : TypeId} (hp : P.underlying pt = some (.pointer e)) (hc : P.cellsOf e = 1) {g off cells : Nat} (hsh : w.shape? g = some (e, cells)) (l : List Int) (h0 : l.length ≠ 0) (hn : off + l.length ≤ cells) (h63 : l.length ≤ 9223372036854775807)
    (hcell : ∀ j x, l[j]? = some x → w.cell? ((⟨g, off, none⟩ : Addr).add j) = some (.int .u8 x)) :
    (Builtin.unsafeString_ #[pt, it] ty #[.pointer (some ⟨g, off, none⟩), .int .i64 l.length]).run P w = .ok (.string (strOfNums l)) (w.freeze ⟨g, off, none⟩ l.length) := by
  have hlb := run_loadBytesI (P := P) (w := w) l ⟨g, off, none⟩ .empty hcell
  have hlies := liesAt_at (P := P) hc (cells / P.cellsOf e) off l.length (by rw [hc]; simpa using hn)
  have h63' : ¬ (9223372036854775807 : Int) < (l.length : Int) := by omega
  have hdef : Builtin.unsafeString_ #[pt, it] ty #[.pointer (some ⟨g, off, none⟩), .int .i64 l.length] =
      (do
        let n ← asInt (.int .i64 l.length)
        if n < 0 then runtimePanic (.error "unsafe.String: len out of range")
        if n > IntKind.i64.max then unsupported (.unsafePointer "String: a length above the largest int")
        if n = 0 then pure (.string .empty)
        else if ← variablesAt ⟨g, off, none⟩ (← elemOf pt) n.toNat then do
          let s ← loadBytes ⟨g, off, none⟩ .empty n.toNat
          freeze ⟨g, off, none⟩ n.toNat
          pure (.string s)
        else unsupported (.unsafePointer "String: not so many bytes at ptr")) := rfl
  rw [hdef]
  have hmax : IntKind.i64.max = 9223372036854775807 := rfl
  have hneg : ¬ (l.length : Int) < 0 := by omega
  have he : (⟨(ByteArray.empty).data ++ (l.map fun n => UInt8.ofNat n.toNat).toArray⟩ : ByteArray) = strOfNums l := by apply ByteArray.ext; simp [strOfNums]
  rw [he] at hlb
  simp [asInt, asIntOf, hmax, h63', hneg, h0, variablesAt, hsh, elemOf, run_underlying hp, hlies, hlb]

theorem asliceData_sound (h : Sim w0 φ A w) {ts : Array TypeId} {ty : TypeId} {x cx v : Value} {A' : St} (e : asliceData A x = some (v, A')) (hx : VR φ A.next x cx) :
    ∃ v', (Builtin.unsafeSliceData_ ts ty #[cx]).run P w = .ok v' w ∧ VR φ A.next v v' ∧ A' = A := by
  unfold asliceData at e
  split at e
  · cases e
    rcases hx.slice_inv with ⟨_, _, _, rfl⟩ | ⟨b, off, sp, ca, ccap, e0, _⟩
    · exact ⟨.pointer none, rfl, .ptr0, rfl⟩
    · cases e0
  · rename_i b off sp len cap
    split at e
    · cases e
    · rename_i h0
      cases e
      rcases hx.slice_inv with ⟨e0, _⟩ | ⟨b', off', sp', ca, ccap, e0, rfl, hb, hle, hcc, hloc⟩
      · cases e0
      · cases e0
        refine ⟨.pointer (some ca), Lib.run_unsafeSliceData_row w _ _ _ _ _ (by omega), .ptr _ _ _ hb fun l hl => ?_, rfl⟩
        rcases hloc l hl with ⟨hk, _⟩ | ⟨_, hk⟩
        · exact hk
        · omega
  · cases e
theorem aunsafeStr_sound (h : Sim w0 φ A w) {pt it ty : TypeId} {p : Option Addr} {n : Int} {cp cn v : Value} {A' : St} (e : aunsafeStr P A pt p n = some (v, A')) (hp : VR φ A.next (.pointer p) cp) (hn : VR φ A.next (.int .i64 n) cn) :
    ∃ w' φ', (Builtin.unsafeString_ #[pt, it] ty #[cp, cn]).run P w = .ok v w' ∧ VR φ' A'.next v v ∧ Sim w0 φ' A' w' ∧ A.next ≤ A'.next ∧ Ext A.next φ φ' := by
  obtain rfl := hn.int_inv
  obtain ⟨q, rfl⟩ : ∃ q, cp = .pointer q := by cases hp <;> exact ⟨_, rfl⟩
  unfold aunsafeStr at e
  split at e
  · rename_i h0
    subst h0
    cases e
    exact ⟨w, φ, Lib.run_unsafeString_none w _ _ _ _, .string _, h, Nat.le_refl _, Ext.refl _ _⟩
  · rename_i h0
    split at e
    · cases e
    · rename_i hr
      split at e
      · rename_i b off sp el hpt
        split at e
        · rename_i cs e' k hg hsz
          split at e
          · rename_i hc
            obtain ⟨rfl, hle⟩ := hc
            simp only [Option.map_eq_some_iff, Prod.mk.injEq] at e
            obtain ⟨ns, hns, rfl, rfl⟩ := e
            obtain ⟨_, l, hl, C, fr, a1, a2, a3, a4, a5⟩ := h.blk b _ hg
            obtain ⟨ca, hq, _, _, hca⟩ := hp.ptr_inv
            cases hq
            obtain rfl := hca l hl
            have hl1 := intsOf_at hns
            have hlen : ns.length = n.toNat := by have := congrArg List.length hl1; simp at this; omega
            have hnn : n = (ns.length : Int) := by omega
            subst hnn
            obtain ⟨ti, hti, htj⟩ := tsz_info hsz
            have hkill := h.kill b
            have hrun := run_unsafeStr (P := P) (w := w) (pt := pt) (it := it) (ty := ty) hpt (show P.cellsOf e' = 1 by simp [Program.cellsOf, hti, htj]) (g := l.block) (off := l.base + off) (cells := C.size) (by simp [World.shape?, a1]) ns (by omega) (by omega) (by omega) (fun j x hj => by
              have hjl : j < ns.length := (List.getElem?_eq_some_iff.1 hj).1
              have hci : cs[off + j]? = some (.int .u8 x) := by
                have := congrArg (fun l => l[j]?) hl1
                simp only [List.getElem?_take, List.getElem?_drop, List.getElem?_map, hj] at this
                rw [if_pos (by omega)] at this
                exact this
              obtain ⟨l', v', hl', hv1, hv2⟩ := h.cell hg hci
              rw [hl] at hl'; cases hl'
              rw [Addr.add_lit, show l.base + off + j = l.base + (off + j) by omega, hv1, hv2.int_inv])
            refine ⟨_, _, hrun, .string _, ?_, Nat.le_refl _, hkill.2⟩
            refine hkill.1.other (g := l.block) (fun c m hc hm => ?_) (Lib.below_freeze h.below (a5 k rfl).1.1 _) (fun j hj => ?_)
            · by_cases hcb : c = b
              · simp [hcb] at hc
              · simp only [if_neg hcb] at hc
                have := h.inj b c l m (by omega) hl hc hm.symm
                rw [hg] at this; exact this
            · unfold World.freeze
              split
              · rfl
              · simp only [Array.getElem?_modify]; rw [if_neg (by omega)]
          · cases e
        · cases e
      · cases e

theorem asame_sound (h : Sim w0 φ A w) {op : BinOp} {t : TypeId} {xo yo : Operand} {p q : Addr} {cx cy v : Value} (e : asame P A op t p q = some v) (hx : VR φ A.next (.pointer (some p)) cx) (hy : VR φ A.next (.pointer (some q)) cy) :
    (do eqGuard op t xo yo cx cy; binOp op t cx cy).run P w = .ok v w ∧ VR φ A.next v v := by
  unfold asame at e
  split at e
  · rename_i te B ht hB
    split at e
    · rename_i hc
      obtain ⟨rfl, hi⟩ := hc
      obtain ⟨b, off, sp⟩ := p
      obtain ⟨_, l, hl, _⟩ := h.blk b B hB
      obtain ⟨ca, rfl, _, _, h1⟩ := hx.ptr_inv
      obtain ⟨cb, rfl, _, _, h2⟩ := hy.ptr_inv
      obtain rfl := h1 l hl
      obtain rfl := h2 l hl
      obtain ⟨ti, hti⟩ := Option.isSome_iff_exists.1 hi
      rw [eqGuard_at_pointer]
      simp only [pure_bind]
      have heq : ∀ d : Nat, (Op.equalIn (d + 1) t (.pointer (some ⟨l.block, l.base + off, none⟩)) (.pointer (some ⟨l.block, l.base + off, none⟩))).run P w = .ok true w := fun d => by
        simp [Op.equalIn, run_underlying ht, sizeOf, typeInfo, hti, run_sameAddr_same]
      split at e
      · cases e
        exact ⟨eql_run rfl (equal_run (heq 9999)), .bool _⟩
      · cases e
        exact ⟨neq_run rfl (equal_run (heq 9999)), .bool _⟩
      · cases e
    · cases e
  · cases e
theorem abinA_sound (h : Sim w0 φ A w) {op : BinOp} {t : TypeId} {xo yo xo' yo' : Operand} {x y cx cy v : Value} (hc : isC xo = isC xo') (hc' : isC yo = isC yo') (e : abinA P A op t xo yo x y = some v) (hx : VR φ A.next x cx) (hy : VR φ A.next y cy) :
    (do eqGuard op t xo' yo' cx cy; binOp op t cx cy).run P w = .ok v w ∧ VR φ A.next v v := by
  unfold abinA at e
  split at e
  · exact asame_sound h e hx hy
  · exact abin_sound hc hc' e hx hy
end
end Go.Fw
