import Derived.Test.YtofhiplcpmhlcaaFw10
/-! copy, conversions; all operations together. -/
set_option linter.unusedSimpArgs false
set_option linter.unusedVariables false
namespace Go.Fw
open Go.RowKit

def acopy (P : Program) (A : St) (dT : TypeId) (d x : Value) : Option (Value × St) :=
  match telem P dT with
  | none => none
  | some e =>
    match tsz P e with
    | none => none
    | some sz =>
      match srcCells A sz x, d with
      | some (n, new), .slice base len _ =>
        if Nat.min n len = 0 then some (.int .i64 0, A) else
        match base with
        | none => none
        | some ⟨b, off, _⟩ =>
          match A.get b with
          | some (.cells cs e' (some m)) =>
            if m ≤ off ∧ off + Nat.min n len * sz ≤ cs.length ∧ (new.take (Nat.min n len * sz)).all cell1 = true then some (.int .i64 (Nat.min n len : Nat), A.upd b (some (.cells (setList cs off (new.take (Nat.min n len * sz))) e' (some m)))) else none
          | _ => none
      | _, _ => none

def aconv (P : Program) (A : St) (src dst : TypeId) (x : Value) : Option (Value × St) :=
  match P.underlying src, P.underlying dst, x with
  | some _, some (.int k), .int _ i => some (.int k (k.wrap i), A)
  | some _, some .string, .string s => some (.string s, A)
  | some _, some (.slice e), .string s =>
    match P.underlying e with
    | some (.int .u8) => some (.slice (some ⟨A.next, 0, some 1⟩) s.size s.size, A.alloc (.cells (s.data.toList.map fun b => .int .u8 b.toNat) e (some 0)))
    | _ => none
  | some (.slice e), some .string, .slice a len _ =>
    match P.underlying e with
    | some (.int .u8) =>
      match a with
      | none => some (.string .empty, A)
      | some ⟨b, off, _⟩ =>
        if len = 0 then some (.string .empty, A) else
        match A.get b with
        | some (.cells cs _ _) => if off + len ≤ cs.length then (intsOf .u8 ((cs.drop off).take len)).map fun ns => (.string (strOfNums ns), A) else none
        | _ => none
    | _ => none
  | _, _, _ => none

section
variable {P : Program} {w0 : World} {φ : Nat → Option Loc} {A : St} {w : World}

theorem acopy_sound (h : Sim w0 φ A w) {dT xT ty : TypeId} {d x cd cx v : Value} {A' : St} (e : acopy P A dT d x = some (v, A')) (hd : VR φ A.next d cd) (hx : VR φ A.next x cx) :
    ∃ v' w' φ', (Builtin.copy_ #[dT, xT] ty #[cd, cx]).run P w = .ok v' w' ∧ VR φ' A'.next v v' ∧ Sim w0 φ' A' w' ∧ A.next ≤ A'.next ∧ Ext A.next φ φ' := by
  unfold acopy at e
  split at e
  · cases e
  · rename_i el hel
    split at e
    · cases e
    · rename_i sz hsz
      split at e
      · rename_i n new base len cap hsrc
        obtain ⟨hlen, hnl, _, hsrcs⟩ := srcCells_sound (P := P) h hsrc hx
        obtain ⟨ds, hds, hdc⟩ := hsrcs (Nat.min n len) (Nat.min_le_left _ _)
        have hrun : ∀ base' ccap, (Builtin.copy_ #[dT, xT] ty #[.slice base' len ccap, cx]).run P w =
            ((match base' with | some a => storeCells a ds.toList | none => pure () : Sem Unit).run P w).andThen fun _ w' => .ok (goInt ((Nat.min n len : Nat) : Int)) w' := by
          intro base' ccap
          unfold Builtin.copy_
          simp only [List.getElem?_toArray, List.getElem?_cons_zero, List.getElem?_cons_succ, Sem.run_bind, run_und (telem_und hel), Result.andThen_ok, run_tsz hsz, hlen, hds, Sem.run_pure]
          cases base' with
          | none => rfl
          | some a => simp only [Sem.run_bind, Sem.run_pure]
        split at e
        · rename_i hk0
          simp only [Option.some.injEq, Prod.mk.injEq] at e
          obtain ⟨rfl, rfl⟩ := e
          have hds0 : ds = #[] := by
            have := hdc.1
            rw [hk0] at this
            simp at this
            exact Array.eq_empty_of_size_eq_zero (by omega)
          subst hds0
          refine ⟨.int .i64 0, w, φ, ?_, .int _ _, h, Nat.le_refl _, Ext.refl _ _⟩
          rcases hd.slice_inv with ⟨rfl, rfl, rfl, rfl⟩ | ⟨b, off, sp, ca, ccap, rfl, rfl, _⟩
          · rw [hrun, hk0]; rfl
          · rw [hrun, hk0]; rfl
        · rename_i hk0
          split at e
          · cases e
          · rename_i b off sp
            rcases hd.slice_inv with ⟨e0, _⟩ | ⟨b', off', sp', ca, ccap, e0, rfl, hb, hle, hcc, hloc⟩
            · cases e0
            · cases e0
              split at e
              · rename_i bcs e' m hg
                split at e
                · rename_i hc
                  obtain ⟨c1, c2, c3⟩ := hc
                  simp only [Option.some.injEq, Prod.mk.injEq] at e
                  obtain ⟨rfl, rfl⟩ := e
                  obtain ⟨_, l, hl, _⟩ := h.blk b _ hg
                  have hkn : Nat.min n len ≤ n := Nat.min_le_left _ _
                  have hmul : Nat.min n len * sz ≤ n * sz := Nat.mul_le_mul_right _ hkn
                  have htl : (new.take (Nat.min n len * sz)).length = Nat.min n len * sz := by rw [List.length_take]; omega
                  have hdl : ds.size = Nat.min n len * sz := by have := hdc.1; simp only [List.size_toArray] at this; omega
                  rcases hloc l hl with ⟨rfl, hcap⟩ | ⟨c4, _⟩
                  · obtain ⟨w', hr, hs'⟩ := Sim.store (P := P) hl off (new.take (Nat.min n len * sz)) ds.toList 0 A w bcs h hg (by rw [htl]; simp [hdl]) (fun j v v' a b => ⟨hdc.2 j v v' (by simpa using a) (by simpa using b), by
                      rw [List.all_eq_true] at c3; exact c3 v (List.mem_of_getElem? a)⟩) (by omega) (by omega)
                    refine ⟨_, w', φ, ?_, .int _ _, hs', Nat.le_refl _, Ext.refl _ _⟩
                    rw [hrun]
                    show ((storeCells ⟨l.block, l.base + off, none⟩ ds.toList).run P w).andThen _ = _
                    rw [hr]; rfl
                  · have : len = 0 := by omega
                    subst this
                    exact absurd (Nat.min_zero n) hk0
                · cases e
              · cases e
      · cases e

theorem aconv_sound (h : Sim w0 φ A w) {src dst : TypeId} {x cx v : Value} {A' : St} (e : aconv P A src dst x = some (v, A')) (hx : VR φ A.next x cx) :
    ∃ v' w' φ', (convert src dst cx).run P w = .ok v' w' ∧ VR φ' A'.next v v' ∧ Sim w0 φ' A' w' ∧ A.next ≤ A'.next ∧ Ext A.next φ φ' := by
  unfold aconv at e
  split at e
  · rename_i ds k k' i hs hd
    obtain rfl := hx.int_inv
    simp only [Option.some.injEq, Prod.mk.injEq] at e
    obtain ⟨rfl, rfl⟩ := e
    refine ⟨_, w, φ, ?_, .int _ _, h, Nat.le_refl _, Ext.refl _ _⟩
    simp only [convert, Sem.run_bind, run_und hs, run_und hd, Result.andThen_ok]
    cases ds <;> rfl
  · rename_i ds s hs hd
    obtain rfl := hx.string_inv
    simp only [Option.some.injEq, Prod.mk.injEq] at e
    obtain ⟨rfl, rfl⟩ := e
    refine ⟨_, w, φ, ?_, .string _, h, Nat.le_refl _, Ext.refl _ _⟩
    simp only [convert, Sem.run_bind, run_und hs, run_und hd, Result.andThen_ok]
    cases ds <;> rfl
  · rename_i ds el s hs hd
    obtain rfl := hx.string_inv
    split at e
    · rename_i he
      simp only [Option.some.injEq, Prod.mk.injEq] at e
      obtain ⟨rfl, rfl⟩ := e
      obtain ⟨ncap, hnc, hq⟩ : ∃ ncap, s.size ≤ ncap ∧ Question.cut (.appendCap s.size 0 el) (w.tape w.drawn (.appendCap s.size 0 el)) = ncap := ⟨_, by simp [Question.cut], rfl⟩
      obtain ⟨C, hC⟩ : ∃ C : Array Value, C = s.data.map (fun b => Value.int .u8 b.toNat) ++ Array.replicate (ncap - s.size) (.int .u8 0) := ⟨_, rfl⟩
      have hCs : C.size = ncap := by
        have : s.data.size = s.size := rfl
        rw [hC, Array.size_append, Array.size_map, Array.size_replicate, this]; omega
      obtain ⟨φ', hs', he', hφ'⟩ := h.drew.newRow (s.data.toList.map fun b => Value.int .u8 b.toNat) C el (C.size, C.size + 1) (by
          have : s.data.toList.length = s.size := by rw [Array.length_toList]; rfl
          rw [List.length_map, this, hCs]; exact hnc) (fun i v hi => by
        refine ⟨v, ?_, ?_⟩
        · rw [hC]
          have hlt : i < (s.data.map (fun b => Value.int .u8 b.toNat)).size := by
            have := (List.getElem?_eq_some_iff.1 hi).1
            rw [List.length_map, Array.length_toList] at this
            rw [Array.size_map]; exact this
          rw [Array.getElem?_append, if_pos hlt, ← Array.getElem?_toList, Array.toList_map]; exact hi
        · rw [List.getElem?_map, Option.map_eq_some_iff] at hi
          obtain ⟨y, _, rfl⟩ := hi
          exact .int _ _) (fun i hi hx => by simp only at hx; omega)
      refine ⟨.slice (some ⟨w.heap.size, 0, none⟩) s.size ncap, _, φ', ?_, ?_, hs', by simp, he'⟩
      · have hconv : (convert src dst (.string s)).run P w = (Conv.stringToBytes el s).run P w := by
          simp only [convert, Sem.run_bind, run_und hs, run_und hd, Result.andThen_ok]
          cases ds <;> simp only [Sem.run_bind, run_und he, Result.andThen_ok]
        rw [hconv]
        have hsh : (w.drew.alloc (.cells C el)).shape? w.heap.size = some (el, C.size) := by
          have := heap_alloc_new w.drew (.cells C el)
          rw [World.size_drew] at this
          simp only [World.shape?, this]
        have hfz : (w.drew.alloc (.cells C el)).freeze { block := w.heap.size, off := C.size } 1 = w.drew.alloc (.cells C el (C.size, C.size + 1)) := by
          have e1 : (w.drew.alloc (.cells C el)).heap.modify w.heap.size (fun
            | .cells c elem (lo, hi) => .cells c elem (if lo == hi then (C.size, C.size + 1) else (min lo C.size, max hi (C.size + 1)))
            | o => o) = (w.drew.alloc (.cells C el (C.size, C.size + 1))).heap := by
            show (w.heap.push (.cells C el)).modify w.heap.size _ = w.heap.push (.cells C el (C.size, C.size + 1))
            apply Array.ext
            · simp
            · intro i h1 h2
              rw [Array.getElem_modify]
              by_cases hi : w.heap.size = i
              · subst hi; simp
              · have : i < w.heap.size := by simp at h1; omega
                rw [if_neg hi, Array.getElem_push_lt this, Array.getElem_push_lt this]
          unfold World.freeze
          rw [if_neg (by decide)]
          exact congrArg (fun hp => { w.drew.alloc (.cells C el) with heap := hp }) e1
        simp only [Conv.stringToBytes, Sem.run_bind, run_choose_drew, Question.forced, Bool.false_eq_true, if_false, hq, Result.andThen_ok, newRow, run_newObj, World.alloc_eq, World.size_drew, Sem.run_pure, pure_bind, ← hC, markStringish, run_shape, hsh, run_freeze, hfz]
      · refine .slice _ _ _ _ _ _ _ (by simp) (Nat.le_refl _) hnc fun l hl => ?_
        rw [hφ'] at hl; cases hl
        left
        refine ⟨by simp, ?_⟩
        simp only [capOk, hCs]; omega
    · cases e
  · rename_i el a len cap hs hd
    split at e
    · rename_i he
      have hnil : ∀ l c, (convert src dst (.slice none l c)).run P w = .ok (.string .empty) w := fun l c => run_convert_bytes_nil w src el hs he l c dst hd
      split at e
      · simp only [Option.some.injEq, Prod.mk.injEq] at e
        obtain ⟨rfl, rfl⟩ := e
        rcases hx.slice_inv with ⟨_, rfl, rfl, rfl⟩ | ⟨b, off, sp, ca, ccap, e0, _⟩
        · exact ⟨_, w, φ, hnil 0 0, .string _, h, Nat.le_refl _, Ext.refl _ _⟩
        · cases e0
      · rename_i b off sp
        rcases hx.slice_inv with ⟨e0, _⟩ | ⟨b', off', sp', ca, ccap, e0, rfl, hb, hle, hcc, hloc⟩
        · cases e0
        · cases e0
          split at e
          · rename_i h0
            subst h0
            simp only [Option.some.injEq, Prod.mk.injEq] at e
            obtain ⟨rfl, rfl⟩ := e
            refine ⟨.string .empty, w, φ, ?_, .string _, h, Nat.le_refl _, Ext.refl _ _⟩
            obtain ⟨cb, co, csp⟩ := ca
            simp only [convert, Sem.run_bind, run_und hs, run_und hd, Result.andThen_ok, run_und he, Conv.bytesToString, loadCells, loadCellsFrom, Sem.run_pure]
            simp
          · rename_i h0
            split at e
            · rename_i cs e1 m hg
              split at e
              · rename_i hc
                simp only [Option.map_eq_some_iff, Prod.mk.injEq] at e
                obtain ⟨ns, hns, rfl, rfl⟩ := e
                obtain ⟨_, l, hl, _⟩ := h.blk b _ hg
                have hl1 := intsOf_at hns
                have hlen : ns.length = len := by have := congrArg List.length hl1; simp at this; omega
                rcases hloc l hl with ⟨rfl, _⟩ | ⟨c1, _⟩
                · refine ⟨_, w, φ, run_convert_bytes_arg w src el hs he l.block (l.base + off) len ccap ns hlen (fun i hi => ?_) dst hd, .string _, h, Nat.le_refl _, Ext.refl _ _⟩
                  have hci : cs[off + i]? = some (.int .u8 (ns.getD i 0)) := by
                    have := congrArg (fun l => l[i]?) hl1
                    simp only [List.getElem?_take, if_pos hi, List.getElem?_drop, List.getElem?_map] at this
                    rw [this, List.getElem?_eq_getElem (by omega), List.getD_eq_getElem?_getD, List.getElem?_eq_getElem (by omega)]; rfl
                  obtain ⟨l', v', hl', hv1, hv2⟩ := h.cell hg hci
                  rw [hl] at hl'; cases hl'
                  rw [show l.base + off + i = l.base + (off + i) by omega, hv1, hv2.int_inv]
                · omega
              · cases e
            · cases e
    · cases e
  · cases e
end
end Go.Fw
