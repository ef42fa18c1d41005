import Derived.Test.YtphfkbagjpcmpaaFw19
/-! Rounds and ranges over functions in the walk's form; appending to rows of bytes. -/
set_option linter.unusedSimpArgs false
set_option linter.unusedVariables false
namespace Go.Fw
open Go.RowKit
section
variable {P : Program} {w0 : World} {n0 n : Nat} {ρ : Nat → Value} {ds : List Deferred} {A : St}

/-- The end of a round's assignments. -/
def asgQ (P : Program) (w0 : World) (n0 l : Nat) (body : Code) (R : Ending → St → Prop) (e : Exit) (a1 : Act) (A1 : St) : Prop :=
  e = .normal ∧ ∃ pe1 tm1 ps1 asg1 body1, A1.get l = some (.loop .ready pe1 tm1 ps1 asg1 body1) ∧ AW P w0 n0 false body (roundQ l R) a1 (A1.upd l (some (.loop .busy pe1 tm1 ps1 asg1 body1)))
theorem asgQ_of {l : Nat} {body : Code} {R : Ending → St → Prop} {a1 : Act} {A1 : St} {pe : Option Code} {tm1 : Array Value} {ps : Array Tmp} {asg1 body1 : Code} (hl : A1.get l = some (.loop .ready pe tm1 ps asg1 body1))
    (h : AW P w0 n0 false body (roundQ l R) a1 (A1.upd l (some (.loop .busy pe tm1 ps asg1 body1)))) : asgQ P w0 n0 l body R .normal a1 A1 := ⟨rfl, _, _, _, _, _, hl, h⟩
theorem ayield_E {l : Nat} {args : Array Value} {R : Ending → St → Prop} {pe : Option Code} {ps : Array Tmp} {asg body : Code} (ρ' : Nat → Value) (hl : A.get l = some (.loop .ready pe (tm n ρ) ps asg body)) (hsz : args.size = ps.size) (hs : setArgs (tm n ρ) ps args = tm n ρ')
    (h : wpA P w0 A.next false asg (asgQ P w0 A.next l body R) (E n ρ' []) A) : AYield P w0 l args A R :=
  ayield hl hsz (by rw [hs]; exact aw_of h)
theorem roundQ_normal {l : Nat} {R : Ending → St → Prop} {a : Act} {pe : Option Code} {tm1 : Array Value} {ps : Array Tmp} {asg body : Code} (hl : A.get l = some (.loop .busy pe tm1 ps asg body)) (h : R (.returned (.bool true)) (A.upd l (some (.loop .ready none tm1 ps asg body)))) : roundQ l R .normal a A := ⟨_, _, _, _, _, hl, h⟩
theorem roundQ_ret {l : Nat} {R : Ending → St → Prop} {a : Act} {pe : Option Code} {tm1 : Array Value} {ps : Array Tmp} {asg body : Code} (hl : A.get l = some (.loop .busy pe tm1 ps asg body)) (h : R (.returned (.bool false)) (A.upd l (some (.loop .done (some .ret) tm1 ps asg body)))) : roundQ l R .ret a A := ⟨_, _, _, _, _, hl, h⟩
theorem roundQ_exit {l i : Nat} {R : Ending → St → Prop} {a : Act} {pe : Option Code} {tm1 : Array Value} {ps : Array Tmp} {asg body : Code} (hl : A.get l = some (.loop .busy pe tm1 ps asg body)) (h : R (.returned (.bool false)) (A.upd l (some (.loop .done (some (.exit i)) tm1 ps asg body)))) : roundQ l R (.exit i) a A := ⟨_, _, _, _, _, hl, h⟩

/-- The end of a call that is ranged over. -/
def rfQ (P : Program) (w0 : World) (n0 : Nat) (Q : Exit → Act → St → Prop) (a : Act) (D : Nat) (e : Ending) (A2 : St) : Prop :=
  ∃ v, e = .returned v ∧ ∃ st pe tm ps' asg' body', A2.get (D + 1) = some (.loop st pe tm ps' asg' body') ∧ st ≠ .busy ∧
    match pe with
    | none => Q .normal { a with defers := ⟨.collected D, #[]⟩ :: a.defers } (A2.upd (D + 1) (some (.loop .exhausted none tm ps' asg' body')))
    | some c => AW P w0 n0 true c Q { a with defers := ⟨.collected D, #[]⟩ :: a.defers } (A2.upd (D + 1) (some (.loop .exhausted (some c) tm ps' asg' body')))
theorem aw_rangeFunc_E {Q : Exit → Act → St → Prop} {g : Operand} {ps : Array Tmp} {asg body : Code} {gf : Nat} {fs cs : Array Value} (hg : (E n ρ ds).eval g = .func (.func gf) fs cs) (hgo : okO g = true)
    (h : ACalls P w0 gf (fs ++ #[.func (.yield (A.next + 1)) #[] #[]] ++ cs) ((A.alloc (.dfr false)).alloc (.loop .ready none (tm n ρ) ps asg body)) (rfQ P w0 n0 Q (E n ρ ds) A.next)) : AW P w0 n0 true (.rangeFunc g ps asg body) Q (E n ρ ds) A :=
  aw_rangeFunc hg hgo h
theorem rfQ_normal {Q : Exit → Act → St → Prop} {D : Nat} {v : Value} {st : LoopState} {tm1 : Array Value} {ps : Array Tmp} {asg body : Code} {A2 : St} (hl : A2.get (D + 1) = some (.loop st none tm1 ps asg body)) (hst : st ≠ .busy)
    (h : Q .normal (E n ρ (⟨.collected D, #[]⟩ :: ds)) (A2.upd (D + 1) (some (.loop .exhausted none tm1 ps asg body)))) : rfQ P w0 n0 Q (E n ρ ds) D (.returned v) A2 := ⟨v, rfl, _, _, _, _, _, _, hl, hst, h⟩
theorem rfQ_jump {Q : Exit → Act → St → Prop} {D : Nat} {v : Value} {st : LoopState} {tm1 : Array Value} {ps : Array Tmp} {asg body c : Code} {A2 : St} (hl : A2.get (D + 1) = some (.loop st (some c) tm1 ps asg body)) (hst : st ≠ .busy)
    (h : wpA P w0 n0 true c Q (E n ρ (⟨.collected D, #[]⟩ :: ds)) (A2.upd (D + 1) (some (.loop .exhausted (some c) tm1 ps asg body)))) : rfQ P w0 n0 Q (E n ρ ds) D (.returned v) A2 := ⟨v, rfl, _, _, _, _, _, _, hl, hst, aw_of h⟩

theorem gen_loop {f : Nat} {args : Array Value} {ps : Array Tmp} {asg body : Code} {R : Ending → St → Prop} (h : ∀ ρ' asg' body', ρ' = ρ → asg' = asg → body' = body → ACalls P w0 f args (A.alloc (.loop .ready none (tm n ρ') ps asg' body')) R) : ACalls P w0 f args (A.alloc (.loop .ready none (tm n ρ) ps asg body)) R := h _ _ _ rfl rfl rfl
theorem get_alloc_old {b : Nat} {B : Blk} (h : b < A.next) : (A.alloc B).get b = A.get b := by rw [St.get_alloc, if_neg (by omega)]
theorem get_alloc_new {b : Nat} {B : Blk} (h : b = A.next) : (A.alloc B).get b = some B := by rw [St.get_alloc, if_pos h]
theorem get_upd_old {b c : Nat} {B : Option Blk} (h : b ≠ c) : (A.upd c B).get b = A.get b := by rw [St.get_upd, if_neg h]
theorem natF_lt {a b : Nat} (h : a < b) : (a = b) = False := eq_false (by omega)
theorem natF_gt {a b : Nat} (h : b < a) : (a = b) = False := eq_false (by omega)

theorem dec_not (p : Prop) [Decidable p] : (!decide p) = decide (¬ p) := by simp
theorem mk_E : (Act.mk (tm n ρ) ds) = E n ρ ds := Eq.trans rfl rfl
/-! Rows. -/
theorem srcCells_slice {sz b off m c : Nat} {sp : Option Nat} {cs : List Value} {e : TypeId} {md : Option Nat} (hm : m ≠ 0) (hb : A.get b = some (.cells cs e md)) (hl : off + m * sz ≤ cs.length) : srcCells A sz (.slice (some ⟨b, off, sp⟩) m c) = some (m, (cs.drop off).take (m * sz)) := by
  simp [srcCells, hm, hb, hl]
theorem srcCells_string (s : ByteArray) : srcCells A 1 (.string s) = some (s.size, bcells s) := rfl
theorem append_nil {sT xT e bs : Nat} {z x : Value} {m sz : Nat} {new : List Value} {ux : TypeDesc} (hel : telem P sT = some e) (hx : P.underlying xT = some ux) (hux : ∀ k, ux ≠ .int k) (hsz : tsz P e = some sz) (hb : tbytes P e = some bs) (hz : tzero P e = some z) (hzc : z.cells.size = sz) (hs0 : sz ≠ 0)
    (hsrc : srcCells A sz x = some (m, new)) (hm : 0 < m) (hlen : m * bs ≤ 140737488355328) (hcap : m ≤ 9223372036854775807) : aappend P A sT xT (.slice none 0 0) x = some (.slice (some ⟨A.next, 0, some sz⟩) m m, A.alloc (.cells new e (some 0))) := by
  have h1 : ¬ m ≤ 0 := by omega
  have h2 : ¬ (sz = 0 ∨ z.cells.size ≠ sz) := by omega
  unfold aappend
  cases ux with
  | int k => exact absurd rfl (hux k)
  | _ => simp only [hel, hx, hsz, hb, hz, hsrc, if_neg h2, Nat.zero_add, h1, if_false, hlen, hcap, and_self, if_true]
theorem append_own {sT xT e bs : Nat} {z x : Value} {m sz b len : Nat} {cs new : List Value} {ux : TypeDesc} (hel : telem P sT = some e) (hx : P.underlying xT = some ux) (hux : ∀ k, ux ≠ .int k) (hsz : tsz P e = some (sz + 1)) (hb : tbytes P e = some bs) (hz : tzero P e = some z) (hzc : z.cells.size = sz + 1)
    (hsrc : srcCells A (sz + 1) x = some (m, new)) (hm : 0 < m) (hlen : (len + m) * bs ≤ 140737488355328) (hcap : len + m ≤ 9223372036854775807) (hA : A.get b = some (.cells cs e (some 0))) (hcs : len * (sz + 1) ≤ cs.length) (hnew : new.all cell1 = true) :
    aappend P A sT xT (.slice (some ⟨b, 0, some (sz + 1)⟩) len len) x = some (.slice (some ⟨A.next, 0, some (sz + 1)⟩) (len + m) (len + m), (A.upd b none).alloc (.cells (cs.take (len * (sz + 1)) ++ new) e (some 0))) := by
  have h1 : ¬ len + m ≤ len := by omega
  have h2 : ¬ (sz + 1 = 0 ∨ z.cells.size ≠ sz + 1) := by omega
  unfold aappend
  cases ux with
  | int k => exact absurd rfl (hux k)
  | _ => simp only [hel, hx, hsz, hb, hz, hsrc, if_neg h2, h1, if_false, hlen, hcap, hA, hcs, hnew, and_self, if_true, Nat.zero_add, Nat.zero_le, List.drop_zero, Nat.sub_zero]
/-- A row of one. -/
theorem buildSlice_one {t e : Nat} {z v : Value} (hel : telem P t = some e) (hsz : tsz P e = some 1) (hz : tzero P e = some z) (hzc : z.cells.size = 1) (hv : v.cells = #[v]) : abuildSlice P A t 1 #[(0, v)] = some (.slice (some ⟨A.next, 0, none⟩) 1 1, A.alloc (.cells [v] e (some 0))) := by
  unfold abuildSlice
  simp only [hel, hsz, hz]
  rw [if_pos ⟨by omega, by omega⟩]
  simp only [afill, zeros, Nat.one_mul, List.length_map, List.length_range, hv]
  simp [setList]
theorem cell1_int (k : IntKind) (i : Int) : cell1 (.int k i) = true := rfl
theorem all_cell1_ints (l : List Int) (k : IntKind) : (l.map (Value.int k ·)).all cell1 = true := by simp [cell1_int]
end

/-- A law over plain values: its walk ends in true. -/
theorem law_calls {P : Program} {f : Nat} {l : List Value} {w : World} (h : ∀ A : St, ACalls P w f l.toArray A (fin (.bool true) A)) (hl : l.all plainV = true) : Calls P f l.toArray w fun e w' => e = .returned (.bool true) ∧ Below w.heap.size w w' := by
  refine calls_of_law ((h St.empty).mono fun e A' h => h.1) ⟨rfl, fun i v v' h1 h2 => ?_⟩
  rw [h1] at h2
  cases h2
  refine VR.plain ?_
  rw [List.all_eq_true] at hl
  exact hl v (List.mem_of_getElem? (by simpa using h1))
end Go.Fw
