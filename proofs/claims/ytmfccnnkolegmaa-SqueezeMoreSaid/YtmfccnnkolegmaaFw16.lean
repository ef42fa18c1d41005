import Derived.Test.YtmfccnnkolegmaaFw9
import Derived.Laws.NewFold
import Derived.MapKept
import Derived.Lib.UnsafeStr
import Derived.Lib.Builder
import Derived.RangeFuncRecord
/-! That the machine's append, copy and conversions do what is told. -/
set_option linter.unusedSimpArgs false
set_option linter.unusedVariables false
namespace Go.Fw
open Go.RowKit

section
variable {P : Program} {w0 : World} {φ : Nat → Option Loc} {A : St} {w : World}

theorem run_append_fits {sT xT ty e : TypeId} {d : TypeDesc} {sz n : Nat} {base : Option Addr} {len cap : Nat} {x : Value} {ds : Array Value} (hs : P.underlying sT = some (.slice e)) (hd : P.underlying xT = some d) (hd' : ∀ k, d ≠ .int k) (hz : tsz P e = some sz)
    (hn : (Builtin.lenOf x).run P w = .ok n w) (hf : (Builtin.firstCells sz n x).run P w = .ok ds w) (hfit : len + n ≤ cap) :
    (Builtin.append_ #[sT, xT] ty #[.slice base len cap, x]).run P w =
      ((match base with | some a => storeCells (a.add (len * sz)) ds.toList | none => pure () : Sem Unit).run P w).andThen fun _ w' => .ok (.slice base (len + n) cap) w' := by
  have hm : (do pure ((← underlying xT) matches .int _) : Sem Bool).run P w = .ok false w := by
    cases d <;> first | (exact absurd rfl (hd' _)) | (simp only [Sem.run_bind, run_und hd, Result.andThen_ok, Sem.run_pure])
  simp only [Sem.run_bind, run_und hd, Result.andThen_ok, Sem.run_pure] at hm
  unfold Builtin.append_
  simp only [List.getElem?_toArray, List.getElem?_cons_zero, List.getElem?_cons_succ, Sem.run_bind, run_und hs, Result.andThen_ok, run_tsz hz, run_und hd, hm, Sem.run_pure, Bool.false_eq_true, if_false, hn, hfit, if_true, Bool.not_false, hf]
  cases base with
  | none => rfl
  | some a => simp only [Sem.run_bind, Sem.run_pure]

theorem run_append_grows {sT xT ty e : TypeId} {d : TypeDesc} {sz n bs : Nat} {z : Value} {base : Option Addr} {len cap : Nat} {x : Value} {ds os : Array Value} (hs : P.underlying sT = some (.slice e)) (hd : P.underlying xT = some d) (hd' : ∀ k, d ≠ .int k) (hz : tsz P e = some sz)
    (hb : tbytes P e = some bs) (hzz : tzero P e = some z) (hn : (Builtin.lenOf x).run P w = .ok n w) (hf : (Builtin.firstCells sz n x).run P w.drew = .ok ds w.drew) (ho : (Builtin.firstCells sz len (.slice base len cap)).run P w.drew = .ok os w.drew)
    (hg : cap < len + n) (hB : (len + n) * bs ≤ 140737488355328) (hM : len + n ≤ 9223372036854775807) :
    ∃ ncap, len + n ≤ ncap ∧ (Builtin.append_ #[sT, xT] ty #[.slice base len cap, x]).run P w =
      .ok (.slice (some ⟨w.heap.size, 0, none⟩) (len + n) ncap) (w.drew.alloc (.cells (os ++ ds ++ Builtin.zeroCells z.cells (ncap - (len + n))) e)) := by
  have hm : (do pure ((← underlying xT) matches .int _) : Sem Bool).run P w = .ok false w := by
    cases d <;> first | (exact absurd rfl (hd' _)) | (simp only [Sem.run_bind, run_und hd, Result.andThen_ok, Sem.run_pure])
  simp only [Sem.run_bind, run_und hd, Result.andThen_ok, Sem.run_pure] at hm
  have hbi : ∀ w', ∃ i, (typeInfo e).run P w' = .ok i w' ∧ i.bytes = bs := fun w' => run_tinfo hb
  obtain ⟨ti, hti, htb⟩ := hbi w
  obtain ⟨ti', hti', htb'⟩ := hbi w.drew
  have hzz' := run_tzero (P := P) (w := w.drew) hzz
  refine ⟨Question.cut (.appendCap (len + n) cap e) (w.tape w.drawn (.appendCap (len + n) cap e)), by simp [Question.cut], ?_⟩
  unfold Builtin.append_
  have hMx : ¬ (((len + n : Nat) : Int) > IntKind.i64.max) := by
    have : IntKind.i64.max = 9223372036854775807 := by decide
    rw [this]; omega
  have hnx : ¬ (Builtin.nextslicecap (len + n) cap * bs > 2 ^ 48) := by
    have h1 := nextslicecap_le hg
    have h2 : Builtin.nextslicecap (len + n) cap * bs ≤ 2 * (len + n) * bs := Nat.mul_le_mul_right _ h1
    have h3 : 2 * (len + n) * bs = 2 * ((len + n) * bs) := by rw [Nat.mul_assoc]
    omega
  simp only [List.getElem?_toArray, List.getElem?_cons_zero, List.getElem?_cons_succ, Sem.run_bind, run_und hs, Result.andThen_ok, run_tsz hz, run_und hd, hm, Sem.run_pure, Bool.false_eq_true, if_false, hn, if_neg (show ¬ (len + n ≤ cap) by omega), Bool.not_false, if_true,
    hti, htb, hti', htb', hMx, false_and, if_false, hnx, Sem.run_ite, pure_bind, run_choose_drew, Question.forced, Bool.false_eq_true, run_askRoom, ho, hf, hzz'.1, newRow, run_newObj, World.alloc_eq, World.size_drew]

theorem zeroCells_size (z : Array Value) (k : Nat) : (Builtin.zeroCells z k).size = k * z.size := by simp [Builtin.zeroCells]

theorem aappend_sound (h : Sim w0 φ A w) {sT xT ty : TypeId} {s x cs cx v : Value} {A' : St} (e : aappend P A sT xT s x = some (v, A')) (hs : VR φ A.next s cs) (hx : VR φ A.next x cx) :
    ∃ v' w' φ', (Builtin.append_ #[sT, xT] ty #[cs, cx]).run P w = .ok v' w' ∧ VR φ' A'.next v v' ∧ Sim w0 φ' A' w' ∧ A.next ≤ A'.next ∧ Ext A.next φ φ' := by
  unfold aappend at e
  split at e
  · cases e
  · cases e
  · cases e
  · rename_i el hel hni hnn
    have hsl := telem_und hel
    obtain ⟨d, hd⟩ : ∃ d, P.underlying xT = some d := by
      cases hu : P.underlying xT with
      | none => exact absurd hu hnn
      | some d => exact ⟨d, rfl⟩
    have hd' : ∀ k, d ≠ .int k := fun k hk => hni k (by rw [hd, hk])
    split at e
    · rename_i sz bs z hsz hbs hz
      split at e
      · rename_i n new base len cap hsrc
        obtain ⟨hlen, hnl, _, hsrcs⟩ := srcCells_sound (P := P) h hsrc hx
        split at e
        · cases e
        · rename_i hszz
          have hsz0 : 0 < sz := by omega
          have hzs : z.cells.size = sz := by omega
          obtain ⟨ds, hds, hdc⟩ := hsrcs n (Nat.le_refl _)
          rw [List.take_of_length_le (by omega)] at hdc
          have hdsz : ds.size = n * sz := by have := hdc.1; simp at this; omega
          split at e
          · rename_i hfit
            split at e
            · -- a nil slice, and nothing
              simp only [Option.some.injEq, Prod.mk.injEq] at e
              obtain ⟨rfl, rfl⟩ := e
              rcases hs.slice_inv with ⟨_, rfl, rfl, rfl⟩ | ⟨b, off, sp, ca, ccap, e0, _⟩
              · obtain rfl : n = 0 := by omega
                exact ⟨.slice none 0 0, w, φ, by rw [run_append_fits hsl hd hd' hsz hlen hds (by omega)]; rfl, .slice0, h, Nat.le_refl _, Ext.refl _ _⟩
              · cases e0
            · rename_i b off sp
              rcases hs.slice_inv with ⟨e0, _⟩ | ⟨b', off', sp', ca, ccap, e0, rfl, hb, hle, hcc, hloc⟩
              · cases e0
              · cases e0
                have hrun := run_append_fits (P := P) (w := w) (ty := ty) (base := some ca) (len := len) (cap := ccap) hsl hd hd' hsz hlen hds (by omega)
                split at e
                · rename_i hn0
                  subst hn0
                  simp only [Option.some.injEq, Prod.mk.injEq] at e
                  obtain ⟨rfl, rfl⟩ := e
                  have : ds = #[] := Array.eq_empty_of_size_eq_zero (by omega)
                  subst this
                  exact ⟨_, w, φ, by rw [hrun]; rfl, hs, h, Nat.le_refl _, Ext.refl _ _⟩
                · rename_i hn0
                  split at e
                  · rename_i bcs e' k hg
                    split at e
                    · rename_i hc
                      obtain ⟨c1, c2, c3⟩ := hc
                      simp only [Option.some.injEq, Prod.mk.injEq] at e
                      obtain ⟨rfl, rfl⟩ := e
                      obtain ⟨_, l, hl, _⟩ := h.blk b _ hg
                      rcases hloc l hl with ⟨rfl, hcap⟩ | ⟨c4, _⟩
                      · obtain ⟨w', hr, hs'⟩ := Sim.store (P := P) hl (off + len * sz) new ds.toList 0 A w bcs h hg (by simp; omega) (fun j v v' a b => ⟨hdc.2 j v v' (by simpa using a) (by simpa using b), by
                          rw [List.all_eq_true] at c3; exact c3 v (List.mem_of_getElem? a)⟩) (by omega) (by omega)
                        refine ⟨_, w', φ, ?_, .slice b off sp _ _ _ _ hb (by omega) hcc hloc, hs', Nat.le_refl _, Ext.refl _ _⟩
                        rw [hrun]
                        show ((storeCells ((⟨l.block, l.base + off, none⟩ : Addr).add (len * sz)) ds.toList).run P w).andThen _ = _
                        rw [Addr.add_lit, show l.base + off + len * sz = l.base + (off + len * sz) by omega, hr]; rfl
                      · omega
                    · cases e
                  · cases e
          · rename_i hfit
            split at e
            · rename_i hB
              obtain ⟨hB, hM⟩ := hB
              have hD := h.drew
              obtain ⟨_, _, _, hsrcD⟩ := srcCells_sound (P := P) hD hsrc hx
              obtain ⟨ds, hds, hdc⟩ := hsrcD n (Nat.le_refl _)
              rw [List.take_of_length_le (by omega)] at hdc
              have hdsz : ds.size = n * sz := by have := hdc.1; simp at this; omega
              -- the new row, whatever room the machine gives it
              have grow : ∀ (φ1 : Nat → Option Loc) (A1 : St) (old : List Value) (os : Array Value) (base : Option Addr) (ccap : Nat), Sim w0 φ1 A1 w.drew → A1.next = A.next → Ext A.next φ φ1 → CR φ A.next old.toArray os → old.length = len * sz →
                  (Builtin.firstCells sz len (.slice base len ccap)).run P w.drew = .ok os w.drew → ccap < len + n → ∀ m,
                  ∃ v' w' φ', (Builtin.append_ #[sT, xT] ty #[.slice base len ccap, cx]).run P w = .ok v' w' ∧ VR φ' (A.next + 1) (.slice (some ⟨A.next, 0, some sz⟩) (len + n) (len + n)) v' ∧
                    Sim w0 φ' (A1.alloc (.cells (old ++ new) el (some m))) w' ∧ Ext A.next φ φ' := by
                intro φ1 A1 old os base ccap hS1 hn1 he1 hoc hol hos hg m
                obtain ⟨ncap, hnc, hrun⟩ := run_append_grows (P := P) (w := w) (ty := ty) (base := base) (len := len) (cap := ccap) hsl hd hd' hsz hbs hz hlen hds hos hg hB hM
                have hoz : os.size = len * sz := by have := hoc.1; simp at this; omega
                have hall := (hoc.append hdc).mono (Nat.le_refl _) he1
                obtain ⟨φ', hs', he', hφ'⟩ := hS1.newRow (old ++ new) (os ++ ds ++ Builtin.zeroCells z.cells (ncap - (len + n))) el (0, 0) (by simp; omega) (fun i v hi => by
                  have hi' : (old.toArray ++ new.toArray)[i]? = some v := by simpa using hi
                  obtain ⟨v', h1, h2⟩ := hall.at i v hi'
                  refine ⟨v', ?_, by rw [hn1]; exact h2⟩
                  rw [Array.getElem?_append, if_pos (Array.getElem?_eq_some_iff.1 h1).1]; exact h1) (fun i _ hx => by omega)
                have hCs : (os ++ ds ++ Builtin.zeroCells z.cells (ncap - (len + n))).size = ncap * sz := by
                  simp only [Array.size_append, zeroCells_size, hzs, hoz, hdsz]
                  have : ncap = (len + n) + (ncap - (len + n)) := by omega
                  calc len * sz + n * sz + (ncap - (len + n)) * sz = ((len + n) + (ncap - (len + n))) * sz := by simp only [Nat.add_mul]
                    _ = ncap * sz := by rw [← this]
                have hs2 : Sim w0 φ' (A1.alloc (.cells (old ++ new) el (some m))) (w.drew.alloc (.cells (os ++ ds ++ Builtin.zeroCells z.cells (ncap - (len + n))) el)) := by
                  refine ⟨hs'.below, fun c B e1 => ?_, fun c e1 => hs'.dead c ?_, fun c c' l l' hne e1 e2 hl => ?_⟩
                  · rw [St.get_alloc] at e1
                    by_cases hc : c = A1.next
                    · rw [if_pos hc] at e1; cases e1
                      obtain ⟨h1, l, h2, C, fr, a1, a2, a3, a4, a5⟩ := hs'.blk c (.cells (old ++ new) el (some 0)) (by rw [St.get_alloc, if_pos hc])
                      exact ⟨h1, l, h2, C, fr, a1, a2, a3, a4, fun k hk => ⟨(a5 0 rfl).1, fun i h3 => (a5 0 rfl).2 i (by omega)⟩⟩
                    · rw [if_neg hc] at e1
                      exact hs'.blk c B (by rw [St.get_alloc, if_neg hc]; exact e1)
                  · rw [St.get_alloc] at e1 ⊢
                    by_cases hc : c = A1.next
                    · rw [if_pos hc] at e1; cases e1
                    · rw [if_neg hc] at e1 ⊢; exact e1
                  · have := hs'.inj c c' l l' hne e1 e2 hl
                    rw [St.get_alloc] at this ⊢
                    by_cases hc : c = A1.next
                    · rw [if_pos hc] at this; exact this.elim
                    · rw [if_neg hc] at this ⊢; exact this
                refine ⟨_, _, φ', hrun, ?_, hs2, he1.trans he' (by omega)⟩
                rw [hn1] at hφ'
                refine .slice A.next 0 (some sz) _ _ _ _ (by omega) (Nat.le_refl _) hnc fun l hl => ?_
                rw [hφ'] at hl; cases hl
                left
                refine ⟨by simp, ?_⟩
                obtain ⟨s', rfl⟩ : ∃ s', sz = s' + 1 := ⟨sz - 1, by omega⟩
                simp only [capOk, hCs]
                omega
              split at e
              · simp only [Option.some.injEq, Prod.mk.injEq] at e
                obtain ⟨rfl, rfl⟩ := e
                rcases hs.slice_inv with ⟨_, rfl, rfl, rfl⟩ | ⟨b, off, sp, ca, ccap, e0, _⟩
                · obtain ⟨v', w', φ', h1, h2, h3, h4⟩ := grow φ A [] #[] none 0 hD rfl (Ext.refl _ _) CR.empty (by simp) rfl (by omega) 0
                  exact ⟨v', w', φ', h1, h2, by simpa using h3, by simp, h4⟩
                · cases e0
              · rename_i b off sp
                rcases hs.slice_inv with ⟨e0, _⟩ | ⟨b', off', sp', ca, ccap, e0, rfl, hb, hle, hcc, hloc⟩
                · cases e0
                · cases e0
                  have hold : ∀ (cs : List Value) (e1 : TypeId) (m : Option Nat), A.get b = some (.cells cs e1 m) → off + len * sz ≤ cs.length → ∃ os, (Builtin.firstCells sz len (.slice (some ca) len ccap)).run P w.drew = .ok os w.drew ∧ CR φ A.next ((cs.drop off).take (len * sz)).toArray os := by
                    intro cs e1 m hg hc
                    obtain ⟨_, l, hl, _⟩ := hD.blk b _ hg
                    rcases hloc l hl with ⟨rfl, _⟩ | ⟨c4, _⟩
                    · exact hD.load (P := P) hg hl off (len * sz) hc
                    · obtain rfl : len = 0 := by omega
                      refine ⟨#[], ?_, by simpa using CR.empty⟩
                      simp [Builtin.firstCells, loadCells, loadCellsFrom]
                  split at e
                  · rename_i cs e1 m hg
                    split at e
                    · rename_i hc
                      simp only [Option.some.injEq, Prod.mk.injEq] at e
                      obtain ⟨rfl, rfl⟩ := e
                      obtain ⟨os, hos, hoc⟩ := hold cs e1 m hg hc
                      obtain ⟨_, l, hl, _⟩ := h.blk b _ hg
                      have hcap : ccap < len + n := by
                        rcases hloc l hl with ⟨_, hk⟩ | ⟨c4, c5⟩
                        · simp only [capOk] at hk; omega
                        · omega
                      obtain ⟨v', w', φ', h1, h2, h3, h4⟩ := grow φ A _ os (some ca) ccap hD rfl (Ext.refl _ _) hoc (by simp; omega) hos hcap 0
                      exact ⟨v', w', φ', h1, h2, h3, by simp, h4⟩
                    · cases e
                  · rename_i cs e1 k j hg
                    split at e
                    · rename_i hc
                      obtain ⟨c1, c2, c3, c4, c5⟩ := hc
                      subst c3
                      simp only [Option.some.injEq, Prod.mk.injEq] at e
                      obtain ⟨rfl, rfl⟩ := e
                      obtain ⟨os, hos, hoc⟩ := hold cs e1 (some k) hg c1
                      by_cases hcap : ccap < len + n
                      · obtain ⟨hk1, hk2⟩ := hD.kill b
                        obtain ⟨v', w', φ', h1, h2, h3, h4⟩ := grow _ _ _ os (some ca) ccap hk1 rfl hk2 hoc (by simp; omega) hos hcap (k - off)
                        exact ⟨v', w', φ', h1, h2, h3, by simp, h4⟩
                      · -- there was room: the machine's block is the same one
                        obtain ⟨_, l, hl, C, fr, a1, a2, a3, a4, a5⟩ := h.blk b _ hg
                        obtain ⟨a50, a5⟩ := a5 k rfl
                        obtain ⟨_, _, _, hsrcW⟩ := srcCells_sound (P := P) h hsrc hx
                        obtain ⟨ds, hds, hdc⟩ := hsrcW n (Nat.le_refl _)
                        rw [List.take_of_length_le (by omega)] at hdc
                        have hdsz : ds.size = n * sz := by have := hdc.1; simp at this; omega
                        rcases hloc l hl with ⟨rfl, hk⟩ | ⟨c6, c7⟩
                        · have hspz : j + 1 = sz := by simpa using c2
                          simp only [capOk] at hk
                          rw [hspz] at hk
                          have hmul : (len + n) * sz ≤ ccap * sz := Nat.mul_le_mul_right _ (by omega)
                          rw [Nat.add_mul] at hmul
                          obtain ⟨w', C', s1, s2, s3, s4, s5, s6, s7, s8, s9, s10⟩ := storeCells_block (P := P) (o := l.base + (off + len * sz)) (fr := fr) ds.toList 0 w C a1 (by simp; omega) (fun v hv => by
                            obtain ⟨i, hi⟩ := List.getElem?_of_mem hv
                            have hi1 : i < new.length := by have := (List.getElem?_eq_some_iff.1 hi).1; simp at this; omega
                            have := hdc.2 i new[i] v (by simp [List.getElem?_eq_getElem hi1]) (by simpa using hi)
                            rw [this.cell1]
                            rw [List.all_eq_true] at c5; exact c5 _ (List.getElem_mem hi1)) (fun i h1 h2 => a5 i (by omega) h2)
                          obtain ⟨φ', hs', he', hφ'⟩ := h.retire hg hl off ((cs.drop off).take (len * sz) ++ new) (k - off) (w' := w') (Below.of_same h.below s7 s8 s9 s10 a50.1 s6) s6 (fun φ' he' => by
                            refine ⟨C', fr, s2, s3.trans a2, by simp only [List.length_append, List.length_take, List.length_drop]; omega, fun i v hi => ?_, fun k' hk' => ?_⟩
                            · rw [List.getElem?_append] at hi
                              split at hi
                              · rename_i hlt
                                simp only [List.length_take, List.length_drop] at hlt
                                rw [List.getElem?_take, if_pos (by omega), List.getElem?_drop] at hi
                                obtain ⟨v', q1, q2⟩ := a4 _ v hi
                                refine ⟨v', ?_, q2.mono (by omega) he'⟩
                                show C'[l.base + off + i]? = some v'
                                rw [s5 _ (by omega), ← q1]; congr 1; omega
                              · rename_i hlt
                                simp only [List.length_take, List.length_drop] at hlt hi
                                rw [show min (len * sz) (cs.length - off) = len * sz by omega] at hi hlt
                                obtain ⟨v', q1, q2⟩ := hdc.at (i - len * sz) v (by simpa using hi)
                                refine ⟨v', ?_, q2.mono (by omega) he'⟩
                                have := s4 (i - len * sz) v' (by simpa using q1)
                                show C'[l.base + off + i]? = some v'
                                rw [← this]; congr 1; omega
                            · cases hk'
                              exact ⟨⟨a50.1, fun hx => absurd hx (telem_ne hel)⟩, fun i h1 h2 => a5 i (by simp only at h1; omega) (by omega)⟩)
                          refine ⟨.slice (some ⟨l.block, l.base + off, none⟩) (len + n) ccap, w', φ', ?_, ?_, hs', by simp, he'⟩
                          · rw [run_append_fits hsl hd hd' hsz hlen hds (by omega)]
                            show ((storeCells ((⟨l.block, l.base + off, none⟩ : Addr).add (len * sz)) ds.toList).run P w).andThen _ = _
                            rw [Addr.add_lit, show l.base + off + len * sz = l.base + (off + len * sz) by omega, s1]; rfl
                          · refine .slice A.next 0 (some sz) _ _ _ _ (by simp) (Nat.le_refl _) (by omega) fun l2 hl2 => ?_
                            rw [hφ'] at hl2; cases hl2
                            left
                            refine ⟨by simp, ?_⟩
                            rw [← hspz]
                            simp only [capOk]
                            rw [hspz]; omega
                        · omega
                    · cases e
                  · cases e
            · cases e
      · cases e
    · cases e
end
end Go.Fw

/-! copy, conversions; all operations together. -/
set_option linter.unusedSimpArgs false
set_option linter.unusedVariables false
namespace Go.Fw
open Go.RowKit

def acopy (P : Program) (A : St) (dT : TypeId) (d x : Value) : Option (Value × St) :=
  match telem P dT with
  | none => none
  | some e =>
    match tsz P e with
    | none => none
    | some sz =>
      match srcCells A sz x, d with
      | some (n, new), .slice base len _ =>
        if Nat.min n len = 0 then some (.int .i64 0, A) else
        match base with
        | none => none
        | some ⟨b, off, _⟩ =>
          match A.get b with
          | some (.cells cs e' (some m)) =>
            if m ≤ off ∧ off + Nat.min n len * sz ≤ cs.length ∧ (new.take (Nat.min n len * sz)).all cell1 = true then some (.int .i64 (Nat.min n len : Nat), A.upd b (some (.cells (setList cs off (new.take (Nat.min n len * sz))) e' (some m)))) else none
          | _ => none
      | _, _ => none

def aconv (P : Program) (A : St) (src dst : TypeId) (x : Value) : Option (Value × St) :=
  match P.underlying src, P.underlying dst, x with
  | some _, some (.int k), .int _ i => some (.int k (k.wrap i), A)
  | some _, some .string, .string s => some (.string s, A)
  | some _, some (.slice e), .string s =>
    match P.underlying e with
    | some (.int .u8) => some (.slice (some ⟨A.next, 0, some 1⟩) s.size s.size, A.alloc (.cells (s.data.toList.map fun b => .int .u8 b.toNat) e (some 0)))
    | _ => none
  | some (.slice e), some .string, .slice a len _ =>
    match P.underlying e with
    | some (.int .u8) =>
      match a with
      | none => some (.string .empty, A)
      | some ⟨b, off, _⟩ =>
        if len = 0 then some (.string .empty, A) else
        match A.get b with
        | some (.cells cs _ _) => if off + len ≤ cs.length then (intsOf .u8 ((cs.drop off).take len)).map fun ns => (.string (strOfNums ns), A) else none
        | _ => none
    | _ => none
  | some (.pointer t), some .unsafePointer, .pointer (some ⟨b, off, sp⟩) =>
    match A.get b, tsz P t with
    | some (.cells cs _ _), some (_ + 1) => if off < cs.length then some (.pointer (some ⟨b, off, sp⟩), A) else none
    | _, _ => none
  | some .unsafePointer, some (.pointer u), .pointer (some ⟨b, off, sp⟩) =>
    match A.get b, tsz P u with
    | some (.cells cs e (some _)), some s => if e = btype ∧ u = e ∧ off = 0 ∧ s ≠ 0 ∧ s ≤ cs.length then some (.pointer (some ⟨b, off, sp⟩), A) else none
    | _, _ => none
  | _, _, _ => none

section
variable {P : Program} {w0 : World} {φ : Nat → Option Loc} {A : St} {w : World}

theorem acopy_sound (h : Sim w0 φ A w) {dT xT ty : TypeId} {d x cd cx v : Value} {A' : St} (e : acopy P A dT d x = some (v, A')) (hd : VR φ A.next d cd) (hx : VR φ A.next x cx) :
    ∃ v' w' φ', (Builtin.copy_ #[dT, xT] ty #[cd, cx]).run P w = .ok v' w' ∧ VR φ' A'.next v v' ∧ Sim w0 φ' A' w' ∧ A.next ≤ A'.next ∧ Ext A.next φ φ' := by
  unfold acopy at e
  split at e
  · cases e
  · rename_i el hel
    split at e
    · cases e
    · rename_i sz hsz
      split at e
      · rename_i n new base len cap hsrc
        obtain ⟨hlen, hnl, _, hsrcs⟩ := srcCells_sound (P := P) h hsrc hx
        obtain ⟨ds, hds, hdc⟩ := hsrcs (Nat.min n len) (Nat.min_le_left _ _)
        have hrun : ∀ base' ccap, (Builtin.copy_ #[dT, xT] ty #[.slice base' len ccap, cx]).run P w =
            ((match base' with | some a => storeCells a ds.toList | none => pure () : Sem Unit).run P w).andThen fun _ w' => .ok (goInt ((Nat.min n len : Nat) : Int)) w' := by
          intro base' ccap
          unfold Builtin.copy_
          simp only [List.getElem?_toArray, List.getElem?_cons_zero, List.getElem?_cons_succ, Sem.run_bind, run_und (telem_und hel), Result.andThen_ok, run_tsz hsz, hlen, hds, Sem.run_pure]
          cases base' with
          | none => rfl
          | some a => simp only [Sem.run_bind, Sem.run_pure]
        split at e
        · rename_i hk0
          simp only [Option.some.injEq, Prod.mk.injEq] at e
          obtain ⟨rfl, rfl⟩ := e
          have hds0 : ds = #[] := by
            have := hdc.1
            rw [hk0] at this
            simp at this
            exact Array.eq_empty_of_size_eq_zero (by omega)
          subst hds0
          refine ⟨.int .i64 0, w, φ, ?_, .int _ _, h, Nat.le_refl _, Ext.refl _ _⟩
          rcases hd.slice_inv with ⟨rfl, rfl, rfl, rfl⟩ | ⟨b, off, sp, ca, ccap, rfl, rfl, _⟩
          · rw [hrun, hk0]; rfl
          · rw [hrun, hk0]; rfl
        · rename_i hk0
          split at e
          · cases e
          · rename_i b off sp
            rcases hd.slice_inv with ⟨e0, _⟩ | ⟨b', off', sp', ca, ccap, e0, rfl, hb, hle, hcc, hloc⟩
            · cases e0
            · cases e0
              split at e
              · rename_i bcs e' m hg
                split at e
                · rename_i hc
                  obtain ⟨c1, c2, c3⟩ := hc
                  simp only [Option.some.injEq, Prod.mk.injEq] at e
                  obtain ⟨rfl, rfl⟩ := e
                  obtain ⟨_, l, hl, _⟩ := h.blk b _ hg
                  have hkn : Nat.min n len ≤ n := Nat.min_le_left _ _
                  have hmul : Nat.min n len * sz ≤ n * sz := Nat.mul_le_mul_right _ hkn
                  have htl : (new.take (Nat.min n len * sz)).length = Nat.min n len * sz := by rw [List.length_take]; omega
                  have hdl : ds.size = Nat.min n len * sz := by have := hdc.1; simp only [List.size_toArray] at this; omega
                  rcases hloc l hl with ⟨rfl, hcap⟩ | ⟨c4, _⟩
                  · obtain ⟨w', hr, hs'⟩ := Sim.store (P := P) hl off (new.take (Nat.min n len * sz)) ds.toList 0 A w bcs h hg (by rw [htl]; simp [hdl]) (fun j v v' a b => ⟨hdc.2 j v v' (by simpa using a) (by simpa using b), by
                      rw [List.all_eq_true] at c3; exact c3 v (List.mem_of_getElem? a)⟩) (by omega) (by omega)
                    refine ⟨_, w', φ, ?_, .int _ _, hs', Nat.le_refl _, Ext.refl _ _⟩
                    rw [hrun]
                    show ((storeCells ⟨l.block, l.base + off, none⟩ ds.toList).run P w).andThen _ = _
                    rw [hr]; rfl
                  · have : len = 0 := by omega
                    subst this
                    exact absurd (Nat.min_zero n) hk0
                · cases e
              · cases e
      · cases e

theorem tsz_info {P : Program} {t : TypeId} {n : Nat} (h : tsz P t = some n) : ∃ i, P.info? t = some i ∧ i.size = n := by
  unfold tsz at h
  cases hi : P.info? t with
  | none => rw [hi] at h; cases h
  | some i => rw [hi] at h; cases h; exact ⟨i, rfl, rfl⟩
theorem liesAt_self {P : Program} {e : TypeId} (hc : P.cellsOf e ≠ 0) (count : Nat) (hn : 1 ≤ count) : liesAt P P.depth e count 0 e 1 = true := by
  have hd : P.depth = (2 * (P.types.size + Made.depth) + 1) + 1 := rfl
  rw [hd]
  simp only [liesAt, Bool.or_eq_true]
  left
  rw [hd]
  simp [rowAt, hc, hn, sameLayout]
theorem aconv_sound (h : Sim w0 φ A w) {src dst : TypeId} {x cx v : Value} {A' : St} (e : aconv P A src dst x = some (v, A')) (hx : VR φ A.next x cx) :
    ∃ v' w' φ', (convert src dst cx).run P w = .ok v' w' ∧ VR φ' A'.next v v' ∧ Sim w0 φ' A' w' ∧ A.next ≤ A'.next ∧ Ext A.next φ φ' := by
  unfold aconv at e
  split at e
  · rename_i ds k k' i hs hd
    obtain rfl := hx.int_inv
    simp only [Option.some.injEq, Prod.mk.injEq] at e
    obtain ⟨rfl, rfl⟩ := e
    refine ⟨_, w, φ, ?_, .int _ _, h, Nat.le_refl _, Ext.refl _ _⟩
    simp only [convert, Sem.run_bind, run_und hs, run_und hd, Result.andThen_ok]
    cases ds <;> rfl
  · rename_i ds s hs hd
    obtain rfl := hx.string_inv
    simp only [Option.some.injEq, Prod.mk.injEq] at e
    obtain ⟨rfl, rfl⟩ := e
    refine ⟨_, w, φ, ?_, .string _, h, Nat.le_refl _, Ext.refl _ _⟩
    simp only [convert, Sem.run_bind, run_und hs, run_und hd, Result.andThen_ok]
    cases ds <;> rfl
  · rename_i ds el s hs hd
    obtain rfl := hx.string_inv
    split at e
    · rename_i he
      simp only [Option.some.injEq, Prod.mk.injEq] at e
      obtain ⟨rfl, rfl⟩ := e
      obtain ⟨ncap, hnc, hq⟩ : ∃ ncap, s.size ≤ ncap ∧ Question.cut (.appendCap s.size 0 el) (w.tape w.drawn (.appendCap s.size 0 el)) = ncap := ⟨_, by simp [Question.cut], rfl⟩
      obtain ⟨C, hC⟩ : ∃ C : Array Value, C = s.data.map (fun b => Value.int .u8 b.toNat) ++ Array.replicate (ncap - s.size) (.int .u8 0) := ⟨_, rfl⟩
      have hCs : C.size = ncap := by
        have : s.data.size = s.size := rfl
        rw [hC, Array.size_append, Array.size_map, Array.size_replicate, this]; omega
      obtain ⟨φ', hs', he', hφ'⟩ := h.drew.newRow (s.data.toList.map fun b => Value.int .u8 b.toNat) C el (C.size, C.size + 1) (by
          have : s.data.toList.length = s.size := by rw [Array.length_toList]; rfl
          rw [List.length_map, this, hCs]; exact hnc) (fun i v hi => by
        refine ⟨v, ?_, ?_⟩
        · rw [hC]
          have hlt : i < (s.data.map (fun b => Value.int .u8 b.toNat)).size := by
            have := (List.getElem?_eq_some_iff.1 hi).1
            rw [List.length_map, Array.length_toList] at this
            rw [Array.size_map]; exact this
          rw [Array.getElem?_append, if_pos hlt, ← Array.getElem?_toList, Array.toList_map]; exact hi
        · rw [List.getElem?_map, Option.map_eq_some_iff] at hi
          obtain ⟨y, _, rfl⟩ := hi
          exact .int _ _) (fun i hi hx => by simp only at hx; omega)
      refine ⟨.slice (some ⟨w.heap.size, 0, none⟩) s.size ncap, _, φ', ?_, ?_, hs', by simp, he'⟩
      · have hconv : (convert src dst (.string s)).run P w = (Conv.stringToBytes el s).run P w := by
          simp only [convert, Sem.run_bind, run_und hs, run_und hd, Result.andThen_ok]
          cases ds <;> simp only [Sem.run_bind, run_und he, Result.andThen_ok]
        rw [hconv]
        have hsh : (w.drew.alloc (.cells C el)).shape? w.heap.size = some (el, C.size) := by
          have := heap_alloc_new w.drew (.cells C el)
          rw [World.size_drew] at this
          simp only [World.shape?, this]
        have hfz : (w.drew.alloc (.cells C el)).freeze { block := w.heap.size, off := C.size } 1 = w.drew.alloc (.cells C el (C.size, C.size + 1)) := by
          have e1 : (w.drew.alloc (.cells C el)).heap.modify w.heap.size (fun
            | .cells c elem (lo, hi) => .cells c elem (if lo == hi then (C.size, C.size + 1) else (min lo C.size, max hi (C.size + 1)))
            | o => o) = (w.drew.alloc (.cells C el (C.size, C.size + 1))).heap := by
            show (w.heap.push (.cells C el)).modify w.heap.size _ = w.heap.push (.cells C el (C.size, C.size + 1))
            apply Array.ext
            · simp
            · intro i h1 h2
              rw [Array.getElem_modify]
              by_cases hi : w.heap.size = i
              · subst hi; simp
              · have : i < w.heap.size := by simp at h1; omega
                rw [if_neg hi, Array.getElem_push_lt this, Array.getElem_push_lt this]
          unfold World.freeze
          rw [if_neg (by decide)]
          exact congrArg (fun hp => { w.drew.alloc (.cells C el) with heap := hp }) e1
        simp only [Conv.stringToBytes, Sem.run_bind, run_choose_drew, Question.forced, Bool.false_eq_true, if_false, hq, Result.andThen_ok, newRow, run_newObj, World.alloc_eq, World.size_drew, Sem.run_pure, pure_bind, ← hC, markStringish, run_shape, hsh, run_freeze, hfz]
      · refine .slice _ _ _ _ _ _ _ (by simp) (Nat.le_refl _) hnc fun l hl => ?_
        rw [hφ'] at hl; cases hl
        left
        refine ⟨by simp, ?_⟩
        simp only [capOk, hCs]; omega
    · cases e
  · rename_i el a len cap hs hd
    split at e
    · rename_i he
      have hnil : ∀ l c, (convert src dst (.slice none l c)).run P w = .ok (.string .empty) w := fun l c => run_convert_bytes_nil w src el hs he l c dst hd
      split at e
      · simp only [Option.some.injEq, Prod.mk.injEq] at e
        obtain ⟨rfl, rfl⟩ := e
        rcases hx.slice_inv with ⟨_, rfl, rfl, rfl⟩ | ⟨b, off, sp, ca, ccap, e0, _⟩
        · exact ⟨_, w, φ, hnil 0 0, .string _, h, Nat.le_refl _, Ext.refl _ _⟩
        · cases e0
      · rename_i b off sp
        rcases hx.slice_inv with ⟨e0, _⟩ | ⟨b', off', sp', ca, ccap, e0, rfl, hb, hle, hcc, hloc⟩
        · cases e0
        · cases e0
          split at e
          · rename_i h0
            subst h0
            simp only [Option.some.injEq, Prod.mk.injEq] at e
            obtain ⟨rfl, rfl⟩ := e
            refine ⟨.string .empty, w, φ, ?_, .string _, h, Nat.le_refl _, Ext.refl _ _⟩
            obtain ⟨cb, co, csp⟩ := ca
            simp only [convert, Sem.run_bind, run_und hs, run_und hd, Result.andThen_ok, run_und he, Conv.bytesToString, loadCells, loadCellsFrom, Sem.run_pure]
            simp
          · rename_i h0
            split at e
            · rename_i cs e1 m hg
              split at e
              · rename_i hc
                simp only [Option.map_eq_some_iff, Prod.mk.injEq] at e
                obtain ⟨ns, hns, rfl, rfl⟩ := e
                obtain ⟨_, l, hl, _⟩ := h.blk b _ hg
                have hl1 := intsOf_at hns
                have hlen : ns.length = len := by have := congrArg List.length hl1; simp at this; omega
                rcases hloc l hl with ⟨rfl, _⟩ | ⟨c1, _⟩
                · refine ⟨_, w, φ, run_convert_bytes_arg w src el hs he l.block (l.base + off) len ccap ns hlen (fun i hi => ?_) dst hd, .string _, h, Nat.le_refl _, Ext.refl _ _⟩
                  have hci : cs[off + i]? = some (.int .u8 (ns.getD i 0)) := by
                    have := congrArg (fun l => l[i]?) hl1
                    simp only [List.getElem?_take, if_pos hi, List.getElem?_drop, List.getElem?_map] at this
                    rw [this, List.getElem?_eq_getElem (by omega), List.getD_eq_getElem?_getD, List.getElem?_eq_getElem (by omega)]; rfl
                  obtain ⟨l', v', hl', hv1, hv2⟩ := h.cell hg hci
                  rw [hl] at hl'; cases hl'
                  rw [show l.base + off + i = l.base + (off + i) by omega, hv1, hv2.int_inv]
                · omega
              · cases e
            · cases e
    · cases e
  · rename_i t b off sp hs hd
    split at e
    · rename_i cs el m n hg ht
      split at e
      · rename_i hlt
        simp only [Option.some.injEq, Prod.mk.injEq] at e
        obtain ⟨rfl, rfl⟩ := e
        obtain ⟨_, l, hl, C, fr, h1, h2, h3, _⟩ := h.blk b _ hg
        have hx' := hx
        obtain ⟨ca, rfl, _, rfl, hca⟩ := hx.ptr_inv
        obtain rfl := hca l hl
        obtain ⟨ti, hti, htj⟩ := tsz_info ht
        refine ⟨_, w, φ, Lib.run_to_unsafe w _ hs hd hti (by omega) (e := el) (cells := C.size) (by simp [World.shape?, h1]) (by simp only; omega), hx', h, Nat.le_refl _, Ext.refl _ _⟩
      · cases e
    · cases e
  · rename_i u b off sp hs hd
    split at e
    · rename_i cs el k s hg hu
      split at e
      · rename_i hc
        obtain ⟨c1, rfl, rfl, c2, c3⟩ := hc
        simp only [Option.some.injEq, Prod.mk.injEq] at e
        obtain ⟨rfl, rfl⟩ := e
        obtain ⟨_, l, hl, C, fr, h1, h2, h3, _, h5⟩ := h.blk b _ hg
        have hbase := (h5 k rfl).1.2 c1
        have hx' := hx
        obtain ⟨ca, rfl, _, rfl, hca⟩ := hx.ptr_inv
        obtain rfl := hca l hl
        obtain ⟨ti, hti, htj⟩ := tsz_info hu
        have hcells : P.cellsOf u = s := by simp [Program.cellsOf, hti, htj]
        refine ⟨_, w, φ, Lib.run_from_unsafe w _ hs hd hti (e := u) (cells := C.size) (by simp [World.shape?, h1]) ?_, hx', h, Nat.le_refl _, Ext.refl _ _⟩
        simp only [hbase, hcells, Nat.add_zero]
        refine liesAt_self (by rw [hcells]; exact c2) _ ?_
        exact (Nat.le_div_iff_mul_le (by omega)).2 (by omega)
      · cases e
    · cases e
  · cases e
end

/-! ### Maps from strings -/
def smGet : List (ByteArray × Value) → ByteArray → Option Value
  | [], _ => none
  | p :: r, s => if s = p.1 then some p.2 else smGet r s
def smSet : List (ByteArray × Value) → ByteArray → Value → List (ByteArray × Value)
  | [], s, v => [(s, v)]
  | p :: r, s, v => if s = p.1 then (s, v) :: r else p :: smSet r s v
def alookup (P : Program) (A : St) (t : TypeId) (x k : Value) (ok : Bool) : Option Value :=
  match P.underlying t, x, k with
  | some (.map kt et), .map (some b), .string s =>
    match P.underlying kt, A.get b, tzero P et with
    | some .string, some (.smap L), some z =>
      match smGet L s with
      | some v => some (if ok then .tuple #[v, .bool true] else v)
      | none => some (if ok then .tuple #[z, .bool false] else z)
    | _, _, _ => none
  | _, _, _ => none
def amapSet (P : Program) (A : St) (t : TypeId) (m k x : Value) : Option St :=
  match P.underlying t, m, k with
  | some (.map kt _), .map (some b), .string s =>
    match P.underlying kt, A.get b with
    | some .string, some (.smap L) => if plainV x then some (A.upd b (some (.smap (smSet L s x)))) else none
    | _, _ => none
  | _, _, _ => none

section
variable {P : Program} {w0 : World} {φ : Nat → Option Loc} {A : St} {w : World}
theorem findNow_get {s : ByteArray} : ∀ (es : List MapEntry) (L : List (ByteArray × Value)) (i : Nat), es.map (fun e => (e.key, e.val)) = L.map (fun p => (Value.string p.1, p.2)) →
    (smGet L s = none ∧ Instr.findNow .string (.string s) es i = some none) ∨ ∃ j v e, smGet L s = some v ∧ Instr.findNow .string (.string s) es i = some (some (i + j, v)) ∧ es[j]? = some e ∧ e.key = .string s
  | [], [], i, _ => .inl ⟨rfl, rfl⟩
  | [], _ :: _, i, h => by simp at h
  | _ :: _, [], i, h => by simp at h
  | e :: es, p :: L, i, h => by
    simp only [List.map_cons, List.cons.injEq, Prod.mk.injEq] at h
    obtain ⟨⟨h1, h2⟩, h3⟩ := h
    have hb : (s == p.1) = true ↔ s = p.1 := MapKept.bytes_beq s p.1
    by_cases hs : s = p.1
    · refine .inr ⟨0, p.2, e, by simp [smGet, hs], ?_, rfl, by rw [h1, hs]⟩
      simp only [Instr.findNow, h1, Instr.sameNow, hb.2 hs, Nat.add_zero, h2]
    · have hb' : (s == p.1) = false := by
        cases hx : (s == p.1) with
        | false => rfl
        | true => exact absurd (hb.1 hx) hs
      rcases findNow_get (s := s) es L (i + 1) h3 with ⟨a, b⟩ | ⟨j, v, e', a, b, c, d⟩
      · exact .inl ⟨by simp [smGet, hs, a], by simp only [Instr.findNow, h1, Instr.sameNow, hb', b]⟩
      · exact .inr ⟨j + 1, v, e', by simp [smGet, hs, a], by simp only [Instr.findNow, h1, Instr.sameNow, hb', b]; congr 3; omega, by simpa using c, d⟩

theorem smGet_mem {s : ByteArray} {v : Value} : ∀ {L : List (ByteArray × Value)}, smGet L s = some v → ∃ p ∈ L, p.2 = v
  | [], h => by cases h
  | p :: L, h => by
    unfold smGet at h
    split at h
    · cases h; exact ⟨p, .head _, rfl⟩
    · obtain ⟨q, h1, h2⟩ := smGet_mem h; exact ⟨q, .tail _ h1, h2⟩
theorem smSet_mem {s : ByteArray} {v : Value} : ∀ {L : List (ByteArray × Value)} {p : ByteArray × Value}, p ∈ smSet L s v → p ∈ L ∨ p.2 = v
  | [], p, h => by simp [smSet] at h; exact .inr (by rw [h])
  | q :: L, p, h => by
    unfold smSet at h
    split at h
    · rcases List.mem_cons.1 h with rfl | h
      · exact .inr rfl
      · exact .inl (.tail _ h)
    · rcases List.mem_cons.1 h with rfl | h
      · exact .inl (.head _)
      · rcases smSet_mem h with h | h
        · exact .inl (.tail _ h)
        · exact .inr h

theorem Sim.smap (h : Sim w0 φ A w) {b : Nat} {L : List (ByteArray × Value)} (hb : A.get b = some (.smap L)) {cx : Value} (hx : VR φ A.next (.map (some b)) cx) :
    ∃ l es clock, φ b = some l ∧ cx = .map (some l.block) ∧ w0.heap.size ≤ l.block ∧ (∀ p ∈ L, plainV p.2 = true) ∧ w.heap[l.block]? = some (.map es clock) ∧ es.toList.map (fun e => (e.key, e.val)) = L.map (fun p => (Value.string p.1, p.2)) := by
  obtain ⟨_, l, hl, h0, hp, es, c, h1, h2⟩ := h.blk b _ hb
  cases hx with
  | map _ b' _ h => obtain rfl := h l hl; exact ⟨l, es, c, hl, rfl, h0, hp, h1, h2⟩

theorem VR.pair {n : Nat} {v : Value} (h : plainV v = true) (b : Bool) : VR φ n (.tuple #[v, .bool b]) (.tuple #[v, .bool b]) := by
  refine .tuple _ _ rfl fun i x y e e' => ?_
  rw [e] at e'
  cases e'
  match i with
  | 0 => simp at e; subst e; exact VR.plain h
  | 1 => simp at e; subst e; exact .bool b
  | i + 2 => simp at e
theorem alookup_sound (h : Sim w0 φ A w) {t : TypeId} {x k cx ck v : Value} {ok : Bool} (e : alookup P A t x k ok = some v) (hx : VR φ A.next x cx) (hk : VR φ A.next k ck) :
    (Instr.lookup t cx ck ok).run P w = .ok v w ∧ VR φ A.next v v := by
  unfold alookup at e
  split at e
  · rename_i kt et b s ht
    obtain rfl := hk.string_inv
    split at e
    · rename_i L z hkt hL hz
      obtain ⟨l, es, c, _, rfl, _, hp, h1, h2⟩ := h.smap hL hx
      have hzr : (zeroValue et).run P w = .ok z w ∧ plainV z = true := run_tzero hz
      have hrun : (Instr.lookup t (.map (some l.block)) (.string s) ok).run P w = ((do
          let (v, ok') ← match ← Instr.findKey kt (.string s) es.toList with
            | some (_, v) => pure (v, true)
            | none => pure (← zeroValue et, false)
          pure (if ok then .tuple #[v, .bool ok'] else v) : Sem Value)).run P w := by
        simp only [Instr.lookup, Sem.run_bind, run_und ht, Result.andThen_ok, MapKept.run_getObj_map h1, Sem.run_pure, MapKept.run_checkKey hkt (show MapKept.IsKey .string (.string s) from trivial) es.isEmpty 9999]
        rfl
      rw [hrun]
      rcases findNow_get es.toList L 0 h2 with ⟨a, b⟩ | ⟨j, u, e', a, b, _, _⟩
      · rw [a] at e
        simp only [Option.some.injEq] at e
        subst e
        refine ⟨by simp only [Sem.run_bind, MapKept.run_findKey hkt b, Result.andThen_ok, hzr.1, Sem.run_pure], ?_⟩
        cases ok
        · exact VR.plain hzr.2
        · exact VR.pair hzr.2 false
      · rw [a] at e
        simp only [Option.some.injEq] at e
        subst e
        obtain ⟨p, hp1, rfl⟩ := smGet_mem a
        refine ⟨by simp only [Sem.run_bind, MapKept.run_findKey hkt b, Result.andThen_ok, Sem.run_pure], ?_⟩
        cases ok
        · exact VR.plain (hp p hp1)
        · exact VR.pair (hp p hp1) true
    · cases e
  · cases e

theorem es_push {es : Array MapEntry} {L : List (ByteArray × Value)} {s : ByteArray} {v : Value} {c : Nat} (h : es.toList.map (fun e => (e.key, e.val)) = L.map (fun p => (Value.string p.1, p.2))) (hn : smGet L s = none) :
    (es.push { key := .string s, val := v, born := c }).toList.map (fun e => (e.key, e.val)) = (smSet L s v).map (fun p => (Value.string p.1, p.2)) := by
  have : smSet L s v = L ++ [(s, v)] := by
    clear h
    induction L with
    | nil => rfl
    | cons p L ih =>
      unfold smGet at hn
      split at hn
      · cases hn
      · rename_i hs; unfold smSet; rw [if_neg hs, ih hn]; rfl
  rw [this, Array.toList_push, List.map_append, List.map_append, h]; rfl
theorem es_mod {s : ByteArray} {v : Value} : ∀ (es : List MapEntry) (L : List (ByteArray × Value)) (i j : Nat) (u : Value), es.map (fun e => (e.key, e.val)) = L.map (fun p => (Value.string p.1, p.2)) →
    Instr.findNow .string (.string s) es i = some (some (i + j, u)) → (es.modify j fun e => { e with key := .string s, val := v }).map (fun e => (e.key, e.val)) = (smSet L s v).map (fun p => (Value.string p.1, p.2))
  | [], _, i, j, u, _, h => by simp [Instr.findNow] at h
  | _ :: _, [], i, j, u, h, _ => by simp at h
  | e :: es, p :: L, i, j, u, h, hf => by
    simp only [List.map_cons, List.cons.injEq, Prod.mk.injEq] at h
    obtain ⟨⟨h1, h2⟩, h3⟩ := h
    have hb : (s == p.1) = true ↔ s = p.1 := MapKept.bytes_beq s p.1
    by_cases hs : s = p.1
    · simp only [Instr.findNow, h1, Instr.sameNow, hb.2 hs, Option.some.injEq, Prod.mk.injEq] at hf
      obtain rfl : j = 0 := by omega
      simp [smSet, hs, h3]
    · have hb' : (s == p.1) = false := by
        cases hx : (s == p.1) with
        | false => rfl
        | true => exact absurd (hb.1 hx) hs
      simp only [Instr.findNow, h1, Instr.sameNow, hb'] at hf
      have hge : ∀ (es : List MapEntry) (i r : Nat) (u : Value), Instr.findNow .string (.string s) es i = some (some (r, u)) → i ≤ r := by
        intro es
        induction es with
        | nil => intro i r u h; simp [Instr.findNow] at h
        | cons e es ih =>
          intro i r u h
          unfold Instr.findNow at h
          split at h
          · simp at h; omega
          · have := ih _ _ _ h; omega
          · cases h
      have h4 := hge _ _ _ _ hf
      obtain ⟨j', rfl⟩ : ∃ j', j = j' + 1 := ⟨j - 1, by omega⟩
      have := es_mod (s := s) (v := v) es L (i + 1) j' u h3 (by rw [hf]; congr 3; omega)
      simp only [List.modify_succ_cons, List.map_cons, this, smSet, if_neg hs, h1, h2]

theorem Below.setBlk {B : Nat} {a : World} (h : Below B a w) {r : Nat} (hr : B ≤ r) (o : Obj) : Below B a { w with heap := w.heap.setIfInBounds r o } :=
  ⟨h.os, h.tape, h.output, by have := h.size; simp; exact this, fun k hk => (by simp only [Array.getElem?_setIfInBounds]; rw [if_neg (by omega)] : ({ w with heap := w.heap.setIfInBounds r o } : World).heap[k]? = w.heap[k]?).trans (h.block k hk)⟩
theorem amapSet_sound (h : Sim w0 φ A w) {t : TypeId} {m k x cm ck cx : Value} {A' : St} (e : amapSet P A t m k x = some A') (hm : VR φ A.next m cm) (hk : VR φ A.next k ck) (hx : VR φ A.next x cx) :
    ∃ w', (Instr.mapUpdate t cm ck cx).run P w = .ok () w' ∧ Sim w0 φ A' w' ∧ A'.next = A.next := by
  unfold amapSet at e
  split at e
  · rename_i kt et b s ht
    obtain rfl := hk.string_inv
    split at e
    · rename_i L hkt hL
      split at e
      · rename_i hpl
        cases e
        rw [VR.plain_eq hpl hx]
        obtain ⟨l, es, c, hl, rfl, h0, hp, h1, h2⟩ := h.smap hL hm
        have hpv : ∀ p ∈ smSet L s x, plainV p.2 = true := fun p hq => by
          rcases smSet_mem (s := s) (v := x) hq with hq | hq
          · exact hp p hq
          · rw [hq]; exact hpl
        have hlt := (Array.getElem?_eq_some_iff.1 h1).1
        have put : ∀ (es' : Array MapEntry) (c' : Nat), es'.toList.map (fun e => (e.key, e.val)) = (smSet L s x).map (fun p => (Value.string p.1, p.2)) →
            Sim w0 φ (A.upd b (some (.smap (smSet L s x)))) { w with heap := w.heap.setIfInBounds l.block (.map es' c') } := fun es' c' he =>
          h.turn hL hl (by simp [roBlk]) (Below.setBlk h.below h0 _) (fun k hk _ => by simp only [Array.getElem?_setIfInBounds]; rw [if_neg (by omega)])
            ⟨h0, hpv, es', c', by simp only [Array.getElem?_setIfInBounds]; rw [if_pos trivial, if_pos hlt], he⟩
        rcases findNow_get es.toList L 0 h2 with ⟨a, hf⟩ | ⟨j, u, e', a, hf, hj, hkey⟩
        · refine ⟨_, ?_, put _ (c + 1) (es_push (c := c) h2 a), rfl⟩
          simp only [Instr.mapUpdate, Sem.run_bind, run_und ht, Result.andThen_ok, MapKept.run_getObj_map h1, MapKept.run_checkKey hkt (show MapKept.IsKey .string (.string s) from trivial) false 9999, MapKept.run_findKey hkt hf, MapKept.run_setObj_map _ h1]
        · refine ⟨_, ?_, put (es.modify j fun e => { e with key := .string s, val := x }) c (by rw [Array.toList_modify]; exact es_mod es.toList L 0 j u h2 hf), rfl⟩
          have hj' : es[j]? = some e' := by simpa using hj
          have hst : Instr.keyThatStays (.string s) (.string s) = pure (.string s) := by
            have : Instr.sameBits 10000 (.string s) (.string s) = true := (MapKept.bytes_beq s s).2 rfl
            unfold Instr.keyThatStays; rw [if_pos this]
          simp only [Instr.mapUpdate, Sem.run_bind, run_und ht, Result.andThen_ok, MapKept.run_getObj_map h1, MapKept.run_checkKey hkt (show MapKept.IsKey .string (.string s) from trivial) false 9999, MapKept.run_findKey hkt hf, Nat.zero_add, hj', Option.map_some, Option.getD_some, hkey, hst, Sem.run_pure, MapKept.run_setObj_map _ h1]
      · cases e
    · cases e
  · cases e

theorem makeMap_sound (h : Sim w0 φ A w) (t : TypeId) :
    ∃ v' w' φ', (Instr.makeMap t none).run P w = .ok v' w' ∧ VR φ' (A.alloc (.smap [])).next (.map (some A.next)) v' ∧ Sim w0 φ' (A.alloc (.smap [])) w' ∧ A.next ≤ (A.alloc (.smap [])).next ∧ Ext A.next φ φ' := by
  obtain ⟨hs, he⟩ := h.new (.smap []) (.map #[] 0) ⟨w.heap.size, 0, 0⟩ rfl ⟨h.old, by simp, #[], 0, heap_alloc_new w _, rfl⟩
  refine ⟨.map (some w.heap.size), _, _, ?_, ?_, hs, by simp, he⟩
  · simp only [Instr.makeMap, Sem.run_bind, run_newObj, Result.andThen_ok, Sem.run_pure, World.alloc_eq]
  · exact .map _ _ (by simp) fun l hl => by simp at hl; rw [← hl]
end

/-! ### unsafe.SliceData, unsafe.String; pointers held against themselves -/
def asliceData (A : St) : Value → Option (Value × St)
  | .slice none _ _ => some (.pointer none, A)
  | .slice (some ⟨b, off, _⟩) len _ => if len = 0 then none else some (.pointer (some ⟨b, off, none⟩), A)
  | _ => none
def aunsafeStr (P : Program) (A : St) (pt : TypeId) (p : Option Addr) (n : Int) : Option (Value × St) :=
  if n = 0 then some (.string .empty, A) else
  if n < 0 ∨ 9223372036854775807 < n then none else
  match p, P.underlying pt with
  | some ⟨b, off, _⟩, some (.pointer e) =>
    match A.get b, tsz P e with
    | some (.cells cs e' (some _)), some 1 =>
      if e' = e ∧ off + n.toNat ≤ cs.length then (intsOf .u8 ((cs.drop off).take n.toNat)).map fun ns => (.string (strOfNums ns), A.upd b none) else none
    | _, _ => none
  | _, _ => none
/-- A pointer held against itself. -/
def asame (P : Program) (A : St) (op : BinOp) (t : TypeId) (p q : Addr) : Option Value :=
  match P.underlying t, A.get p.block with
  | some (.pointer te), some _ =>
    if p = q ∧ (P.info? te).isSome = true then
      match op with
      | .eql => some (.bool true)
      | .neq => some (.bool false)
      | _ => none
    else none
  | _, _ => none
def abinA (P : Program) (A : St) (op : BinOp) (t : TypeId) (xo yo : Operand) (x y : Value) : Option Value :=
  match x, y with
  | .pointer (some p), .pointer (some q) => asame P A op t p q
  | _, _ => abin P op t xo yo x y

section
variable {P : Program} {w0 : World} {φ : Nat → Option Loc} {A : St} {w : World}
theorem Sim.other (h : Sim w0 φ A w) {g : Nat} (hno : ∀ c m, φ c = some m → m.block ≠ g) {w' : World} (hbel : Below w0.heap.size w0 w') (hoth : ∀ k, k ≠ g → w'.heap[k]? = w.heap[k]?) : Sim w0 φ A w' :=
  ⟨hbel, fun b B e => let ⟨h1, l, h2, h3⟩ := h.blk b B e; ⟨h1, l, h2, h3.mono (hoth _ (hno b l h2)) (Nat.le_refl _) (Ext.refl _ _)⟩, h.dead, h.inj⟩
theorem liesAt_at {e : TypeId} (hc : P.cellsOf e = 1) (count off n : Nat) (hn : off + n ≤ count) : liesAt P P.depth e count off e n = true := by
  have hd : P.depth = (2 * (P.types.size + Made.depth) + 1) + 1 := rfl
  rw [hd]
  simp only [liesAt, Bool.or_eq_true]
  left
  rw [hd]
  simp [rowAt, hc, hn, sameLayout, Nat.mod_one]
theorem run_loadBytesI : ∀ (l : List Int) (a : Addr) (acc : ByteArray), (∀ j x, l[j]? = some x → w.cell? (a.add j) = some (.int .u8 x)) →
    (loadBytes a acc l.length).run P w = .ok ⟨acc.data ++ (l.map fun n => UInt8.ofNat n.toNat).toArray⟩ w
  | [], a, acc, _ => by simp [loadBytes]
  | x :: l, a, acc, h => by
    have h0 : w.cell? a = some (.int .u8 x) := by
      have := h 0 x rfl
      simpa [Addr.add] using this
    have ih := run_loadBytesI l (a.add 1) (acc.push x.toNat.toUInt8) (fun j y hy => by
      have := h (j + 1) y (by simpa using hy)
      have e : (a.add 1).add j = a.add (j + 1) := by
        unfold Addr.add
        by_cases hj : j = 0
        · subst hj; simp
        · simp [hj]; omega
      rw [e]; exact this)
    simp only [List.length_cons, loadBytes, Sem.run_bind, run_load, h0, Result.andThen]
    rw [ih]
    congr 1
    apply ByteArray.ext
    simp [ByteArray.push]
theorem run_unsafeStr {pt it ty e : TypeId} (hp : P.underlying pt = some (.pointer e)) (hc : P.cellsOf e = 1) {g off cells : Nat} (hsh : w.shape? g = some (e, cells)) (l : List Int) (h0 : l.length ≠ 0) (hn : off + l.length ≤ cells) (h63 : l.length ≤ 9223372036854775807)
    (hcell : ∀ j x, l[j]? = some x → w.cell? ((⟨g, off, none⟩ : Addr).add j) = some (.int .u8 x)) :
    (Builtin.unsafeString_ #[pt, it] ty #[.pointer (some ⟨g, off, none⟩), .int .i64 l.length]).run P w = .ok (.string (strOfNums l)) (w.freeze ⟨g, off, none⟩ l.length) := by
  have hlb := run_loadBytesI (P := P) (w := w) l ⟨g, off, none⟩ .empty hcell
  have hlies := liesAt_at (P := P) hc (cells / P.cellsOf e) off l.length (by rw [hc]; simpa using hn)
  have h63' : ¬ (9223372036854775807 : Int) < (l.length : Int) := by omega
  have hdef : Builtin.unsafeString_ #[pt, it] ty #[.pointer (some ⟨g, off, none⟩), .int .i64 l.length] =
      (do
        let n ← asInt (.int .i64 l.length)
        if n < 0 then runtimePanic (.error "unsafe.String: len out of range")
        if n > IntKind.i64.max then unsupported (.unsafePointer "String: a length above the largest int")
        if n = 0 then pure (.string .empty)
        else if ← variablesAt ⟨g, off, none⟩ (← elemOf pt) n.toNat then do
          let s ← loadBytes ⟨g, off, none⟩ .empty n.toNat
          freeze ⟨g, off, none⟩ n.toNat
          pure (.string s)
        else unsupported (.unsafePointer "String: not so many bytes at ptr")) := rfl
  rw [hdef]
  have hmax : IntKind.i64.max = 9223372036854775807 := rfl
  have hneg : ¬ (l.length : Int) < 0 := by omega
  have he : (⟨(ByteArray.empty).data ++ (l.map fun n => UInt8.ofNat n.toNat).toArray⟩ : ByteArray) = strOfNums l := by apply ByteArray.ext; simp [strOfNums]
  rw [he] at hlb
  simp [asInt, asIntOf, hmax, h63', hneg, h0, variablesAt, hsh, elemOf, run_underlying hp, hlies, hlb]

theorem asliceData_sound (h : Sim w0 φ A w) {ts : Array TypeId} {ty : TypeId} {x cx v : Value} {A' : St} (e : asliceData A x = some (v, A')) (hx : VR φ A.next x cx) :
    ∃ v', (Builtin.unsafeSliceData_ ts ty #[cx]).run P w = .ok v' w ∧ VR φ A.next v v' ∧ A' = A := by
  unfold asliceData at e
  split at e
  · cases e
    rcases hx.slice_inv with ⟨_, _, _, rfl⟩ | ⟨b, off, sp, ca, ccap, e0, _⟩
    · exact ⟨.pointer none, rfl, .ptr0, rfl⟩
    · cases e0
  · rename_i b off sp len cap
    split at e
    · cases e
    · rename_i h0
      cases e
      rcases hx.slice_inv with ⟨e0, _⟩ | ⟨b', off', sp', ca, ccap, e0, rfl, hb, hle, hcc, hloc⟩
      · cases e0
      · cases e0
        refine ⟨.pointer (some ca), Lib.run_unsafeSliceData_row w _ _ _ _ _ (by omega), .ptr _ _ _ hb fun l hl => ?_, rfl⟩
        rcases hloc l hl with ⟨hk, _⟩ | ⟨_, hk⟩
        · exact hk
        · omega
  · cases e
theorem aunsafeStr_sound (h : Sim w0 φ A w) {pt it ty : TypeId} {p : Option Addr} {n : Int} {cp cn v : Value} {A' : St} (e : aunsafeStr P A pt p n = some (v, A')) (hp : VR φ A.next (.pointer p) cp) (hn : VR φ A.next (.int .i64 n) cn) :
    ∃ w' φ', (Builtin.unsafeString_ #[pt, it] ty #[cp, cn]).run P w = .ok v w' ∧ VR φ' A'.next v v ∧ Sim w0 φ' A' w' ∧ A.next ≤ A'.next ∧ Ext A.next φ φ' := by
  obtain rfl := hn.int_inv
  obtain ⟨q, rfl⟩ : ∃ q, cp = .pointer q := by cases hp <;> exact ⟨_, rfl⟩
  unfold aunsafeStr at e
  split at e
  · rename_i h0
    subst h0
    cases e
    exact ⟨w, φ, Lib.run_unsafeString_none w _ _ _ _, .string _, h, Nat.le_refl _, Ext.refl _ _⟩
  · rename_i h0
    split at e
    · cases e
    · rename_i hr
      split at e
      · rename_i b off sp el hpt
        split at e
        · rename_i cs e' k hg hsz
          split at e
          · rename_i hc
            obtain ⟨rfl, hle⟩ := hc
            simp only [Option.map_eq_some_iff, Prod.mk.injEq] at e
            obtain ⟨ns, hns, rfl, rfl⟩ := e
            obtain ⟨_, l, hl, C, fr, a1, a2, a3, a4, a5⟩ := h.blk b _ hg
            obtain ⟨ca, hq, _, _, hca⟩ := hp.ptr_inv
            cases hq
            obtain rfl := hca l hl
            have hl1 := intsOf_at hns
            have hlen : ns.length = n.toNat := by have := congrArg List.length hl1; simp at this; omega
            have hnn : n = (ns.length : Int) := by omega
            subst hnn
            obtain ⟨ti, hti, htj⟩ := tsz_info hsz
            have hkill := h.kill b
            have hrun := run_unsafeStr (P := P) (w := w) (pt := pt) (it := it) (ty := ty) hpt (show P.cellsOf e' = 1 by simp [Program.cellsOf, hti, htj]) (g := l.block) (off := l.base + off) (cells := C.size) (by simp [World.shape?, a1]) ns (by omega) (by omega) (by omega) (fun j x hj => by
              have hjl : j < ns.length := (List.getElem?_eq_some_iff.1 hj).1
              have hci : cs[off + j]? = some (.int .u8 x) := by
                have := congrArg (fun l => l[j]?) hl1
                simp only [List.getElem?_take, List.getElem?_drop, List.getElem?_map, hj] at this
                rw [if_pos (by omega)] at this
                exact this
              obtain ⟨l', v', hl', hv1, hv2⟩ := h.cell hg hci
              rw [hl] at hl'; cases hl'
              rw [Addr.add_lit, show l.base + off + j = l.base + (off + j) by omega, hv1, hv2.int_inv])
            refine ⟨_, _, hrun, .string _, ?_, Nat.le_refl _, hkill.2⟩
            refine hkill.1.other (g := l.block) (fun c m hc hm => ?_) (Lib.below_freeze h.below (a5 k rfl).1.1 _) (fun j hj => ?_)
            · by_cases hcb : c = b
              · simp [hcb] at hc
              · simp only [if_neg hcb] at hc
                have := h.inj b c l m (by omega) hl hc hm.symm
                rw [hg] at this; exact this
            · unfold World.freeze
              split
              · rfl
              · simp only [Array.getElem?_modify]; rw [if_neg (by omega)]
          · cases e
        · cases e
      · cases e

theorem asame_sound (h : Sim w0 φ A w) {op : BinOp} {t : TypeId} {xo yo : Operand} {p q : Addr} {cx cy v : Value} (e : asame P A op t p q = some v) (hx : VR φ A.next (.pointer (some p)) cx) (hy : VR φ A.next (.pointer (some q)) cy) :
    (do eqGuard op t xo yo cx cy; binOp op t cx cy).run P w = .ok v w ∧ VR φ A.next v v := by
  unfold asame at e
  split at e
  · rename_i te B ht hB
    split at e
    · rename_i hc
      obtain ⟨rfl, hi⟩ := hc
      obtain ⟨b, off, sp⟩ := p
      obtain ⟨_, l, hl, _⟩ := h.blk b B hB
      obtain ⟨ca, rfl, _, _, h1⟩ := hx.ptr_inv
      obtain ⟨cb, rfl, _, _, h2⟩ := hy.ptr_inv
      obtain rfl := h1 l hl
      obtain rfl := h2 l hl
      obtain ⟨ti, hti⟩ := Option.isSome_iff_exists.1 hi
      rw [eqGuard_at_pointer]
      simp only [pure_bind]
      have heq : ∀ d : Nat, (Op.equalIn (d + 1) t (.pointer (some ⟨l.block, l.base + off, none⟩)) (.pointer (some ⟨l.block, l.base + off, none⟩))).run P w = .ok true w := fun d => by
        simp [Op.equalIn, run_underlying ht, sizeOf, typeInfo, hti, run_sameAddr_same]
      split at e
      · cases e
        exact ⟨eql_run rfl (equal_run (heq 9999)), .bool _⟩
      · cases e
        exact ⟨neq_run rfl (equal_run (heq 9999)), .bool _⟩
      · cases e
    · cases e
  · cases e
theorem abinA_sound (h : Sim w0 φ A w) {op : BinOp} {t : TypeId} {xo yo xo' yo' : Operand} {x y cx cy v : Value} (hc : isC xo = isC xo') (hc' : isC yo = isC yo') (e : abinA P A op t xo yo x y = some v) (hx : VR φ A.next x cx) (hy : VR φ A.next y cy) :
    (do eqGuard op t xo' yo' cx cy; binOp op t cx cy).run P w = .ok v w ∧ VR φ A.next v v := by
  unfold abinA at e
  split at e
  · exact asame_sound h e hx hy
  · exact abin_sound hc hc' e hx hy
end
end Go.Fw

/-! One operation, whichever it is (but for calls of Go functions, panics, deferred calls). -/
set_option linter.unusedSimpArgs false
set_option linter.unusedVariables false
namespace Go.Fw
open Go.RowKit

def okO : Operand → Bool
  | .const v => plainV v
  | .global _ => false
  | _ => true

def anilCheck : Value → Option Value
  | .pointer (some a) => some (.pointer (some a))
  | .func (.func f) a b => some (.func (.func f) a b)
  | .func (.yield l) a b => some (.func (.yield l) a b)
  | _ => none
def notYield : Fn → Bool
  | .yield _ => false
  | _ => true
/-- clear, of a slice. -/
def aclear (P : Program) (A : St) (t : TypeId) (d : Value) : Option St :=
  match telem P t with
  | none => none
  | some e =>
    match d with
    | .slice base n _ =>
      if n = 0 then some A else
      match base with
      | none => none
      | some ⟨b, off, _⟩ =>
        match tzero P e with
        | none => none
        | some z =>
          match A.get b with
          | some (.cells cs e' (some m)) =>
            if m ≤ off ∧ off + (Builtin.zeroCells z.cells n).size ≤ cs.length ∧ (Builtin.zeroCells z.cells n).toList.all plain1 = true then some (A.upd b (some (.cells (setList cs off (Builtin.zeroCells z.cells n).toList) e' (some m)))) else none
          | _ => none
    | _ => none
def abuiltin (P : Program) (A : St) (b : Builtin) (ts : List TypeId) (xs : List Value) : Option (Value × St) :=
  match b, ts, xs with
  | .append, [sT, xT], [s, x] => aappend P A sT xT s x
  | .copy, [dT, _], [d, x] => acopy P A dT d x
  | .len, [t], [x] => (alen P t x).map (·, A)
  | .clear, [t], [x] => (aclear P A t x).map fun A' => (.tuple #[], A')
  | .min, _, xs => (amm false xs).map (·, A)
  | .max, _, xs => (amm true xs).map (·, A)
  | .unsafeSliceData, _, [x] => asliceData A x
  | .unsafeString, [pt, _], [.pointer p, .int .i64 n] => aunsafeStr P A pt p n
  | _, _, _ => none

def aop0 (P : Program) (op : Op) (ρ : Operand → Value) (A : St) : Option (Value × St) :=
  match op with
  | .move x | .assign x => some (ρ x, A)
  | .pick c a b => match ρ c with | .bool t => some (if t then ρ a else ρ b, A) | _ => none
  | .alloc t => (tzero P t).map fun z => (.pointer (some ⟨A.next, 0, none⟩), A.alloc (.cells z.cells.toList t (some 0)))
  | .box t x => some (.pointer (some ⟨A.next, 0, none⟩), A.alloc (.cells (ρ x).cells.toList t (some 0)))
  | .build t parts => (abuild P t (parts.map fun (i, x) => (i, ρ x))).map (·, A)
  | .buildSlice t len parts => abuildSlice P A t len (parts.map fun (i, x) => (i, ρ x))
  | .load t a => (aload P A t (ρ a)).map (·, A)
  | .store t a x => (astore P A t (ρ a) (ρ x)).map (undef, ·)
  | .nilCheck x => (anilCheck (ρ x)).map (·, A)
  | .binOp op t x y _ => (if t = bptr then abinA P A op t x y (ρ x) (ρ y) else abin P op t x y (ρ x) (ρ y)).map (·, A)
  | .makeMap _ none => some (.map (some A.next), A.alloc (.smap []))
  | .lookup t x k ok => (alookup P A t (ρ x) (ρ k) ok).map (·, A)
  | .mapUpdate t m k x => (amapSet P A t (ρ m) (ρ k) (ρ x)).map (undef, ·)
  | .unOp op _ x => (aun op (ρ x)).map (·, A)
  | .convert s d x => aconv P A s d (ρ x)
  | .makeInterface t x => (amkIface P t (ρ x)).map (·, A)
  | .makeFunc fn f c => if notYield fn then some (.func fn (f.map ρ) (c.map ρ), A) else none
  | .makeSlice t l c => amakeSlice P A t (ρ l) (ρ c)
  | .slice t x lo hi mx => (aslice P t (ρ x) (lo.map ρ) (hi.map ρ) (mx.map ρ)).map (·, A)
  | .fieldAddr s x f => (afieldAddr P s (ρ x) f).map (·, A)
  | .field s x f => (afield P s (ρ x) f).map (·, A)
  | .indexAddr t x i => (aindexAddr P t (ρ x) (ρ i)).map (·, A)
  | .index t x i => (aindex P t (ρ x) (ρ i)).map (·, A)
  | .extract x i => (aextract (ρ x) i).map (·, A)
  | .typeAssert x _ t ok => (aassert P (ρ x) t ok).map (·, A)
  | .call { callee := .builtin b, args, argTypes } => abuiltin P A b argTypes.toList (args.toList.map ρ)
  | _ => none
def aop (P : Program) (op : Op) (ρ : Operand → Value) (A : St) : Option (Value × St) := if op.operands.all okO then aop0 P op ρ A else none

section
variable {P : Program} {w0 : World} {φ : Nat → Option Loc} {A : St} {w : World}

theorem alen_sound {n : Nat} {t ty : TypeId} {x cx v : Value} (e : alen P t x = some v) (hx : VR φ n x cx) : (Builtin.len_ #[t] ty #[cx]).run P w = .ok v w ∧ VR φ n v v := by
  unfold alen at e
  split at e
  · rename_i s h; cases e; obtain rfl := hx.string_inv
    exact ⟨by simp only [Builtin.len_, List.getElem?_toArray, List.getElem?_cons_zero, Sem.run_bind, run_und h, Result.andThen_ok, Sem.run_pure, goInt], .int _ _⟩
  · rename_i m el h; cases e
    exact ⟨by simp only [Builtin.len_, List.getElem?_toArray, List.getElem?_cons_zero, Sem.run_bind, run_und h, Result.andThen_ok, Sem.run_pure, goInt], .int _ _⟩
  · rename_i el a m c h; cases e
    obtain ⟨a', c', rfl⟩ : ∃ a' c', cx = .slice a' m c' := by
      rcases hx.slice_inv with ⟨_, rfl, _, e⟩ | ⟨_, _, _, _, _, _, e, _⟩ <;> exact ⟨_, _, e⟩
    exact ⟨by simp only [Builtin.len_, List.getElem?_toArray, List.getElem?_cons_zero, Sem.run_bind, run_und h, Result.andThen_ok, Sem.run_pure, goInt], .int _ _⟩
  · rename_i k el h; cases e; cases hx
    exact ⟨by simp only [Builtin.len_, List.getElem?_toArray, List.getElem?_cons_zero, Sem.run_bind, run_und h, Result.andThen_ok, Sem.run_pure, goInt], .int _ _⟩
  · cases e
theorem amm_sound {n : Nat} {mx : Bool} {xs xs' : List Value} {v : Value} (e : amm mx xs = some v) (hx : xs.length = xs'.length) (hr : ∀ (i : Nat) (x x' : Value), xs[i]? = some x → xs'[i]? = some x' → VR φ n x x') :
    ∃ y r', xs' = y :: r' ∧ (r'.foldlM (if mx then Builtin.max2 else Builtin.min2) y).run P w = .ok v w ∧ VR φ n v v := by
  unfold amm at e
  split at e
  · rename_i k a r
    obtain ⟨x', r', rfl⟩ : ∃ x' r', xs' = x' :: r' := by
      cases xs' with
      | nil => simp at hx
      | cons x r => exact ⟨x, r, rfl⟩
    obtain rfl := (hr 0 _ x' rfl rfl).int_inv
    have hr' : ∀ (i : Nat) (y y' : Value), r[i]? = some y → r'[i]? = some y' → VR φ n y y' := fun i y y' a b => hr (i + 1) y y' (by simpa using a) (by simpa using b)
    have hl : r.length = r'.length := by simpa using hx
    clear hx hr
    refine ⟨_, _, rfl, ?_⟩
    induction r generalizing a r' with
    | nil =>
      obtain rfl : r' = [] := List.eq_nil_of_length_eq_zero (by simpa using hl.symm)
      cases e
      exact ⟨rfl, .int _ _⟩
    | cons y r ih =>
      cases r' with
      | nil => simp at hl
      | cons y' r' =>
        have hy := hr' 0 y y' rfl rfl
        simp only [List.foldlM_cons] at e ⊢
        cases y with
        | int k2 b =>
          obtain rfl := hy.int_inv
          simp only [amax2, Option.bind_eq_bind, Option.bind_some] at e
          have hstep : (if mx then Builtin.max2 else Builtin.min2) (.int k a) (.int k2 b) = pure (.int k (if mx then (if b > a then b else a) else (if b < a then b else a))) := by cases mx <;> rfl
          rw [hstep, pure_bind]
          exact ih _ e r' (fun i z z' p q => hr' (i + 1) z z' (by simpa using p) (by simpa using q)) (by simpa using hl)
        | _ => simp [amax2] at e
  · cases e

theorem plain1_cell {v : Value} (h : plain1 v = true) : cell1 v = true := by cases v <;> first | rfl | (simp [plain1] at h)
theorem clear_run0 {t el ty : TypeId} (hel : telem P t = some el) (base : Option Addr) (n c : Nat) (hn : n = 0 := by rfl) : (Builtin.clear_ #[t] ty #[.slice base n c]).run P w = .ok (.tuple #[]) w := by
  subst hn
  unfold Builtin.clear_
  simp only [List.getElem?_toArray, List.getElem?_cons_zero, Sem.run_bind, run_und (telem_und hel), Result.andThen_ok]
  cases base <;> rfl
theorem clear_run1 {t el ty : TypeId} (hel : telem P t = some el) (a : Addr) (n c : Nat) (hn : n ≠ 0) : (Builtin.clear_ #[t] ty #[.slice (some a) n c]).run P w = ((zeroValue el).run P w).andThen fun z w' => ((storeCells a (Builtin.zeroCells z.cells n).toList).run P w').andThen fun _ w'' => .ok (.tuple #[]) w'' := by
  obtain ⟨k, rfl⟩ : ∃ k, n = k + 1 := ⟨n - 1, by omega⟩
  unfold Builtin.clear_
  simp only [List.getElem?_toArray, List.getElem?_cons_zero, Sem.run_bind, run_und (telem_und hel), Result.andThen_ok]
  rfl
theorem aclear_sound (h : Sim w0 φ A w) {t ty : TypeId} {d cd : Value} {A' : St} (e : aclear P A t d = some A') (hd : VR φ A.next d cd) :
    ∃ w', (Builtin.clear_ #[t] ty #[cd]).run P w = .ok (.tuple #[]) w' ∧ Sim w0 φ A' w' ∧ A.next ≤ A'.next := by
  unfold aclear at e
  split at e
  · cases e
  · rename_i el hel
    split at e
    · rename_i base n cap
      split at e
      · rename_i hn
        cases e
        subst hn
        refine ⟨w, ?_, h, Nat.le_refl _⟩
        rcases hd.slice_inv with ⟨rfl, _, _, rfl⟩ | ⟨b, off, sp, ca, ccap, rfl, rfl, _⟩
        · exact clear_run0 hel _ _ _
        · exact clear_run0 hel _ _ _
      · rename_i hn
        rcases base with _ | ⟨b, off, sp⟩
        · cases e
        · simp only at e
          rcases hd.slice_inv with ⟨e0, _⟩ | ⟨b', off', sp', ca, ccap, e0, rfl, hb, hle, hcc, hloc⟩
          · cases e0
          · cases e0
            split at e
            · cases e
            · rename_i z hz
              split at e
              · rename_i cs e' m hg
                split at e
                · rename_i hc
                  obtain ⟨c1, c2, c3⟩ := hc
                  cases e
                  obtain ⟨_, l, hl, _⟩ := h.blk b _ hg
                  rcases hloc l hl with ⟨rfl, hcap⟩ | ⟨c4, _⟩
                  · rw [List.all_eq_true] at c3
                    obtain ⟨w', hr, hs'⟩ := Sim.store (P := P) hl off (Builtin.zeroCells z.cells n).toList (Builtin.zeroCells z.cells n).toList 0 A w cs h hg rfl (fun j v v' a b => by
                      rw [a] at b; cases b
                      have := c3 v (List.mem_of_getElem? a)
                      exact ⟨VR.plain1 this, plain1_cell this⟩) (by omega) (by simpa using c2)
                    refine ⟨w', ?_, hs', Nat.le_refl _⟩
                    rw [clear_run1 hel _ _ _ hn, (run_tzero hz).1, Result.andThen_ok]
                    show ((storeCells ⟨l.block, l.base + off, none⟩ _).run P w).andThen _ = _
                    rw [hr]; rfl
                  · omega
                · cases e
              · cases e
    · cases e
theorem list_args {n : Nat} {ρ ρ' : Operand → Value} (args : Array Operand) (hρ : ∀ x ∈ args, VR φ n (ρ x) (ρ' x)) : ∀ (i : Nat) (x x' : Value), (args.toList.map ρ)[i]? = some x → (args.map ρ').toList[i]? = some x' → VR φ n x x' := by
  intro i x x' a b
  rw [Array.toList_map] at b
  simp only [List.getElem?_map, Option.map_eq_some_iff] at a b
  obtain ⟨y, hy, rfl⟩ := a
  obtain ⟨y', hy', rfl⟩ := b
  rw [hy] at hy'; cases hy'
  exact hρ y (by simpa using List.mem_of_getElem? hy)

theorem abuiltin_sound (h : Sim w0 φ A w) {b : Builtin} {ts : Array TypeId} {ty : TypeId} {cs : Array Bool} {xs : List Value} {xs' : Array Value} {v : Value} {A' : St} (e : abuiltin P A b ts.toList xs = some (v, A')) (hl : xs.length = xs'.size)
    (hr : ∀ (i : Nat) (x x' : Value), xs[i]? = some x → xs'.toList[i]? = some x' → VR φ A.next x x') :
    ∃ v' w' φ', (builtin b ts ty cs xs').run P w = .ok (.value v') w' ∧ VR φ' A'.next v v' ∧ Sim w0 φ' A' w' ∧ A.next ≤ A'.next ∧ Ext A.next φ φ' := by
  obtain ⟨ts⟩ := ts
  obtain ⟨xs'⟩ := xs'
  simp only at e hr hl
  have hl' : xs.length = xs'.length := by simpa using hl
  have two : ∀ x y, xs = [x, y] → ∃ x' y', xs' = [x', y'] ∧ VR φ A.next x x' ∧ VR φ A.next y y' := by
    intro x y hx
    subst hx
    match xs', hl' with
    | [x', y'], _ => exact ⟨x', y', rfl, hr 0 _ _ rfl rfl, hr 1 _ _ rfl rfl⟩
  have one : ∀ x, xs = [x] → ∃ x', xs' = [x'] ∧ VR φ A.next x x' := by
    intro x hx
    subst hx
    match xs', hl' with
    | [x'], _ => exact ⟨x', rfl, hr 0 _ _ rfl rfl⟩
  unfold abuiltin at e
  split at e
  · obtain ⟨x', y', rfl, h1, h2⟩ := two _ _ rfl
    obtain ⟨v', w', φ', q1, q2⟩ := aappend_sound (P := P) (ty := ty) h e h1 h2
    exact ⟨v', w', φ', by simp only [builtin, Sem.run_bind, q1, Result.andThen_ok, Sem.run_pure], q2⟩
  · rename_i dT xT d x
    obtain ⟨x', y', rfl, h1, h2⟩ := two _ _ rfl
    obtain ⟨v', w', φ', q1, q2⟩ := acopy_sound (P := P) (ty := ty) (xT := xT) h e h1 h2
    exact ⟨v', w', φ', by simp only [builtin, Sem.run_bind, q1, Result.andThen_ok, Sem.run_pure], q2⟩
  · obtain ⟨x', rfl, h1⟩ := one _ rfl
    simp only [Option.map_eq_some_iff, Prod.mk.injEq] at e
    obtain ⟨v1, e, rfl, rfl⟩ := e
    obtain ⟨q1, q2⟩ := alen_sound (P := P) (w := w) (ty := ty) e h1
    exact ⟨_, w, φ, by simp only [builtin, Sem.run_bind, q1, Result.andThen_ok, Sem.run_pure], q2, h, Nat.le_refl _, Ext.refl _ _⟩
  · obtain ⟨x', rfl, h1⟩ := one _ rfl
    simp only [Option.map_eq_some_iff, Prod.mk.injEq] at e
    obtain ⟨A1, e, rfl, rfl⟩ := e
    obtain ⟨w', q1, q2, q3⟩ := aclear_sound (P := P) (w := w) (ty := ty) h e h1
    exact ⟨_, w', φ, by simp only [builtin, Sem.run_bind, q1, Result.andThen_ok, Sem.run_pure], .tuple _ _ rfl (fun i v v' a b => by simp at a), q2, q3, Ext.refl _ _⟩
  · simp only [Option.map_eq_some_iff, Prod.mk.injEq] at e
    obtain ⟨v1, e, rfl, rfl⟩ := e
    obtain ⟨y, r', rfl, q1, q2⟩ := amm_sound (P := P) (w := w) e hl' hr
    refine ⟨_, w, φ, ?_, q2, h, Nat.le_refl _, Ext.refl _ _⟩
    have q1' : (r'.foldlM Builtin.min2 y).run P w = .ok v1 w := q1
    simp only [builtin, Sem.run_bind, Builtin.min_, q1', Result.andThen_ok, Sem.run_pure]
  · simp only [Option.map_eq_some_iff, Prod.mk.injEq] at e
    obtain ⟨v1, e, rfl, rfl⟩ := e
    obtain ⟨y, r', rfl, q1, q2⟩ := amm_sound (P := P) (w := w) e hl' hr
    refine ⟨_, w, φ, ?_, q2, h, Nat.le_refl _, Ext.refl _ _⟩
    have q1' : (r'.foldlM Builtin.max2 y).run P w = .ok v1 w := q1
    simp only [builtin, Sem.run_bind, Builtin.max_, q1', Result.andThen_ok, Sem.run_pure]
  · obtain ⟨x', rfl, h1⟩ := one _ rfl
    obtain ⟨v', q1, q2, rfl⟩ := asliceData_sound (P := P) (ts := ts.toArray) (ty := ty) h e h1
    exact ⟨v', w, φ, by simp only [builtin, Sem.run_bind, q1, Result.andThen_ok, Sem.run_pure], q2, h, Nat.le_refl _, Ext.refl _ _⟩
  · rename_i pt it p n
    obtain ⟨x', y', rfl, h1, h2⟩ := two _ _ rfl
    obtain ⟨w', φ', q1, q2⟩ := aunsafeStr_sound (P := P) (it := it) (ty := ty) h e h1 h2
    exact ⟨v, w', φ', by simp only [builtin, Sem.run_bind, q1, Result.andThen_ok, Sem.run_pure], q2⟩
  · cases e

theorem orMap {n : Nat} {ρ ρ' : Operand → Value} {x : Option Operand} (h : ∀ y, x = some y → VR φ n (ρ y) (ρ' y)) : OR φ n (x.map ρ) (x.map ρ') := by
  cases x with
  | none => exact .none
  | some y => exact .some (h y rfl)

/-- **One operation**: what is told is what the machine does. -/
theorem aop_sound (h : Sim w0 φ A w) {o : Oper} {ρ ρ' : Operand → Value} (hρ : ∀ x, okO x = true → VR φ A.next (ρ x) (ρ' x)) {v : Value} {A' : St} (e : aop P o.op ρ A = some (v, A')) :
    ∃ nx v' w' φ', (execOp ρ' o).run P w = .ok nx w' ∧ (nx = .value v' ∨ nx = .skip ∧ v' = undef) ∧ VR φ' A'.next v v' ∧ Sim w0 φ' A' w' ∧ A.next ≤ A'.next ∧ Ext A.next φ φ' := by
  have pure_case : ∀ (s : Sem Value) (v v' : Value) (A' : St), (execOp ρ' o = do pure (.value (← s))) → s.run P w = .ok v' w → VR φ A.next v v' → A' = A →
      ∃ nx v' w' φ', (execOp ρ' o).run P w = .ok nx w' ∧ (nx = .value v' ∨ nx = .skip ∧ v' = undef) ∧ VR φ' A'.next v v' ∧ Sim w0 φ' A' w' ∧ A.next ≤ A'.next ∧ Ext A.next φ φ' := by
    intro s v v' A' h1 h2 h3 h4
    subst h4
    exact ⟨.value v', v', w, φ, by rw [h1]; simp only [Sem.run_bind, h2, Result.andThen_ok, Sem.run_pure], .inl rfl, h3, h, Nat.le_refl _, Ext.refl _ _⟩
  have mem_case : ∀ (s : Sem Value) (v : Value) (A' : St), (execOp ρ' o = do pure (.value (← s))) → (∃ v' w' φ', s.run P w = .ok v' w' ∧ VR φ' A'.next v v' ∧ Sim w0 φ' A' w' ∧ A.next ≤ A'.next ∧ Ext A.next φ φ') →
      ∃ nx v' w' φ', (execOp ρ' o).run P w = .ok nx w' ∧ (nx = .value v' ∨ nx = .skip ∧ v' = undef) ∧ VR φ' A'.next v v' ∧ Sim w0 φ' A' w' ∧ A.next ≤ A'.next ∧ Ext A.next φ φ' := by
    intro s v A' h1 ⟨v', w', φ', h2, h3⟩
    exact ⟨.value v', v', w', φ', by rw [h1]; simp only [Sem.run_bind, h2, Result.andThen_ok, Sem.run_pure], .inl rfl, h3⟩
  unfold aop at e
  split at e
  · rename_i hall
    rw [Array.all_eq_true'] at hall
    have hm : ∀ x, x ∈ o.op.operands → VR φ A.next (ρ x) (ρ' x) := fun x hx => hρ x (hall x hx)
    unfold aop0 at e
    split at e
    · rename_i x ho
      cases e
      exact ⟨.value (ρ' x), ρ' x, w, φ, by simp only [execOp, ho, Sem.run_pure], .inl rfl, hm x (by simp [ho, Op.operands]), h, Nat.le_refl _, Ext.refl _ _⟩
    · rename_i x ho
      cases e
      exact ⟨.value (ρ' x), ρ' x, w, φ, by simp only [execOp, ho, Sem.run_pure], .inl rfl, hm x (by simp [ho, Op.operands]), h, Nat.le_refl _, Ext.refl _ _⟩
    · rename_i c a b ho
      split at e
      · rename_i t hc
        cases e
        have h1 := hm c (by simp [ho, Op.operands])
        rw [hc] at h1
        have h1 := h1.bool_inv
        have h2 := hm a (by simp [ho, Op.operands])
        have h3 := hm b (by simp [ho, Op.operands])
        refine ⟨.value (if t then ρ' a else ρ' b), _, w, φ, by simp only [execOp, ho, h1, asBool, pure_bind, Sem.run_pure], .inl rfl, ?_, h, Nat.le_refl _, Ext.refl _ _⟩
        cases t
        · exact h3
        · exact h2
      · cases e
    · rename_i t ho
      simp only [Option.map_eq_some_iff, Prod.mk.injEq] at e
      obtain ⟨z, hz, rfl, rfl⟩ := e
      obtain ⟨hzr, hzp⟩ := run_tzero (P := P) (w := w) hz
      obtain ⟨φ', hs, he, hφ⟩ := h.newCells z.cells z.cells t (CR.plain hzp)
      refine ⟨.value (.pointer (some ⟨w.heap.size, 0, none⟩)), _, _, φ', ?_, .inl rfl, .ptr _ _ _ (by simp) fun l hl => ?_, hs, by simp, he⟩
      · simp only [execOp, ho, Instr.alloc, Sem.run_bind, hzr, Result.andThen_ok, newVar, newRow, run_newObj, Sem.run_pure, World.alloc_eq]
      · rw [hφ] at hl; cases hl; rfl
    · rename_i t x ho
      cases e
      obtain ⟨φ', hs, he, hφ⟩ := h.newCells (ρ x).cells (ρ' x).cells t (CR.of_cells (hm x (by simp [ho, Op.operands])))
      refine ⟨.value (.pointer (some ⟨w.heap.size, 0, none⟩)), _, _, φ', ?_, .inl rfl, .ptr _ _ _ (by simp) fun l hl => ?_, hs, by simp, he⟩
      · simp only [execOp, ho, Instr.box, Sem.run_bind, Result.andThen_ok, newVar, newRow, run_newObj, Sem.run_pure, World.alloc_eq]
      · rw [hφ] at hl; cases hl; rfl
    · rename_i t parts ho
      simp only [Option.map_eq_some_iff, Prod.mk.injEq] at e
      obtain ⟨v1, e, rfl, rfl⟩ := e
      obtain ⟨v', h1, h2⟩ := abuild_sound (P := P) (w := w) (φ := φ) (n := A.next) (parts' := parts.map fun (i, x) => (i, ρ' x)) e (by simp) (fun j x x' a b => by
        simp only [Array.getElem?_map, Option.map_eq_some_iff] at a b
        obtain ⟨y, hy, rfl⟩ := a
        obtain ⟨y', hy', rfl⟩ := b
        rw [hy] at hy'; cases hy'
        exact ⟨rfl, hm _ (by
          have := Array.mem_of_getElem? hy
          simp only [ho, Op.operands, List.mem_toArray, List.mem_map, Array.mem_toList_iff]
          exact ⟨y, this, rfl⟩)⟩)
      exact pure_case _ _ v' _ (by simp only [execOp, ho]) h1 h2 rfl
    · rename_i t len parts ho
      refine mem_case _ _ _ (by simp only [execOp, ho]) (abuildSlice_sound (parts' := parts.map fun (i, x) => (i, ρ' x)) h e (by simp) (fun j x x' a b => ?_))
      simp only [Array.getElem?_map, Option.map_eq_some_iff] at a b
      obtain ⟨y, hy, rfl⟩ := a
      obtain ⟨y', hy', rfl⟩ := b
      rw [hy] at hy'; cases hy'
      exact ⟨rfl, hm _ (by
        have := Array.mem_of_getElem? hy
        simp only [ho, Op.operands, List.mem_toArray, List.mem_map, Array.mem_toList_iff]
        exact ⟨y, this, rfl⟩)⟩
    · rename_i t a ho
      simp only [Option.map_eq_some_iff, Prod.mk.injEq] at e
      obtain ⟨v1, e, rfl, rfl⟩ := e
      obtain ⟨v', h1, h2⟩ := aload_sound (P := P) h e (hm a (by simp [ho, Op.operands]))
      exact pure_case _ _ v' _ (by simp only [execOp, ho]) h1 h2 rfl
    · rename_i t a x ho
      simp only [Option.map_eq_some_iff, Prod.mk.injEq] at e
      obtain ⟨A1, e, rfl, rfl⟩ := e
      obtain ⟨w', h1, h2, h3⟩ := astore_sound (P := P) h e (hm a (by simp [ho, Op.operands])) (hm x (by simp [ho, Op.operands]))
      exact ⟨.skip, undef, w', φ, by simp only [execOp, ho, Sem.run_bind, h1, Result.andThen_ok, Sem.run_pure], .inr ⟨rfl, rfl⟩, VR.undef, h2, by omega, Ext.refl _ _⟩
    · rename_i x ho
      simp only [Option.map_eq_some_iff, Prod.mk.injEq] at e
      obtain ⟨v1, e, rfl, rfl⟩ := e
      have hx := hm x (by simp [ho, Op.operands])
      unfold anilCheck at e
      split at e
      · rename_i a heq
        cases e
        rw [heq] at hx
        obtain ⟨b, off, sp⟩ := a
        have hx' := hx
        obtain ⟨ca, hca, _⟩ := hx.ptr_inv
        rw [hca] at hx'
        exact ⟨.value (.pointer (some ca)), _, w, φ, by simp only [execOp, ho, hca, Sem.run_pure], .inl rfl, hx', h, Nat.le_refl _, Ext.refl _ _⟩
      · rename_i f a b heq
        cases e
        rw [heq] at hx
        obtain ⟨f', c', hfc⟩ : ∃ f' c', ρ' x = .func (.func f) f' c' := by
          generalize ρ' x = y at hx
          cases hx; exact ⟨_, _, rfl⟩
        rw [hfc] at hx
        exact ⟨.value (.func (.func f) f' c'), _, w, φ, by simp only [execOp, ho, hfc, Sem.run_pure], .inl rfl, hx, h, Nat.le_refl _, Ext.refl _ _⟩
      · rename_i l a b heq
        cases e
        rw [heq] at hx
        obtain ⟨l', f', c', hfc⟩ : ∃ l' f' c', ρ' x = .func (.yield l') f' c' := by
          generalize ρ' x = y at hx
          cases hx with
          | func _ _ _ _ _ hfn => exact absurd rfl (hfn l)
          | yield => exact ⟨_, _, _, rfl⟩
        rw [hfc] at hx
        exact ⟨.value (.func (.yield l') f' c'), _, w, φ, by simp only [execOp, ho, hfc, Sem.run_pure], .inl rfl, hx, h, Nat.le_refl _, Ext.refl _ _⟩
      · cases e
    · rename_i op t x y yt ho
      simp only [Option.map_eq_some_iff, Prod.mk.injEq] at e
      obtain ⟨v1, e, rfl, rfl⟩ := e
      have hxy : (do eqGuard op t x y (ρ' x) (ρ' y); binOp op t (ρ' x) (ρ' y)).run P w = .ok v1 w ∧ VR φ A.next v1 v1 := by
        split at e
        · exact abinA_sound (P := P) h (xo' := x) (yo' := y) rfl rfl e (hm x (by simp [ho, Op.operands])) (hm y (by simp [ho, Op.operands]))
        · exact abin_sound (P := P) (w := w) (xo' := x) (yo' := y) rfl rfl e (hm x (by simp [ho, Op.operands])) (hm y (by simp [ho, Op.operands]))
      obtain ⟨h1, h2⟩ := hxy
      exact pure_case _ _ _ _ (by simp only [execOp, ho]) h1 h2 rfl
    · rename_i t ho
      cases e
      exact mem_case _ _ _ (by simp only [execOp, ho, Option.map_none]) (makeMap_sound h t)
    · rename_i t x k ok ho
      simp only [Option.map_eq_some_iff, Prod.mk.injEq] at e
      obtain ⟨v1, e, rfl, rfl⟩ := e
      obtain ⟨h1, h2⟩ := alookup_sound (P := P) h e (hm x (by simp [ho, Op.operands])) (hm k (by simp [ho, Op.operands]))
      exact pure_case _ _ _ _ (by simp only [execOp, ho]) h1 h2 rfl
    · rename_i t m k x ho
      simp only [Option.map_eq_some_iff, Prod.mk.injEq] at e
      obtain ⟨A1, e, rfl, rfl⟩ := e
      obtain ⟨w', h1, h2, h3⟩ := amapSet_sound (P := P) h e (hm m (by simp [ho, Op.operands])) (hm k (by simp [ho, Op.operands])) (hm x (by simp [ho, Op.operands]))
      exact ⟨.skip, undef, w', φ, by simp only [execOp, ho, Sem.run_bind, h1, Result.andThen_ok, Sem.run_pure], .inr ⟨rfl, rfl⟩, VR.undef, h2, by omega, Ext.refl _ _⟩
    · rename_i op t x ho
      simp only [Option.map_eq_some_iff, Prod.mk.injEq] at e
      obtain ⟨v1, e, rfl, rfl⟩ := e
      obtain ⟨h1, h2⟩ := aun_sound (P := P) (w := w) e (hm x (by simp [ho, Op.operands]))
      exact pure_case _ _ _ _ (by simp only [execOp, ho]) h1 h2 rfl
    · rename_i s d x ho
      exact mem_case _ _ _ (by simp only [execOp, ho]) (aconv_sound h e (hm x (by simp [ho, Op.operands])))
    · rename_i t x ho
      simp only [Option.map_eq_some_iff, Prod.mk.injEq] at e
      obtain ⟨v1, e, rfl, rfl⟩ := e
      obtain ⟨v', h1, h2⟩ := amkIface_sound (P := P) (w := w) e (hm x (by simp [ho, Op.operands]))
      exact pure_case _ _ v' _ (by simp only [execOp, ho]) h1 h2 rfl
    · rename_i fn f c ho
      split at e
      · rename_i hfn
        cases e
        have h1 : CR φ A.next (f.map ρ) (f.map ρ') := CR.map f ρ ρ' fun x hx => hm x (by simp [ho, Op.operands, hx])
        have h2 : CR φ A.next (c.map ρ) (c.map ρ') := CR.map c ρ ρ' fun x hx => hm x (by simp [ho, Op.operands, hx])
        refine ⟨.value (.func fn (f.map ρ') (c.map ρ')), _, w, φ, by simp only [execOp, ho, Instr.makeFunc, pure_bind, Sem.run_pure], .inl rfl, .func _ _ _ _ _ (fun l hl => ?_) h1.1 h2.1 h1.2 h2.2, h, Nat.le_refl _, Ext.refl _ _⟩
        subst hl; simp [notYield] at hfn
      · cases e
    · rename_i t l c ho
      exact mem_case _ _ _ (by simp only [execOp, ho]) (amakeSlice_sound h e (hm l (by simp [ho, Op.operands])) (hm c (by simp [ho, Op.operands])))
    · rename_i t x lo hi mx ho
      simp only [Option.map_eq_some_iff, Prod.mk.injEq] at e
      obtain ⟨v1, e, rfl, rfl⟩ := e
      obtain ⟨v', h1, h2⟩ := aslice_sound (P := P) (w := w) e (hm x (by simp [ho, Op.operands])) (orMap (x := lo) fun y hy => hm y (by simp [ho, Op.operands, hy])) (orMap (x := hi) fun y hy => hm y (by simp [ho, Op.operands, hy])) (orMap (x := mx) fun y hy => hm y (by simp [ho, Op.operands, hy]))
      exact pure_case _ _ v' _ (by simp only [execOp, ho]) h1 h2 rfl
    · rename_i s x f ho
      simp only [Option.map_eq_some_iff, Prod.mk.injEq] at e
      obtain ⟨v1, e, rfl, rfl⟩ := e
      obtain ⟨v', h1, h2⟩ := afieldAddr_sound (P := P) (w := w) e (hm x (by simp [ho, Op.operands]))
      exact pure_case _ _ v' _ (by simp only [execOp, ho]) h1 h2 rfl
    · rename_i s x f ho
      simp only [Option.map_eq_some_iff, Prod.mk.injEq] at e
      obtain ⟨v1, e, rfl, rfl⟩ := e
      obtain ⟨v', h1, h2⟩ := afield_sound (P := P) (w := w) e (hm x (by simp [ho, Op.operands]))
      exact pure_case _ _ v' _ (by simp only [execOp, ho]) h1 h2 rfl
    · rename_i t x i ho
      simp only [Option.map_eq_some_iff, Prod.mk.injEq] at e
      obtain ⟨v1, e, rfl, rfl⟩ := e
      obtain ⟨v', h1, h2⟩ := aindexAddr_sound (P := P) (w := w) e (hm x (by simp [ho, Op.operands])) (hm i (by simp [ho, Op.operands]))
      exact pure_case _ _ v' _ (by simp only [execOp, ho]) h1 h2 rfl
    · rename_i t x i ho
      simp only [Option.map_eq_some_iff, Prod.mk.injEq] at e
      obtain ⟨v1, e, rfl, rfl⟩ := e
      obtain ⟨v', h1, h2⟩ := aindex_sound (P := P) (w := w) e (hm x (by simp [ho, Op.operands])) (hm i (by simp [ho, Op.operands]))
      exact pure_case _ _ v' _ (by simp only [execOp, ho]) h1 h2 rfl
    · rename_i x i ho
      simp only [Option.map_eq_some_iff, Prod.mk.injEq] at e
      obtain ⟨v1, e, rfl, rfl⟩ := e
      obtain ⟨v', h1, h2⟩ := aextract_sound (P := P) (w := w) e (hm x (by simp [ho, Op.operands]))
      exact pure_case _ _ v' _ (by simp only [execOp, ho]) h1 h2 rfl
    · rename_i x xt t ok ho
      simp only [Option.map_eq_some_iff, Prod.mk.injEq] at e
      obtain ⟨v1, e, rfl, rfl⟩ := e
      obtain ⟨v', h1, h2⟩ := aassert_sound (P := P) (w := w) (xt := xt) e (hm x (by simp [ho, Op.operands]))
      exact pure_case _ _ v' _ (by simp only [execOp, ho]) h1 h2 rfl
    · rename_i b args ts ho
      obtain ⟨v', w', φ', h1, h2⟩ := abuiltin_sound (P := P) (ty := o.type) (cs := args.map fun | .const _ => true | _ => false) (xs' := args.map ρ') h e (by simp) (list_args args fun x hx => hm x (by simp [ho, Op.operands, Call.operands, hx]))
      exact ⟨.value v', v', w', φ', by simp only [execOp, ho, resolve, pure_bind, invoke]; exact h1, .inl rfl, h2⟩
    · cases e
  · cases e
end
end Go.Fw

/-! What is said of code and of calls, over abstract heaps. -/
set_option linter.unusedSimpArgs false
set_option linter.unusedVariables false
namespace Go.Fw
open Go.RowKit

def wideR (rd : Option Nat) : Fence := { Fence.wide with round := rd }
/-- Deferred calls, one by one. -/
inductive DR (φ : Nat → Option Loc) (n : Nat) : Deferred → Deferred → Prop
  | fn (f : Fn) (c c' args args' : Array Value) (hf : ∀ l, f ≠ .yield l) (hc : CR φ n c c') (ha : CR φ n args args') : DR φ n ⟨.fn f c, args⟩ ⟨.fn f c', args'⟩
  | coll (r r' : Nat) (hr : r < n) (h : ∀ l, φ r = some l → r' = l.block) : DR φ n ⟨.collected r, #[]⟩ ⟨.collected r', #[]⟩
inductive DsR (φ : Nat → Option Loc) (n : Nat) : List Deferred → List Deferred → Prop
  | nil : DsR φ n [] []
  | cons {d d' : Deferred} {ds ds' : List Deferred} (h : DR φ n d d') (t : DsR φ n ds ds') : DsR φ n (d :: ds) (d' :: ds')
inductive ChR (φ : Nat → Option Loc) (n : Nat) : List PanicEntry → List PanicEntry → Prop
  | nil : ChR φ n [] []
  | cons {v v' : Value} {r g : Bool} {ds ds' : List PanicEntry} (h : VR φ n v v') (t : ChR φ n ds ds') : ChR φ n (⟨v, r, g⟩ :: ds) (⟨v', r, g⟩ :: ds')
theorem DR.mono {φ φ' : Nat → Option Loc} {n n' : Nat} (hn : n ≤ n') (he : Ext n φ φ') {d d' : Deferred} (h : DR φ n d d') : DR φ' n' d d' := by
  cases h with
  | fn f c c' args args' hf hc ha => exact .fn f c c' args args' hf (hc.mono hn he) (ha.mono hn he)
  | coll r r' hr h => exact .coll r r' (by omega) fun l e => h l (he.some hr e)
theorem DsR.mono {φ φ' : Nat → Option Loc} {n n' : Nat} (hn : n ≤ n') (he : Ext n φ φ') {d d' : List Deferred} (h : DsR φ n d d') : DsR φ' n' d d' := by
  induction h with
  | nil => exact .nil
  | cons h _ ih => exact .cons (h.mono hn he) ih
theorem ChR.mono {φ φ' : Nat → Option Loc} {n n' : Nat} (hn : n ≤ n') (he : Ext n φ φ') {d d' : List PanicEntry} (h : ChR φ n d d') : ChR φ' n' d d' := by
  induction h with
  | nil => exact .nil
  | cons h _ ih => exact .cons (h.mono hn he) ih

def ActR (φ : Nat → Option Loc) (n : Nat) (a ca : Act) : Prop := CR φ n a.tmps ca.tmps ∧ DsR φ n a.defers ca.defers
theorem ActR.mono {φ φ' : Nat → Option Loc} {n n' : Nat} (hn : n ≤ n') (he : Ext n φ φ') {a ca : Act} (h : ActR φ n a ca) : ActR φ' n' a ca := ⟨h.1.mono hn he, h.2.mono hn he⟩
theorem ActR.put {φ : Nat → Option Loc} {n : Nat} {a ca : Act} (h : ActR φ n a ca) (d : Option Tmp) {v v' : Value} (hv : VR φ n v v') : ActR φ n (a.put d v) (ca.put d v') := by
  cases d with
  | none => exact h
  | some d => exact ⟨h.1.set hv d, h.2⟩
theorem CR.getD {φ : Nat → Option Loc} {n : Nat} {c c' : Array Value} (h : CR φ n c c') (i : Nat) : VR φ n (c.getD i Go.undef) (c'.getD i Go.undef) := by
  cases hc : c[i]? with
  | none =>
    have hc' := h.none i hc
    simp only [Array.getD_eq_getD_getElem?, hc, hc', Option.getD_none]; exact VR.undef
  | some v =>
    obtain ⟨v', h1, h2⟩ := h.at i v hc
    simp only [Array.getD_eq_getD_getElem?, hc, h1, Option.getD_some]; exact h2
theorem ActR.eval {φ : Nat → Option Loc} {n : Nat} {a ca : Act} (h : ActR φ n a ca) (x : Operand) (hx : okO x = true) : VR φ n (a.eval x) (ca.eval x) := by
  cases x with
  | tmp t => exact h.1.getD t
  | const v => exact VR.plain hx
  | global g => simp [okO] at hx
  | func f => exact .func _ _ _ _ _ (by intro l hl; cases hl) rfl rfl (by intro i v v' h; simp at h) (by intro i v v' h; simp at h)

inductive ExitR (φ : Nat → Option Loc) (n : Nat) : Exit → Exit → Prop
  | normal : ExitR φ n .normal .normal
  | exit (i : Nat) : ExitR φ n (.exit i) (.exit i)
  | goto (i : Nat) : ExitR φ n (.goto i) (.goto i)
  | ret : ExitR φ n .ret .ret
  | panic {c c' : List PanicEntry} (h : ChR φ n c c') : ExitR φ n (.panic c) (.panic c')
inductive EndR (φ : Nat → Option Loc) (n : Nat) : Ending → Ending → Prop
  | returned {v v' : Value} (h : VR φ n v v') : EndR φ n (.returned v) (.returned v')
  | panicked {c c' : List PanicEntry} (h : ChR φ n c c') : EndR φ n (.panicked c) (.panicked c')

def PostR (w0 : World) (n0 : Nat) (φ : Nat → Option Loc) (Q : Exit → Act → St → Prop) (ce : Exit) (ca : Act) (w : World) : Prop :=
  ∃ e φ' a A, Q e a A ∧ ExitR φ' A.next e ce ∧ Sim w0 φ' A w ∧ ActR φ' A.next a ca ∧ n0 ≤ A.next ∧ Ext n0 φ φ'
def EndP (w0 : World) (n0 : Nat) (φ : Nat → Option Loc) (R : Ending → St → Prop) (ce : Ending) (w : World) : Prop :=
  ∃ e φ' A, R e A ∧ EndR φ' A.next e ce ∧ Sim w0 φ' A w ∧ n0 ≤ A.next ∧ Ext n0 φ φ'

/-- Code, from an activation and a heap on (n0: what the caller may still name; nr: not in a round). -/
def AW (P : Program) (w0 : World) (n0 : Nat) (nr : Bool) (c : Code) (Q : Exit → Act → St → Prop) (a : Act) (A : St) : Prop :=
  ∀ (rd : Option Nat) (φ : Nat → Option Loc) (w : World) (ca : Act), (nr = true → rd = none) → n0 ≤ A.next → Sim w0 φ A w → ActR φ A.next a ca → c.wpIn (wideR rd) 0 P (PostR w0 n0 φ Q) ca w
def Enters (P : Program) (f : Nat) : Prop := ∀ (args : Array Value) (w : World), (callFunc f args).run P w = .ok (.enter f args) w
/-- A call of a Go function. -/
def ACalls (P : Program) (w0 : World) (f : Nat) (args : Array Value) (A : St) (R : Ending → St → Prop) : Prop :=
  Enters P f ∧ ∀ (φ : Nat → Option Loc) (w : World) (ca : Array Value), Sim w0 φ A w → CR φ A.next args ca → CallsIn Fence.wide 0 P f ca w (EndP w0 A.next φ R)
/-- A call of a loop's 'yield'. -/
def AYield (P : Program) (w0 : World) (l : Nat) (args : Array Value) (A : St) (R : Ending → St → Prop) : Prop :=
  ∀ (φ : Nat → Option Loc) (w : World) (ca : Array Value) (l' : Nat), Sim w0 φ A w → CR φ A.next args ca → (∀ loc, φ l = some loc → l' = loc.block) →
    ∃ f tmps asg body, (Instr.yield l' ca).run P w = .ok (.round l' f tmps asg body) w ∧ RoundIn Fence.wide 0 P l' f tmps asg body w (EndP w0 A.next φ R)
/-- A function without a text, by what its call comes to at once. -/
def noBody (P : Program) (f : Nat) : Bool := match P.funcs[f]? with | some fn => fn.body.isNone | none => true
def AExt (P : Program) (w0 : World) (f : Nat) (args : Array Value) (A : St) (R : Ending → St → Prop) : Prop :=
  ∀ (φ : Nat → Option Loc) (w : World) (ca : Array Value), Sim w0 φ A w → CR φ A.next args ca → ∃ cv w', (callFunc f ca).run P w = .ok (.value cv) w' ∧ EndP w0 A.next φ R (.returned cv) w'
def ACallF (P : Program) (w0 : World) (b : Bool) (f : Nat) (args : Array Value) (A : St) (R : Ending → St → Prop) : Prop := if b = true then AExt P w0 f args A R else ACalls P w0 f args A R
def ACallV (P : Program) (w0 : World) (fv : Value) (args : Array Value) (A : St) (R : Ending → St → Prop) : Prop :=
  match fv with
  | .func (.func f) first cap => ACallF P w0 (noBody P f) f (first ++ args ++ cap) A R
  | .func (.yield l) _ _ => AYield P w0 l args A R
  | _ => False

/-- What follows a call. -/
def afterCall (dst : Option Tmp) (a : Act) (next : Act → St → Prop) (Q : Exit → Act → St → Prop) (e : Ending) (A' : St) : Prop :=
  match e with
  | .returned v => next (a.put dst v) A'
  | .panicked ch => Q (.panic ch) a A'
  | .outgrown => False
/-- One operation, with what follows. -/
def aoper (P : Program) (w0 : World) (nr : Bool) (o : Oper) (a : Act) (A : St) (next : Act → St → Prop) (Q : Exit → Act → St → Prop) : Prop :=
  match o.op with
  | .call { callee := .value f, args, argTypes := _ } =>
    (okO f && args.all okO) = true ∧ ACallV P w0 (a.eval f) (args.map a.eval) A (afterCall o.dst a next Q)
  | .panic x =>
    okO x = true ∧ match a.eval x with
    | .iface t v => Q (.panic [⟨.iface t v, false, false⟩]) a A
    | _ => False
  | .defer { callee := .value f, args, argTypes := _ } =>
    nr = true ∧ (okO f && args.all okO) = true ∧ match a.eval f with
    | .func (.func g) first cap => next ({ a with defers := ⟨.fn (.func g) cap, first ++ args.map a.eval⟩ :: a.defers }.put o.dst undef) A
    | _ => False
  | op =>
    match aop P op a.eval A with
    | some (v, A') => next (a.put o.dst v) A'
    | none => False
def aopsI (P : Program) (w0 : World) (nr : Bool) (ops : Array Oper) (Q : Exit → Act → St → Prop) : List Nat → Act → St → Prop
  | [], a, A => Q .normal a A
  | i :: rest, a, A =>
    match ops[i]? with
    | none => aopsI P w0 nr ops Q rest a A
    | some o => if Region.wanted o (yielded ops a.tmps) then aoper P w0 nr o a A (aopsI P w0 nr ops Q rest) Q else aopsI P w0 nr ops Q rest (a.put o.dst undef) A

section
variable {P : Program} {w0 : World} {n0 : Nat} {nr : Bool}

theorem PostR.ext {φ φ1 : Nat → Option Loc} {n1 : Nat} {Q : Exit → Act → St → Prop} {ce : Exit} {ca : Act} {w : World} (he : Ext n1 φ φ1) (hn : n0 ≤ n1) (h : PostR w0 n0 φ1 Q ce ca w) : PostR w0 n0 φ Q ce ca w := by
  obtain ⟨e, φ', a, A, h1, h2, h3, h4, h5, h6⟩ := h
  exact ⟨e, φ', a, A, h1, h2, h3, h4, h5, (he.le hn).trans h6 (Nat.le_refl _)⟩

theorem callsIn_wideR {rd : Option Nat} {n : Nat} {f : FuncId} {args : Array Value} {w : World} {R : Ending → World → Prop} (h : CallsIn Fence.wide 0 P f args w R) : CallsIn (wideR rd) n P f args w R := h.more (Nat.zero_le _)
theorem roundIn_wideR {rd : Option Nat} {n : Nat} {l : Nat} {f : FuncId} {tmps : Array Value} {asg body : Code} {w : World} {R : Ending → World → Prop} (h : RoundIn Fence.wide 0 P l f tmps asg body w R) : RoundIn (wideR rd) n P l f tmps asg body w R :=
  ⟨trivial, fun c cs hr => h.2 c cs (fun d hd => by cases hd)⟩

theorem yielded_rel {φ : Nat → Option Loc} {n : Nat} {a ca : Act} (h : ActR φ n a ca) (ops : Array Oper) : yielded ops ca.tmps = yielded ops a.tmps := by
  funext j
  unfold yielded
  cases hd : ((ops[j]?).bind (·.dst)) with
  | none => rfl
  | some d =>
    simp only [Option.bind_some]
    cases hc : a.tmps[d]? with
    | none => rw [h.1.none d hc]
    | some v =>
      obtain ⟨v', h1, h2⟩ := h.1.at d v hc
      rw [h1]
      cases h2 <;> rfl

theorem aoper_sound {o : Oper} {a : Act} {A : St} {next : Act → St → Prop} {Q : Exit → Act → St → Prop} (h : aoper P w0 nr o a A next Q) {rd : Option Nat} (hrd : nr = true → rd = none) {φ : Nat → Option Loc} {w : World} {ca : Act} (hn : n0 ≤ A.next) (hs : Sim w0 φ A w) (ha : ActR φ A.next a ca)
    {cnext : Act → World → Prop} (hnext : ∀ a' A' φ' ca' w', next a' A' → n0 ≤ A'.next → Sim w0 φ' A' w' → ActR φ' A'.next a' ca' → Ext n0 φ φ' → cnext ca' w') :
    o.wpIn (wideR rd) 0 P ca w cnext (PostR w0 n0 φ Q) := by
  refine ⟨fun _ _ => trivial, ?_⟩
  -- an operation of the plain kind
  have plain : (∀ c, o.op ≠ .defer c) → ∀ v A', aop P o.op a.eval A = some (v, A') → next (a.put o.dst v) A' → o.uponIn (wideR rd) 0 P ca cnext (PostR w0 n0 φ Q) ((o.semAt (wideR rd).round ca.eval).run P w) := by
    intro hnd v A' e hx
    obtain ⟨nx, v', w', φ', h1, h2, h3, h4, h5, h6⟩ := aop_sound (o := o) hs (fun x hx => ha.eval x hx) e
    rw [Oper.semAt_eq _ _ _ hnd, h1]
    have hq := hnext _ _ φ' (ca.put o.dst v') w' hx (by omega) h4 ((ha.mono h5 h6).put o.dst h3) (h6.le hn)
    rcases h2 with rfl | ⟨rfl, rfl⟩
    · exact hq
    · exact hq
  have argsR : ∀ args : Array Operand, args.all okO = true → CR φ A.next (args.map a.eval) (args.map ca.eval) := fun args hall => CR.map args _ _ fun x hx => ha.eval x (by rw [Array.all_eq_true'] at hall; exact hall x hx)
  unfold aoper at h
  split at h
  · rename_i f args ts ho
    obtain ⟨hok, h⟩ := h
    simp only [Bool.and_eq_true] at hok
    have hf := ha.eval f hok.1
    have hargs := argsR args hok.2
    rw [Oper.semAt_eq _ _ _ (by simp [ho])]
    have hex : execOp ca.eval o = (do let d ← Deferred.ofValue (ca.eval f) (args.map ca.eval); invoke d.target d.args) := by simp only [execOp, ho, resolve]
    rw [hex]
    have post : ∀ ce w', EndP w0 A.next φ (afterCall o.dst a next Q) ce w' → (match ce, w' with
        | .returned v, w'' => cnext (ca.put o.dst v) w''
        | .panicked chain, w'' => PostR w0 n0 φ Q (.panic chain) ca w''
        | .outgrown, _ => LetsOut (PostR w0 n0 φ Q)) := by
      rintro ce w' ⟨e, φ', A', h1, h2, h3, h4, h5⟩
      cases h2 with
      | returned hv => exact hnext _ _ φ' _ _ h1 (by omega) h3 ((ha.mono h4 h5).put o.dst hv) (h5.le hn)
      | panicked hc => exact ⟨_, φ', a, A', h1, .panic hc, h3, ha.mono h4 h5, by omega, h5.le hn⟩
    unfold ACallV at h
    split at h
    · rename_i g first cap heq
      rw [heq] at hf
      obtain ⟨first', cap', hcf, c1, c2⟩ : ∃ first' cap', ca.eval f = .func (.func g) first' cap' ∧ CR φ A.next first first' ∧ CR φ A.next cap cap' := by
        generalize ca.eval f = y at hf
        cases hf with | func _ _ f' _ c' hfn h1 h2 h3 h4 => exact ⟨f', c', rfl, ⟨h1, h3⟩, ⟨h2, h4⟩⟩
      rw [hcf]
      simp only [Deferred.ofValue, pure_bind, invoke]
      unfold ACallF at h
      split at h
      · obtain ⟨cv, w', hr, he⟩ := h φ w (first' ++ args.map ca.eval ++ cap') hs ((c1.append hargs).append c2)
        rw [hr]
        exact post (.returned cv) w' he
      rw [h.1]
      have := h.2 φ w (first' ++ args.map ca.eval ++ cap') hs ((c1.append hargs).append c2)
      exact ⟨fun hd => (by cases hd), callsIn_wideR (this.mono post)⟩
    · rename_i l f0 c0 heq
      rw [heq] at hf
      obtain ⟨l', hcf, h2⟩ : ∃ l', ca.eval f = .func (.yield l') #[] #[] ∧ ∀ loc, φ l = some loc → l' = loc.block := by
        generalize ca.eval f = y at hf
        cases hf with
        | func _ _ f' _ c' hfn => exact absurd rfl (hfn l)
        | yield b b' hb h => exact ⟨b', rfl, h⟩
      rw [hcf]
      simp only [Deferred.ofValue, pure_bind, invoke, Array.empty_append]
      obtain ⟨f1, tmps, asg, body, q1, q2⟩ := h φ w (args.map ca.eval) l' hs hargs h2
      rw [q1]
      exact ⟨fun hd => (by cases hd), roundIn_wideR (q2.mono post)⟩
    · exact h.elim
  · rename_i x ho
    obtain ⟨hok, h⟩ := h
    have hx := ha.eval x hok
    rw [Oper.semAt_eq _ _ _ (by simp [ho])]
    split at h
    · rename_i t v heq
      rw [heq] at hx
      obtain ⟨v', hv', hr⟩ := hx.iface_inv
      have : (execOp ca.eval o).run P w = .halt (.panic (.iface t v')) w := by simp [execOp, ho, hv', Instr.panic, goPanic]
      rw [this]
      exact ⟨_, φ, a, A, h, .panic (.cons (.iface _ _ _ hr) .nil), hs, ha, hn, Ext.refl _ _⟩
    · exact h.elim
  · rename_i f args ts ho
    obtain ⟨hnr, hok, h⟩ := h
    obtain rfl := hrd hnr
    simp only [Bool.and_eq_true] at hok
    have hf := ha.eval f hok.1
    have hargs := argsR args hok.2
    split at h
    · rename_i g first cap heq
      rw [heq] at hf
      obtain ⟨first', cap', hcf, c1, c2⟩ : ∃ first' cap', ca.eval f = .func (.func g) first' cap' ∧ CR φ A.next first first' ∧ CR φ A.next cap cap' := by
        generalize ca.eval f = y at hf
        cases hf with | func _ _ f' _ c' hfn h1 h2 h3 h4 => exact ⟨f', c', rfl, ⟨h1, h3⟩, ⟨h2, h4⟩⟩
      have : ((o.semAt (wideR none).round ca.eval).run P w) = .ok (.defer ⟨.fn (.func g) cap', first' ++ args.map ca.eval⟩) w := by
        show (execOp ca.eval o).run P w = _
        simp [execOp, ho, resolve, hcf, Deferred.ofValue]
      rw [this]
      refine hnext _ _ φ _ _ h hn hs (ActR.put (a := { a with defers := ⟨.fn (.func g) cap, first ++ args.map a.eval⟩ :: a.defers }) (ca := { ca with defers := ⟨.fn (.func g) cap', first' ++ args.map ca.eval⟩ :: ca.defers }) ⟨ha.1, .cons (.fn _ _ _ _ _ (by intro l hl; cases hl) c2 (c1.append hargs)) ha.2⟩ o.dst VR.undef) (Ext.refl _ _)
    · exact h.elim
  · rename_i h1 h2 h3
    split at h
    · rename_i v A' e
      by_cases hd : ∀ c, o.op ≠ .defer c
      · exact plain hd v A' e h
      · obtain ⟨c, hc⟩ := Classical.not_forall.1 hd
        have hc := Classical.not_not.1 hc
        rw [hc] at e
        unfold aop at e
        split at e
        · unfold aop0 at e; cases e
        · cases e
    · exact h.elim

theorem aopsI_sound {ops : Array Oper} {Q : Exit → Act → St → Prop} {rd : Option Nat} (hrd : nr = true → rd = none) {φ0 : Nat → Option Loc} : ∀ (l : List Nat) {a : Act} {A : St} {φ : Nat → Option Loc} {w : World} {ca : Act}, aopsI P w0 nr ops Q l a A → n0 ≤ A.next → Sim w0 φ A w → ActR φ A.next a ca → Ext n0 φ0 φ →
    wpOpsIn (wideR rd) 0 P ops (PostR w0 n0 φ0 Q) l ca w
  | [], a, A, φ, w, ca, h, hn, hs, ha, he => ⟨.normal, φ, a, A, h, .normal, hs, ha, hn, he⟩
  | i :: rest, a, A, φ, w, ca, h, hn, hs, ha, he => by
    unfold aopsI at h
    unfold wpOpsIn
    split at h
    · rename_i ho
      simp only [ho]
      exact aopsI_sound hrd rest h hn hs ha he
    · rename_i o ho
      simp only [ho]
      rw [yielded_rel ha]
      split at h
      · rename_i hw
        rw [if_pos hw]
        have := aoper_sound (n0 := n0) h hrd hn hs ha (cnext := wpOpsIn (wideR rd) 0 P ops (PostR w0 n0 φ0 Q) rest) (fun a' A' φ' ca' w' h1 h2 h3 h4 h5 => aopsI_sound hrd rest h1 h2 h3 h4 (he.trans h5 (Nat.le_refl _)))
        refine ⟨this.1, ?_⟩
        have h2 := this.2
        revert h2
        generalize (o.semAt (wideR rd).round ca.eval).run P w = r
        intro h2
        have hp : ∀ ce ca w, PostR w0 n0 φ Q ce ca w → PostR w0 n0 φ0 Q ce ca w := fun ce ca w h => h.ext he (Nat.le_refl _)
        cases r with
        | ok nx w' =>
          cases nx with
          | enter f args => exact ⟨h2.1, h2.2.mono fun e w'' hq => by cases e with | returned v => exact hq | panicked c => exact hp _ _ _ hq | outgrown => obtain ⟨a0, w1, hq⟩ := hq; exact ⟨a0, w1, hp _ _ _ hq⟩⟩
          | round l f tmps asg body => exact ⟨h2.1, h2.2.mono fun e w'' hq => by cases e with | returned v => exact hq | panicked c => exact hp _ _ _ hq | outgrown => obtain ⟨a0, w1, hq⟩ := hq; exact ⟨a0, w1, hp _ _ _ hq⟩⟩
          | _ => exact h2
        | halt x w' =>
          cases x with
          | panic v => exact hp _ _ _ h2
          | _ => exact h2
      · rename_i hw
        rw [if_neg hw]
        exact ⟨fun _ _ => trivial, aopsI_sound hrd rest h hn hs (ha.put o.dst VR.undef) he⟩
end
end Go.Fw

/-! The rules of the code: sequences, branches, loops, regions; ranges over functions; calls out of bodies. -/
set_option linter.unusedSimpArgs false
set_option linter.unusedVariables false
namespace Go.Fw
open Go.RowKit
section
variable {P : Program} {w0 : World} {n0 : Nat} {nr : Bool} {Q : Exit → Act → St → Prop} {a : Act} {A : St}

theorem AW.mono {c : Code} {Q' : Exit → Act → St → Prop} (h : AW P w0 n0 nr c Q a A) (hq : ∀ e a A, Q e a A → Q' e a A) : AW P w0 n0 nr c Q' a A :=
  fun rd φ w ca hrd hn hs ha => wpIn_mono (h rd φ w ca hrd hn hs ha) fun ce ca' w' ⟨e, φ', a', A', h1, h2⟩ => ⟨e, φ', a', A', hq _ _ _ h1, h2⟩

theorem post_here {φ : Nat → Option Loc} {w : World} {ca : Act} {e : Exit} (h : Q e a A) (he : ExitR φ A.next e e) (hn : n0 ≤ A.next) (hs : Sim w0 φ A w) (ha : ActR φ A.next a ca) : PostR w0 n0 φ Q e ca w :=
  ⟨e, φ, a, A, h, he, hs, ha, hn, Ext.refl _ _⟩

theorem aw_skip (h : Q .normal a A) : AW P w0 n0 nr .skip Q a A := fun rd φ w ca hrd hn hs ha => wpIn_skip (post_here h .normal hn hs ha)
theorem aw_label {l : Nat} (h : Q .normal a A) : AW P w0 n0 nr (.label l) Q a A := fun rd φ w ca hrd hn hs ha => wpIn_label (post_here h .normal hn hs ha)
theorem aw_exit {i : Nat} (h : Q (.exit i) a A) : AW P w0 n0 nr (.exit i) Q a A := fun rd φ w ca hrd hn hs ha => wpIn_exit (post_here h (.exit i) hn hs ha)
theorem aw_goto {i : Nat} (h : Q (.goto i) a A) : AW P w0 n0 nr (.goto i) Q a A := fun rd φ w ca hrd hn hs ha => wpIn_goto (post_here h (.goto i) hn hs ha)
theorem aw_ret (h : Q .ret a A) : AW P w0 n0 nr .ret Q a A := fun rd φ w ca hrd hn hs ha => wpIn_ret (post_here h .ret hn hs ha)

def thenQ (next : Act → St → Prop) (Q : Exit → Act → St → Prop) : Exit → Act → St → Prop
  | .normal, a, A => next a A
  | e, a, A => Q e a A

theorem aw_seq {x y : Code} (h : AW P w0 n0 nr x (thenQ (AW P w0 n0 nr y Q) Q) a A) : AW P w0 n0 nr (.seq x y) Q a A := by
  intro rd φ w ca hrd hn hs ha
  refine wpIn_seq (wpIn_mono (h rd φ w ca hrd hn hs ha) ?_)
  rintro ce ca' w' ⟨e, φ', a', A', h1, h2, h3, h4, h5, h6⟩
  cases h2 with
  | normal => exact wpIn_mono (h1 rd φ' w' ca' hrd h5 h3 h4) fun _ _ _ hq => hq.ext h6 (Nat.le_refl _)
  | exit i => exact ⟨_, φ', a', A', h1, .exit i, h3, h4, h5, h6⟩
  | goto i => exact ⟨_, φ', a', A', h1, .goto i, h3, h4, h5, h6⟩
  | ret => exact ⟨_, φ', a', A', h1, .ret, h3, h4, h5, h6⟩
  | panic hc => exact ⟨_, φ', a', A', h1, .panic hc, h3, h4, h5, h6⟩
theorem aw_cond {c : Operand} {x y : Code} {t : Bool} (hc : a.eval c = .bool t) (ho : okO c = true) (ht : t = true → AW P w0 n0 nr x Q a A) (hf : t = false → AW P w0 n0 nr y Q a A) : AW P w0 n0 nr (.cond c x y) Q a A := by
  intro rd φ w ca hrd hn hs ha
  have h1 := ha.eval c ho
  rw [hc] at h1
  refine wpIn_cond (t := t) h1.bool_inv ?_
  cases t with
  | true => exact ht rfl rd φ w ca hrd hn hs ha
  | false => exact hf rfl rd φ w ca hrd hn hs ha

def blockQ (id : Nat) (Q : Exit → Act → St → Prop) : Exit → Act → St → Prop
  | .exit i, a, A => if i = id then Q .normal a A else Q (.exit i) a A
  | e, a, A => Q e a A
theorem aw_block {id : Nat} {c : Code} (h : AW P w0 n0 nr c (blockQ id Q) a A) : AW P w0 n0 nr (.block id c) Q a A := by
  intro rd φ w ca hrd hn hs ha
  refine wpIn_block (wpIn_mono (h rd φ w ca hrd hn hs ha) ?_)
  rintro ce ca' w' ⟨e, φ', a', A', h1, h2, h3, h4, h5, h6⟩
  cases h2 with
  | normal => exact ⟨_, φ', a', A', h1, .normal, h3, h4, h5, h6⟩
  | exit i =>
    simp only [blockQ] at h1
    simp only [Exit.inBlock]
    by_cases hi : i = id
    · rw [if_pos hi] at h1 ⊢; exact ⟨_, φ', a', A', h1, .normal, h3, h4, h5, h6⟩
    · rw [if_neg hi] at h1 ⊢; exact ⟨_, φ', a', A', h1, .exit i, h3, h4, h5, h6⟩
  | goto i => exact ⟨_, φ', a', A', h1, .goto i, h3, h4, h5, h6⟩
  | ret => exact ⟨_, φ', a', A', h1, .ret, h3, h4, h5, h6⟩
  | panic hc => exact ⟨_, φ', a', A', h1, .panic hc, h3, h4, h5, h6⟩

/-- A loop, by what holds at each round's head and a number that falls. -/
theorem aw_loop {c : Code} (I : Nat → Act → St → Prop) (m : Nat) (h0 : I m a A)
    (round : ∀ m a A, I m a A → AW P w0 n0 nr c (thenQ (fun a' A' => ∃ m', m' < m ∧ I m' a' A') Q) a A) : AW P w0 n0 nr (.loop c) Q a A := by
  intro rd φ w ca hrd hn hs ha b k cs hro hb hr
  have key : ∀ j a A φ1 w ca, I j a A → n0 ≤ A.next → Sim w0 φ1 A w → ActR φ1 A.next a ca → Ext n0 φ φ1 →
      ∃ e a' w', PostR w0 n0 φ Q e a' w' ∧ ArrivesIn (Machine.fenced P (wideR rd)) P (lone (b.atR ca (.code c :: .inLoop c :: k)) cs w) b k cs e a' w' := by
    intro j
    induction j using Nat.strongRecOn with
    | _ j ih =>
      intro a A φ1 w ca hI hn hs ha he
      obtain ⟨e, a₁, w₁, hq, harr⟩ := round j a A hI rd φ1 w ca hrd hn hs ha b (.inLoop c :: k) cs hro hb hr
      obtain ⟨e', φ', a', A', h1, h2, h3, h4, h5, h6⟩ := hq
      have he' := he.trans h6 (Nat.le_refl _)
      cases h2 with
      | normal =>
        obtain ⟨j', hlt, hI'⟩ := h1
        obtain ⟨e₂, a₂, w₂, hq₂, harr₂⟩ := ih j' hlt a' A' φ' w₁ a₁ hI' h5 h3 h4 he'
        exact ⟨e₂, a₂, w₂, hq₂, .of_steps (StepsIn.trans harr (.one (fenced_calm hb hr rfl) stepR_inLoop)) harr₂⟩
      | exit id => exact ⟨_, a₁, w₁, ⟨_, φ', a', A', h1, .exit id, h3, h4, h5, he'⟩, .pass (x := .inLoop c) rfl (fun _ _ => .inl (by simp)) harr⟩
      | goto l => exact ⟨_, a₁, w₁, ⟨_, φ', a', A', h1, .goto l, h3, h4, h5, he'⟩, .pass (x := .inLoop c) rfl (fun _ _ => .inl (by simp)) harr⟩
      | ret => exact ⟨_, a₁, w₁, ⟨_, φ', a', A', h1, .ret, h3, h4, h5, he'⟩, .pass (x := .inLoop c) rfl (fun _ _ => .inl (by simp)) harr⟩
      | panic hc => exact ⟨_, a₁, w₁, ⟨_, φ', a', A', h1, .panic hc, h3, h4, h5, he'⟩, .pass (x := .inLoop c) rfl (fun _ _ => .inl (by simp)) harr⟩
  obtain ⟨e, a', w', hq, harr⟩ := key m a A φ w ca h0 hn hs ha (Ext.refl _ _)
  exact ⟨e, a', w', hq, .of_steps (.one (fenced_calm hb hr rfl) stepR_loop) harr⟩

theorem aw_region {id : Nat} {ops : Array Oper} (h : aopsI P w0 nr ops Q (List.range ops.size) a A) : AW P w0 n0 nr (.region id ops false) Q a A :=
  fun rd φ w ca hrd hn hs ha => wpIn_region (aopsI_sound hrd _ h hn hs ha (Ext.refl _ _))
theorem aw_region_draw {id : Nat} {ops : Array Oper} (h : ∀ t, aopsI P w0 nr ops Q (Region.schedule (P.follows .mixedOrders) ops t) a A) : AW P w0 n0 nr (.region id ops true) Q a A :=
  fun rd φ w ca hrd hn hs ha => wpIn_region_draw fun t => aopsI_sound hrd _ (h t) hn hs.drew ha (Ext.refl _ _)

theorem DsR.nil_inv {φ : Nat → Option Loc} {n : Nat} {d : List Deferred} (h : DsR φ n [] d) : d = [] := by cases h; rfl
end

section
variable {P : Program} {w0 : World} {φ : Nat → Option Loc} {A : St} {w : World}
theorem putObj_heap {r : Nat} {o : Obj} {k : Nat} (h : k ≠ r) : (w.putObj r o).heap[k]? = w.heap[k]? := by
  simp only [World.putObj, Array.getElem?_setIfInBounds]
  rw [if_neg (by omega)]
theorem putObj_same {r : Nat} {o o' : Obj} (h : w.heap[r]? = some o') : (w.putObj r o).heap[r]? = some o := by
  have := (Array.getElem?_eq_some_iff.1 h).1
  simp [World.putObj, Array.getElem?_setIfInBounds, this]
theorem Below.putObj {B : Nat} {a : World} (h : Below B a w) {r : Nat} (hr : B ≤ r) (o : Obj) : Below B a (w.putObj r o) :=
  ⟨h.os, h.tape, h.output, by have := h.size; simp [World.putObj]; exact this, fun k hk => (putObj_heap (by omega)).trans (h.block k hk)⟩
theorem Sim.putObj (h : Sim w0 φ A w) {b : Nat} {B B' : Blk} (hb : A.get b = some B) {l : Loc} (hl : φ b = some l) (hnr : ¬ roBlk (some B)) (o : Obj) (hw : w0.heap.size ≤ l.block) (hB : BlkR w0 φ A.next l (w.putObj l.block o) B') : Sim w0 φ (A.upd b (some B')) (w.putObj l.block o) :=
  h.turn hb hl hnr (Below.putObj h.below hw o) (fun k hk _ => putObj_heap hk) hB

/-- The loop's record, turned. -/
theorem Sim.turnLoop (h : Sim w0 φ A w) {b : Nat} {st st' : LoopState} {pe pe' : Option Code} {tm : Array Value} {ps : Array Tmp} {asg body : Code} (hb : A.get b = some (.loop st pe tm ps asg body)) :
    ∃ l r, φ b = some l ∧ w.heap[l.block]? = some (.loop r) ∧ r.state = st ∧ r.pending = pe ∧ CR φ A.next tm r.tmps ∧ r.params = ps ∧ r.assign = asg ∧ r.body = body ∧
      Sim w0 φ (A.upd b (some (.loop st' pe' tm ps asg body))) (w.putObj l.block (.loop { r with state := st', pending := pe' })) := by
  obtain ⟨_, l, hl, h0, tm', fn, df, h1, h2⟩ := h.blk b _ hb
  refine ⟨l, _, hl, h1, rfl, rfl, h2, rfl, rfl, rfl, ?_⟩
  exact h.putObj hb hl (by simp [roBlk]) _ h0 ⟨h0, tm', fn, df, putObj_same h1, h2⟩

def setArgs (tm : Array Value) (ps : Array Tmp) (args : Array Value) : Array Value := (ps.zip args).foldl (fun t (p, v) => t.setIfInBounds p v) tm
theorem CR.setArgs {n : Nat} {tm tm' args args' : Array Value} (ps : Array Tmp) (h : CR φ n tm tm') (k : CR φ n args args') : CR φ n (Fw.setArgs tm ps args) (Fw.setArgs tm' ps args') := by
  obtain ⟨ps⟩ := ps
  obtain ⟨args⟩ := args
  obtain ⟨args'⟩ := args'
  unfold Fw.setArgs
  simp only [List.zip_toArray, List.foldl_toArray']
  induction ps generalizing tm tm' args args' with
  | nil => exact h
  | cons p ps ih =>
    cases args with
    | nil =>
      have := k.1
      obtain rfl : args' = [] := List.eq_nil_of_length_eq_zero (by simpa using this.symm)
      exact h
    | cons v args =>
      cases args' with
      | nil => have := k.1; simp at this
      | cons v' args' =>
        simp only [List.zip_cons_cons, List.foldl_cons]
        exact ih (h.set (k.2 0 v v' (by simp) (by simp)) p) args args' ⟨by have := k.1; simpa using this, fun i x x' a b => k.2 (i + 1) x x' (by simpa using a) (by simpa using b)⟩

/-- How a round ends, by the way its body is left. -/
def roundQ (l : Nat) (R : Ending → St → Prop) (e : Exit) (_ : Act) (A : St) : Prop :=
  ∃ pe tm ps asg body, A.get l = some (.loop .busy pe tm ps asg body) ∧ match e with
    | .normal => R (.returned (.bool true)) (A.upd l (some (.loop .ready none tm ps asg body)))
    | .ret => R (.returned (.bool false)) (A.upd l (some (.loop .done (some .ret) tm ps asg body)))
    | .exit i => R (.returned (.bool false)) (A.upd l (some (.loop .done (some (.exit i)) tm ps asg body)))
    | .goto i => R (.returned (.bool false)) (A.upd l (some (.loop .done (some (.goto i)) tm ps asg body)))
    | _ => False

/-- **A round**: the loop's variables are set, the body runs. -/
theorem ayield {l : Nat} {args : Array Value} {R : Ending → St → Prop} {pe : Option Code} {tm : Array Value} {ps : Array Tmp} {asg body : Code} (hl : A.get l = some (.loop .ready pe tm ps asg body)) (hsz : args.size = ps.size)
    (h : AW P w0 A.next false asg (fun e a1 A1 => e = .normal ∧ ∃ pe1 tm1 ps1 asg1 body1, A1.get l = some (.loop .ready pe1 tm1 ps1 asg1 body1) ∧
      AW P w0 A.next false body (roundQ l R) a1 (A1.upd l (some (.loop .busy pe1 tm1 ps1 asg1 body1)))) { tmps := setArgs tm ps args, defers := [] } A) : AYield P w0 l args A R := by
  intro φ w ca l' hs hc hl'
  obtain ⟨loc, r, hφ, hr, hst, hpe, htm, hps, hasg, hbody, _⟩ := hs.turnLoop (st' := .busy) (pe' := none) hl
  obtain rfl := hl' loc hφ
  subst hps hasg hbody
  refine ⟨r.fn, setArgs r.tmps r.params ca, r.assign, r.body, run_yield hr (hc.1.symm.trans hsz), ?_⟩
  refine roundIn_of_wpIn (F := Fence.wide) trivial ?_
  have h1 := h (some loc.block) φ w { tmps := setArgs r.tmps r.params ca, defers := [] } (by simp) (Nat.le_refl _) hs ⟨htm.setArgs r.params hc, .nil⟩
  refine wpIn_mono h1 ?_
  rintro ce ca1 w1 ⟨e, φ1, a1, A1, ⟨rfl, pe1, tm1, ps1, asg1, body1, hl1, hb1⟩, h2, h3, h4, h5, h6⟩
  cases h2
  have hmine : ∀ loc1, φ1 l = some loc1 → loc1 = loc := fun loc1 e => by
    have := h6.some (hs.blk l _ hl).1 e
    rw [hφ] at this; cases this; rfl
  obtain ⟨loc1, r1, hφ1, hr1, hst1, hpe1, htm1, hps1, hasg1, hbody1, hsim1⟩ := h3.turnLoop (st' := .busy) (pe' := pe1) hl1
  obtain rfl := hmine loc1 hφ1
  subst hpe1
  refine ⟨_, run_beginRound hr1 hst1, ?_⟩
  refine wpIn_mono (hb1 (some loc1.block) φ1 _ ca1 (by simp) h5 hsim1 h4) ?_
  rintro ce2 ca2 w2 ⟨e2, φ2, a2, A2, k1, k2, k3, k4, k5, k6⟩
  have hend : ∀ (jump : Option Code) (st : LoopState), st = (if jump.isNone then .ready else .done) → ∀ pe2 tm2 ps2 asg2 body2, A2.get l = some (.loop .busy pe2 tm2 ps2 asg2 body2) → R (.returned (.bool jump.isNone)) (A2.upd l (some (.loop st jump tm2 ps2 asg2 body2))) →
      ∃ v w', (Instr.endRound loc1.block jump).run P w2 = .ok v w' ∧ EndP w0 A.next φ R (.returned v) w' := by
    intro jump st hst pe2 tm2 ps2 asg2 body2 hg hR
    obtain ⟨loc2, r2, hφ2, hr2, hst2, hpe2, htm2, _, _, _, hsim2⟩ := k3.turnLoop (st' := st) (pe' := jump) hg
    have : loc2 = loc1 := hmine loc2 (k6.some (by have := (h3.blk l _ hl1).1; have := (hs.blk l _ hl).1; exact this) hφ2)
    subst this
    exact ⟨_, _, run_endRound jump hr2, _, φ2, _, hR, .returned (.bool _), by rw [← hst]; exact hsim2, k5, h6.trans k6 (Nat.le_refl _)⟩
  obtain ⟨pe2, tm2, ps2, asg2, body2, hg, k1⟩ := k1
  cases k2 with
  | normal => exact hend none .ready rfl _ _ _ _ _ hg k1
  | ret => exact hend (some .ret) .done rfl _ _ _ _ _ hg k1
  | exit i => exact hend (some (.exit i)) .done rfl _ _ _ _ _ hg k1
  | goto i => exact hend (some (.goto i)) .done rfl _ _ _ _ _ hg k1
  | panic hc => exact k1.elim

/-- **A range over a function** (not within a round): the record is laid, the function is called with 'yield', the jump that a round has left is taken up. -/
theorem aw_rangeFunc {n0 : Nat} {Q : Exit → Act → St → Prop} {a : Act} {g : Operand} {ps : Array Tmp} {asg body : Code} {gf : Nat} {first cap : Array Value} (hg : a.eval g = .func (.func gf) first cap) (hgo : okO g = true)
    (h : ACalls P w0 gf (first ++ #[.func (.yield (A.next + 1)) #[] #[]] ++ cap) ((A.alloc (.dfr false)).alloc (.loop .ready none a.tmps ps asg body)) fun e A2 =>
      ∃ v, e = .returned v ∧ ∃ st pe tm ps' asg' body', A2.get (A.next + 1) = some (.loop st pe tm ps' asg' body') ∧ st ≠ .busy ∧
        match pe with
        | none => Q .normal { a with defers := ⟨.collected A.next, #[]⟩ :: a.defers } (A2.upd (A.next + 1) (some (.loop .exhausted none tm ps' asg' body')))
        | some c => AW P w0 n0 true c Q { a with defers := ⟨.collected A.next, #[]⟩ :: a.defers } (A2.upd (A.next + 1) (some (.loop .exhausted (some c) tm ps' asg' body')))) :
    AW P w0 n0 true (.rangeFunc g ps asg body) Q a A := by
  intro rd φ w ca hrd hn hs ha
  obtain rfl := hrd rfl
  have hf := ha.eval g hgo
  rw [hg] at hf
  obtain ⟨first', cap', hcf, c1, c2⟩ : ∃ first' cap', ca.eval g = .func (.func gf) first' cap' ∧ CR φ A.next first first' ∧ CR φ A.next cap cap' := by
    generalize ca.eval g = y at hf
    cases hf with | func _ _ f' _ c' hfn h1 h2 h3 h4 => exact ⟨f', c', rfl, ⟨h1, h3⟩, ⟨h2, h4⟩⟩
  refine wpIn_rangeFunc fun fn _ => ?_
  -- the two blocks
  obtain ⟨hs1, he1⟩ := hs.new (.dfr false) (.deferred (some [])) ⟨w.heap.size, 0, 0⟩ rfl ⟨hs.old, heap_alloc_new w _⟩
  obtain ⟨φ1, hφ1⟩ : ∃ φ1 : Nat → Option Loc, φ1 = fun m => if m = A.next then some ⟨w.heap.size, 0, 0⟩ else φ m := ⟨_, rfl⟩
  rw [← hφ1] at hs1 he1
  obtain ⟨hs2, he2⟩ := hs1.new (.loop .ready none a.tmps ps asg body) (.loop { state := .ready, pending := none, fn, tmps := ca.tmps, params := ps, assign := asg, body, defers := w.heap.size }) ⟨w.heap.size + 1, 0, 0⟩ (by simp)
    ⟨by have := hs.old; simp; omega, ca.tmps, fn, w.heap.size, by have := heap_alloc_new (w.alloc (.deferred (some []))) (.loop { state := .ready, pending := none, fn, tmps := ca.tmps, params := ps, assign := asg, body, defers := w.heap.size }); simpa using this,
      ha.1.mono (by simp; omega) (he1.trans (fun b hb => .inl (if_neg (by simp; omega))) (Nat.le_refl _))⟩
  obtain ⟨φ2, hφ2⟩ : ∃ φ2 : Nat → Option Loc, φ2 = fun m => if m = (A.alloc (.dfr false)).next then some ⟨w.heap.size + 1, 0, 0⟩ else φ1 m := ⟨_, rfl⟩
  rw [← hφ2] at hs2 he2
  have he : Ext A.next φ φ2 := he1.trans he2 (by simp)
  have hD : φ2 A.next = some ⟨w.heap.size, 0, 0⟩ := by rw [hφ2, hφ1]; simp
  have hL : φ2 (A.next + 1) = some ⟨w.heap.size + 1, 0, 0⟩ := by rw [hφ2]; simp
  have hy : VR φ2 (A.next + 1 + 1) (.func (.yield (A.next + 1)) #[] #[]) (.func (.yield (w.heap.size + 1)) #[] #[]) := .yield _ _ (by omega) fun l e => by rw [hL] at e; cases e; rfl
  have hargs : CR φ2 (A.next + 1 + 1) (first ++ #[.func (.yield (A.next + 1)) #[] #[]] ++ cap) (first' ++ #[.func (.yield (w.heap.size + 1)) #[] #[]] ++ cap') := ((c1.mono (by omega) he).append (CR.one hy)).append (c2.mono (by omega) he)
  obtain ⟨W2, hW2⟩ : ∃ W2, W2 = (w.alloc (.deferred (some []))).alloc (.loop { state := .ready, pending := none, fn, tmps := ca.tmps, params := ps, assign := asg, body, defers := w.heap.size }) := ⟨_, rfl⟩
  rw [← hW2] at hs2
  refine ⟨w.heap.size + 1, [⟨.collected w.heap.size, #[]⟩], W2, ⟨.fn (.func gf) cap', first' ++ #[.func (.yield (w.heap.size + 1)) #[] #[]]⟩, W2, gf, first' ++ #[.func (.yield (w.heap.size + 1)) #[] #[]] ++ cap', W2, (by rw [hW2]; exact run_enterLoop_outer fn ca.tmps ps asg body), ?_, fun _ _ => trivial, ?_, fun hd => (by cases hd), ?_⟩
  · have harr : (#[Operand.const (Value.func (.yield (w.heap.size + 1)) #[] #[])]).map ca.eval = #[Value.func (.yield (w.heap.size + 1)) #[] #[]] := by simp [Act.eval]
    simp only [resolve, rangeCall, hcf, Deferred.ofValue, Sem.run_pure, harr]
  · simp only [invoke]; exact h.1 _ _
  · refine callsIn_wideR ((h.2 φ2 _ _ hs2 hargs).mono ?_)
    rintro ce w3 ⟨e, φ3, A2, ⟨v, rfl, st, pe, tm, ps', asg', body', hg2, hst, hq⟩, k2, k3, k4, k5⟩
    cases k2 with
    | returned hv =>
      obtain ⟨loc, r, hφ3, hr, hrst, hrpe, _, _, _, _, hsim⟩ := k3.turnLoop (st' := .exhausted) (pe' := pe) hg2
      have hloc : loc.block = w.heap.size + 1 := by
        have := k5.some (by simp) hφ3
        rw [hL] at this; cases this; rfl
      rw [← hloc]
      have hne : r.state ≠ .busy := by rw [hrst]; exact hst
      subst hrpe
      refine ⟨r.pending, _, run_endLoop hr hne, ?_⟩
      have hact : ActR φ3 A2.next { a with defers := ⟨.collected A.next, #[]⟩ :: a.defers } { ca with defers := [⟨.collected w.heap.size, #[]⟩] ++ ca.defers } := by
        have k4' : A.next + 1 + 1 ≤ A2.next := k4
        have hm := (ha.mono (n' := A2.next) (by omega) (he.trans k5 (by simp; omega)))
        refine ⟨hm.1, .cons (.coll _ _ (by omega) fun l e => ?_) hm.2⟩
        have := k5.some (by simp; omega) e
        rw [hD] at this; cases this; rfl
      have hext : Ext n0 φ φ3 := (he.trans k5 (by simp; omega)).le hn
      have k4' : A.next + 1 + 1 ≤ A2.next := k4
      cases hp : r.pending with
      | none =>
        simp only [hp] at hq hsim ⊢
        exact ⟨_, φ3, _, _, hq, .normal, hsim, hact, by simp; omega, hext⟩
      | some c =>
        simp only [hp] at hq hsim ⊢
        exact wpIn_mono (hq none φ3 _ _ (by simp) (by simp; omega) hsim hact) fun _ _ _ x => x.ext hext (Nat.le_refl _)
end
end Go.Fw

/-! A call out of a body's walk. -/
set_option linter.unusedSimpArgs false
set_option linter.unusedVariables false
namespace Go.Fw
open Go.RowKit

def ares1 (P : Program) (A : St) (tm : Array Value) : ResultVar → Option Value
  | .tmp t => some (tm.getD t undef)
  | .cell a t => aload P A t (tm.getD a undef)
def aresL (P : Program) (A : St) (tm : Array Value) : List ResultVar → Option (List Value)
  | [] => some []
  | r :: rs => match ares1 P A tm r, aresL P A tm rs with | some v, some vs => some (v :: vs) | _, _ => none
/-- What a body's result variables come to. -/
def aresults (P : Program) (fn : Func) (A : St) (tm : Array Value) : Option Value :=
  match aresL P A tm fn.results.toList with
  | some [v] => some v
  | some vs => some (.tuple vs.toArray)
  | none => none

inductive BndE (n : Nat) : Ending → Prop
  | returned {v : Value} (h : Bnd n v) : BndE n (.returned v)
  | panicked {c : List PanicEntry} (h : ∀ p ∈ c, Bnd n p.v) : BndE n (.panicked c)
/-- The end of a call: as it stands, or without what nobody speaks of any more. -/
def GcE (A : St) (R : Ending → St → Prop) (e : Ending) (A' : St) : Prop := R e A' ∨ ∃ B, Sub B A' ∧ A.next ≤ B.next ∧ WF B ∧ BndE B.next e ∧ R e B

/-- A deferred call of a Go function, at a plain return: it returns. -/
def ADef (P : Program) (w0 : World) (f : Nat) (args : Array Value) (A : St) (R : St → Prop) : Prop :=
  ∀ (φ : Nat → Option Loc) (w : World) (ca : Array Value), Sim w0 φ A w → CR φ A.next args ca → CallsDIn Fence.wide 0 P f ca .returning w fun e u' w' => u' = .returning ∧ ∃ v, e = .returned v ∧ ∃ φ' A', R A' ∧ Sim w0 φ' A' w' ∧ A.next ≤ A'.next ∧ Ext A.next φ φ'
/-- The deferred calls at a plain return: marks of loops over functions, and Go functions that return. -/
def aleave (P : Program) (w0 : World) (fn : Func) (tm : Array Value) (R : Ending → St → Prop) : List Deferred → St → Prop
  | [], A => ∃ v, aresults P fn A tm = some v ∧ R (.returned v) A
  | ⟨.collected D, _⟩ :: ds, A => A.get D = some (.dfr false) ∧ aleave P w0 fn tm R ds (A.upd D (some (.dfr true)))
  | ⟨.fn (.func g) cap, args⟩ :: ds, A => Enters P g ∧ ADef P w0 g (args ++ cap) A fun A' => aleave P w0 fn tm R ds A'
  | _ :: _, _ => False

section
variable {P : Program} {w0 : World} {φ : Nat → Option Loc} {A : St} {w : World}

/-- One result variable, in the machine. -/
def res1 (tm : Array Value) : ResultVar → Sem Value
  | .tmp t => pure (tm.getD t undef)
  | .cell a t => do loadVar t (← asAddr (tm.getD a undef))
theorem results_eq (fn : Func) (tm : Array Value) : results fn tm = (do let vs ← fn.results.mapM (res1 tm); pure (if h : vs.size = 1 then vs[0] else .tuple vs)) := rfl

theorem ares1_sound (h : Sim w0 φ A w) {tm tm' : Array Value} (ht : CR φ A.next tm tm') {r : ResultVar} {v : Value} (e : ares1 P A tm r = some v) :
    ∃ v', (res1 tm' r).run P w = .ok v' w ∧ VR φ A.next v v' := by
  cases r with
  | tmp t => cases e; exact ⟨_, rfl, ht.getD t⟩
  | cell a t =>
    have ha := ht.getD a
    obtain ⟨v', h1, h2⟩ := aload_sound (P := P) h e ha
    refine ⟨v', ?_, h2⟩
    simp only [ares1, aload] at e
    split at e
    · rename_i b off heq
      rw [heq] at ha
      obtain ⟨ca, hca, _⟩ := ha.ptr_inv
      rw [hca] at h1
      simpa [res1, hca, Instr.loadAt, Instr.sureAddr, asAddr] using h1
    · cases e
theorem aresL_sound (h : Sim w0 φ A w) {tm tm' : Array Value} (ht : CR φ A.next tm tm') : ∀ {rs : List ResultVar} {vs : List Value}, aresL P A tm rs = some vs →
    ∃ vs', (rs.mapM (res1 tm')).run P w = .ok vs' w ∧ CR φ A.next vs.toArray vs'.toArray
  | [], vs, e => by cases e; exact ⟨[], rfl, CR.empty⟩
  | r :: rs, vs, e => by
    unfold aresL at e
    split at e
    · rename_i v vs0 h1 h2
      cases e
      obtain ⟨v', q1, q2⟩ := ares1_sound (P := P) h ht h1
      obtain ⟨vs', q3, q4⟩ := aresL_sound h ht h2
      refine ⟨v' :: vs', ?_, ?_⟩
      · simp only [List.mapM_cons, Sem.run_bind, q1, q3, Result.andThen_ok, Sem.run_pure]
      · have := (CR.one q2).append q4
        simpa using this
    · cases e
theorem aresults_sound (h : Sim w0 φ A w) {fn : Func} {tm tm' : Array Value} (ht : CR φ A.next tm tm') {v : Value} (e : aresults P fn A tm = some v) : ∃ v', (results fn tm').run P w = .ok v' w ∧ VR φ A.next v v' := by
  unfold aresults at e
  have key : ∀ vs, aresL P A tm fn.results.toList = some vs → ∃ vs' : Array Value, (fn.results.mapM (res1 tm')).run P w = .ok vs' w ∧ CR φ A.next vs.toArray vs' := by
    intro vs hv
    obtain ⟨vs', h1, h2⟩ := aresL_sound (P := P) h ht hv
    refine ⟨vs'.toArray, ?_, h2⟩
    have : fn.results = fn.results.toList.toArray := by simp
    rw [this, List.mapM_toArray]
    simp only [Sem.run_map, h1, Result.andThen_ok]
  split at e
  · rename_i v0 hv
    cases e
    obtain ⟨vs', h1, h2⟩ := key _ hv
    have hs : vs'.size = 1 := by have := h2.1; simp at this; exact this.symm
    refine ⟨vs'[0], ?_, h2.2 0 _ _ (by simp) (Array.getElem?_eq_getElem (by omega))⟩
    simp only [results_eq, Sem.run_bind]
    rw [h1]
    simp only [Result.andThen_ok, hs, dite_true, Sem.run_pure]
  · rename_i vs hne hv
    cases e
    obtain ⟨vs', h1, h2⟩ := key _ hv
    have hs : vs'.size ≠ 1 := by
      intro h0
      have := h2.1
      simp only [List.size_toArray] at this
      match vs, this with
      | [x], _ => exact hne x rfl
      | [], h3 => simp at h3; omega
      | _ :: _ :: _, h3 => simp at h3; omega
    refine ⟨.tuple vs', ?_, .tuple _ _ h2.1 h2.2⟩
    simp only [results_eq, Sem.run_bind]
    rw [h1]
    simp only [Result.andThen_ok, dif_neg hs, Sem.run_pure]
  · cases e

theorem ChR.cut {n n' : Nat} {c c' : List PanicEntry} (h : ChR φ n c c') (hb : ∀ p ∈ c, Bnd n' p.v) : ChR (Fw.cut n' φ) n' c c' := by
  induction h with
  | nil => exact .nil
  | cons h _ ih => exact .cons (h.cut (hb _ (List.mem_cons_self ..))) (ih fun p hp => hb p (List.mem_cons_of_mem _ hp))

theorem endP_of {R : Ending → St → Prop} {A A' : St} {φ φ' : Nat → Option Loc} {e ce : Ending} {w' : World} (h : GcE A R e A') (he : EndR φ' A'.next e ce) (hs : Sim w0 φ' A' w') (hn : A.next ≤ A'.next) (hx : Ext A.next φ φ') : EndP w0 A.next φ R ce w' := by
  rcases h with h | ⟨B, h1, h2, h3, h4, h5⟩
  · exact ⟨e, φ', A', h, he, hs, hn, hx⟩
  · refine ⟨e, Fw.cut B.next φ', B, h5, ?_, hs.gc h1 h3, h2, hx.cut h2⟩
    cases h4 with
    | returned hb => cases he with | returned hv => exact .returned (hv.cut hb)
    | panicked hb => cases he with | panicked hv => exact .panicked (hv.cut hb)

theorem aleave_sound {R : Ending → St → Prop} {fn : Func} {A0 : St} {φ0 : Nat → Option Loc} : ∀ {ds cds : List Deferred} {A : St} {φ : Nat → Option Loc} {w : World} {tm tm' : Array Value}, aleave P w0 fn tm (GcE A0 R) ds A → Sim w0 φ A w → CR φ A.next tm tm' → DsR φ A.next ds cds → A0.next ≤ A.next → Ext A0.next φ0 φ →
    LeavesInM Fence.wide 0 P fn tm' (EndP w0 A0.next φ0 R) cds .returning w
  | [], cds, A, φ, w, tm, tm', h, hs, ht, hd, hn, hx => by
    obtain rfl := hd.nil_inv
    obtain ⟨v, h1, h2⟩ := h
    obtain ⟨v', q1, q2⟩ := aresults_sound (P := P) hs ht h1
    exact ⟨v', q1, endP_of h2 (.returned q2) hs hn hx⟩
  | ⟨t, args⟩ :: ds, cds, A, φ, w, tm, tm', h, hs, ht, hd, hn, hx => by
    cases hd with
    | cons hdd htt =>
      cases hdd with
      | fn f c c' args args' hf hc ha =>
        cases f with
        | func g =>
          unfold aleave at h
          obtain ⟨hen, h⟩ := h
          refine ⟨by simp, .inr ⟨fun hd => (by cases hd), .func g, c', g, args' ++ c', rfl, by simp only [invoke]; exact hen _ _, fun _ _ => trivial, ?_⟩⟩
          refine (h φ w (args' ++ c') hs (ha.append hc)).mono ?_
          rintro e u' w' ⟨rfl, v, rfl, φ', A', h1, h2, h3, h4⟩
          exact aleave_sound h1 h2 (ht.mono h3 h4) (htt.mono h3 h4) (by omega) (hx.trans h4 hn)
        | _ => unfold aleave at h; exact h.elim
      | coll r r' hr hr' =>
        unfold aleave at h
        obtain ⟨h1, h2⟩ := h
        obtain ⟨_, l, hl, hb0, hb1⟩ := hs.blk r _ h1
        obtain rfl := hr' l hl
        have hsim : Sim w0 φ (A.upd r (some (.dfr true))) (w.putObj l.block (.deferred none)) := hs.putObj h1 hl (by simp [roBlk]) _ hb0 ⟨hb0, putObj_same hb1⟩
        refine ⟨by simp, .inl ⟨l.block, _, rfl, run_takeDeferred hb1, ?_⟩⟩
        exact aleave_sound h2 hsim ht htt hn hx

/-- **A call**, out of its body's walk. -/
theorem acalls_of {f : Nat} {fn : Func} {c : Code} {args : Array Value} {A : St} {R : Ending → St → Prop} (hen : Enters P f) (hf : P.funcs[f]? = some fn) (hb : fn.body = some c)
    (h : WF A → BndA A.next args → AW P w0 A.next true c (fun e a' A' => (e = .normal ∨ e = .ret) ∧ aleave P w0 fn a'.tmps (GcE A R) a'.defers A' ∨ ∃ ch, e = .panic ch ∧ a'.defers = [] ∧ GcE A R (.panicked ch) A') { tmps := args ++ Array.replicate (fn.ntmps - args.size) undef, defers := [] } A) :
    ACalls P w0 f args A R := by
  refine ⟨hen, fun φ w ca hs hc => ?_⟩
  refine callsIn_of_wp_marks (F := Fence.wide) hf hb trivial ?_
  have hact : ActR φ A.next { tmps := args ++ Array.replicate (fn.ntmps - args.size) undef, defers := [] } { tmps := ca ++ Array.replicate (fn.ntmps - ca.size) undef, defers := [] } := by
    refine ⟨?_, .nil⟩
    show CR φ A.next _ _
    have h1 := hc.1
    simp only [← h1]
    exact hc.append (CR.replicate _ VR.undef)
  refine wpIn_mono (h hs.wf hc.bnd none φ w _ (by simp) (Nat.le_refl _) hs hact) ?_
  rintro ce ca' w' ⟨e, φ', a', A', h1, h2, h3, h4, h5, h6⟩
  rcases h1 with ⟨he, h1⟩ | ⟨ch, rfl, hd, h1⟩
  · rcases he with rfl | rfl
    · cases h2; exact aleave_sound h1 h3 h4.1 h4.2 h5 h6
    · cases h2; exact aleave_sound h1 h3 h4.1 h4.2 h5 h6
  · cases h2 with
    | panic hch =>
      have : ca'.defers = [] := by have := h4.2; rw [hd] at this; exact this.nil_inv
      show LeavesInM Fence.wide 0 P fn ca'.tmps _ ca'.defers _ w'
      rw [this]
      exact endP_of h1 (.panicked hch) h3 h5 h6

/-- A deferred call, out of its body's walk. -/
theorem adef_of {f : Nat} {fn : Func} {c : Code} {args : Array Value} {A : St} {R : St → Prop} (hf : P.funcs[f]? = some fn) (hb : fn.body = some c)
    (h : WF A → BndA A.next args → AW P w0 A.next true c (fun e a' A' => (e = .normal ∨ e = .ret) ∧ a'.defers = [] ∧ ∃ v, aresults P fn A' a'.tmps = some v ∧ R A') { tmps := args ++ Array.replicate (fn.ntmps - args.size) undef, defers := [] } A) :
    ADef P w0 f args A R := by
  intro φ w ca hs hc
  have hact : ActR φ A.next { tmps := args ++ Array.replicate (fn.ntmps - args.size) undef, defers := [] } { tmps := ca ++ Array.replicate (fn.ntmps - ca.size) undef, defers := [] } := by
    refine ⟨?_, .nil⟩
    show CR φ A.next _ _
    have h1 := hc.1
    simp only [← h1]
    exact hc.append (CR.replicate _ VR.undef)
  have hbody := callsDIn_of_wp (F := Fence.wide) (n := 0) (u := .returning) (args := ca) (w := w) (R := fun e w' => ∃ v, e = .returned v ∧ ∃ φ' A', R A' ∧ Sim w0 φ' A' w' ∧ A.next ≤ A'.next ∧ Ext A.next φ φ') hf hb trivial (by
    refine wpIn_mono (h hs.wf hc.bnd none φ w _ (by simp) (Nat.le_refl _) hs hact) ?_
    rintro ce ca' w' ⟨e, φ', a', A', ⟨he, hd, v, hv, hR⟩, h2, h3, h4, h5, h6⟩
    have hcd : ca'.defers = [] := by have := h4.2; rw [hd] at this; exact this.nil_inv
    obtain ⟨v', q1, q2⟩ := aresults_sound (P := P) h3 h4.1 hv
    rcases he with rfl | rfl
    · cases h2; exact ⟨hcd, v', q1, v', rfl, φ', A', hR, h3, h5, h6⟩
    · cases h2; exact ⟨hcd, v', q1, v', rfl, φ', A', hR, h3, h5, h6⟩)
  exact hbody.mono fun e u' w' ⟨h1, h2⟩ => ⟨h1, h2⟩
theorem ACalls.mono {f : Nat} {args : Array Value} {A : St} {R R' : Ending → St → Prop} (h : ACalls P w0 f args A R) (hr : ∀ e A', R e A' → R' e A') : ACalls P w0 f args A R' :=
  ⟨h.1, fun φ w ca hs hc => (h.2 φ w ca hs hc).mono fun ce w' ⟨e, φ', A', h1, h2⟩ => ⟨e, φ', A', hr _ _ h1, h2⟩⟩
theorem AExt.mono {f : Nat} {args : Array Value} {A : St} {R R' : Ending → St → Prop} (h : AExt P w0 f args A R) (hr : ∀ e A', R e A' → R' e A') : AExt P w0 f args A R' :=
  fun φ w ca hs hc => let ⟨cv, w', h1, e, φ', A', h2, h3⟩ := h φ w ca hs hc; ⟨cv, w', h1, e, φ', A', hr _ _ h2, h3⟩
theorem ACallF.mono {b : Bool} {f : Nat} {args : Array Value} {A : St} {R R' : Ending → St → Prop} (h : ACallF P w0 b f args A R) (hr : ∀ e A', R e A' → R' e A') : ACallF P w0 b f args A R' := by
  unfold ACallF at h ⊢
  split
  · rename_i hb; rw [if_pos hb] at h; exact h.mono hr
  · rename_i hb; rw [if_neg hb] at h; exact h.mono hr
theorem AYield.mono {l : Nat} {args : Array Value} {A : St} {R R' : Ending → St → Prop} (h : AYield P w0 l args A R) (hr : ∀ e A', R e A' → R' e A') : AYield P w0 l args A R' :=
  fun φ w ca l' hs hc hl => let ⟨f, tm, asg, body, h1, h2⟩ := h φ w ca l' hs hc hl; ⟨f, tm, asg, body, h1, h2.mono fun ce w' ⟨e, φ', A', h3, h4⟩ => ⟨e, φ', A', hr _ _ h3, h4⟩⟩
/-- What is known of the heap at a call may be used. -/
theorem ACalls.wf {f : Nat} {args : Array Value} {A : St} {R : Ending → St → Prop} (hen : Enters P f) (h : WF A → BndA A.next args → ACalls P w0 f args A R) : ACalls P w0 f args A R :=
  ⟨hen, fun φ w ca hs hc => (h hs.wf hc.bnd).2 φ w ca hs hc⟩
theorem enters_of {f : Nat} {fn : Func} {c : Code} (hf : P.funcs[f]? = some fn) (hb : fn.body = some c) (hn : (fn.name == "runtime.NumGoroutine") = false) : Enters P f := by
  intro args w
  simp only [callFunc, Sem.run_bind, run_program, Result.andThen_ok, hf, hn, hb, Option.isNone_some, Bool.false_eq_true, if_false, Sem.run_pure]
end
end Go.Fw

/-! For walks: a region's operations as a list; equations by which a walk is reckoned; a law's end. -/
set_option linter.unusedSimpArgs false
set_option linter.unusedVariables false
namespace Go.Fw
open Go.RowKit

/-- Is an operation wanted: its guard, by the place that the guarding operation writes. -/
def wanted' (ds : List (Option Tmp)) (g : Option (Nat × Bool)) (tm : Array Value) : Bool :=
  match g with
  | none => true
  | some (j, want) => (match ((ds[j]?).bind id).bind (tm[·]?) with | some (.bool b) => some b | _ => none) == some want
def aopsL (P : Program) (w0 : World) (nr : Bool) (ds : List (Option Tmp)) (Q : Exit → Act → St → Prop) : List Oper → Act → St → Prop
  | [], a, A => Q .normal a A
  | o :: rest, a, A => if wanted' ds o.guard a.tmps then aoper P w0 nr o a A (aopsL P w0 nr ds Q rest) Q else aopsL P w0 nr ds Q rest (a.put o.dst undef) A

theorem wanted_eq (ops : Array Oper) (o : Oper) (tm : Array Value) : Region.wanted o (yielded ops tm) = wanted' (ops.toList.map (·.dst)) o.guard tm := by
  unfold Region.wanted wanted'
  cases o.guard with
  | none => rfl
  | some x =>
    obtain ⟨j, want⟩ := x
    simp only [yielded]
    have : ((ops[j]?).bind (·.dst)) = (((ops.toList.map (·.dst))[j]?).bind id) := by
      rw [List.getElem?_map, Array.getElem?_toList]
      cases ops[j]? <;> rfl
    rw [this]
    rfl
theorem aopsI_range {P : Program} {w0 : World} {nr : Bool} {ops : Array Oper} {Q : Exit → Act → St → Prop} : ∀ (m k : Nat), k + m = ops.size → ∀ {a : Act} {A : St}, aopsI P w0 nr ops Q (List.range' k m) a A = aopsL P w0 nr (ops.toList.map (·.dst)) Q (ops.toList.drop k) a A
  | 0, k, h, a, A => by
    rw [List.drop_of_length_le (by simp; omega)]; rfl
  | m + 1, k, h, a, A => by
    have hk : k < ops.size := by omega
    have hd : ops.toList.drop k = ops[k] :: ops.toList.drop (k + 1) := by
      rw [List.drop_eq_getElem_cons (by simpa using hk)]; simp
    rw [hd]
    simp only [List.range'_succ, aopsI, aopsL, Array.getElem?_eq_getElem hk, wanted_eq]
    have hf : (aopsI P w0 nr ops Q (List.range' (k + 1) m)) = aopsL P w0 nr (ops.toList.map (·.dst)) Q (ops.toList.drop (k + 1)) := by
      funext a A; exact aopsI_range m (k + 1) (by omega)
    rw [hf]
section
variable {P : Program} {w0 : World} {n0 : Nat} {nr : Bool} {Q : Exit → Act → St → Prop} {a : Act} {A : St}
theorem aw_reg {id : Nat} {ops : Array Oper} (h : aopsL P w0 nr (ops.toList.map (·.dst)) Q ops.toList a A) : AW P w0 n0 nr (.region id ops false) Q a A := by
  refine aw_region ?_
  rw [List.range_eq_range', aopsI_range ops.size 0 (by omega)]
  exact h

/-- What is to be shown of code without loops. -/
def wpA (P : Program) (w0 : World) (n0 : Nat) (nr : Bool) : Code → (Exit → Act → St → Prop) → Act → St → Prop
  | .skip, Q, a, A => Q .normal a A
  | .label _, Q, a, A => Q .normal a A
  | .exit i, Q, a, A => Q (.exit i) a A
  | .goto i, Q, a, A => Q (.goto i) a A
  | .ret, Q, a, A => Q .ret a A
  | .seq x y, Q, a, A => wpA P w0 n0 nr x (thenQ (wpA P w0 n0 nr y Q) Q) a A
  | .block i c, Q, a, A => wpA P w0 n0 nr c (blockQ i Q) a A
  | .cond (.tmp t) x y, Q, a, A => match a.tmps.getD t undef with | .bool b => (b = true → wpA P w0 n0 nr x Q a A) ∧ (b = false → wpA P w0 n0 nr y Q a A) | _ => False
  | .region _ ops false, Q, a, A => aopsL P w0 nr (ops.toList.map (·.dst)) Q ops.toList a A
  | c, Q, a, A => AW P w0 n0 nr c Q a A
theorem aw_of {c : Code} : ∀ {Q : Exit → Act → St → Prop} {a : Act} {A : St}, wpA P w0 n0 nr c Q a A → AW P w0 n0 nr c Q a A := by
  induction c with
  | skip => exact fun h => aw_skip h
  | label l => exact fun h => aw_label h
  | exit i => exact fun h => aw_exit h
  | goto i => exact fun h => aw_goto h
  | ret => exact fun h => aw_ret h
  | seq x y ihx ihy =>
    intro Q a A h
    refine aw_seq ((ihx h).mono fun e a A h => ?_)
    cases e with
    | normal => exact ihy h
    | _ => exact h
  | block i c ih => exact fun h => aw_block (ih h)
  | cond c x y ihx ihy =>
    intro Q a A h
    cases c with
    | tmp t =>
      simp only [wpA] at h
      split at h
      · rename_i b hb
        exact aw_cond (t := b) hb rfl (fun hb => ihx (h.1 hb)) (fun hb => ihy (h.2 hb))
      · exact h.elim
    | _ => exact h
  | region id ops d =>
    intro Q a A h
    cases d with
    | false => exact aw_reg h
    | true => exact h
  | _ => exact fun h => h

theorem thenQ_normal (K : Act → St → Prop) : thenQ K Q .normal a A = K a A := Eq.trans rfl rfl
theorem thenQ_exit (K : Act → St → Prop) (i : Nat) : thenQ K Q (.exit i) a A = Q (.exit i) a A := Eq.trans rfl rfl
theorem thenQ_ret (K : Act → St → Prop) : thenQ K Q .ret a A = Q .ret a A := Eq.trans rfl rfl
theorem thenQ_panic (K : Act → St → Prop) (c : List PanicEntry) : thenQ K Q (.panic c) a A = Q (.panic c) a A := Eq.trans rfl rfl
theorem blockQ_normal (i : Nat) : blockQ i Q .normal a A = Q .normal a A := Eq.trans rfl rfl
theorem blockQ_ret (i : Nat) : blockQ i Q .ret a A = Q .ret a A := Eq.trans rfl rfl
theorem blockQ_panic (i : Nat) (c : List PanicEntry) : blockQ i Q (.panic c) a A = Q (.panic c) a A := Eq.trans rfl rfl
theorem blockQ_exit (i j : Nat) : blockQ i Q (.exit j) a A = if j = i then Q .normal a A else Q (.exit j) a A := Eq.trans rfl rfl

/-- The end of a function's body. -/
def funQ (P : Program) (w0 : World) (fn : Func) (A : St) (R : Ending → St → Prop) (e : Exit) (a' : Act) (A' : St) : Prop :=
  (e = .normal ∨ e = .ret) ∧ aleave P w0 fn a'.tmps (GcE A R) a'.defers A' ∨ ∃ ch, e = .panic ch ∧ a'.defers = [] ∧ GcE A R (.panicked ch) A'
theorem funQ_ret {fn : Func} {R : Ending → St → Prop} {A' : St} {a' : Act} : funQ P w0 fn A R .ret a' A' = aleave P w0 fn a'.tmps (GcE A R) a'.defers A' := by
  unfold funQ; simp
theorem funQ_normal {fn : Func} {R : Ending → St → Prop} {A' : St} {a' : Act} : funQ P w0 fn A R .normal a' A' = aleave P w0 fn a'.tmps (GcE A R) a'.defers A' := by
  unfold funQ; simp
theorem funQ_panic {fn : Func} {R : Ending → St → Prop} {A' : St} {a' : Act} {ch : List PanicEntry} : funQ P w0 fn A R (.panic ch) a' A' = (a'.defers = [] ∧ GcE A R (.panicked ch) A') := by
  unfold funQ; simp
/-- **A call**, out of what its body comes to. -/
theorem call_of {f : Nat} {fn : Func} {c : Code} {args : Array Value} {R : Ending → St → Prop} (hen : Enters P f) (hf : P.funcs[f]? = some fn) (hb : fn.body = some c)
    (h : WF A → BndA A.next args → wpA P w0 A.next true c (funQ P w0 fn A R) { tmps := args ++ Array.replicate (fn.ntmps - args.size) undef, defers := [] } A) : ACalls P w0 f args A R :=
  acalls_of hen hf hb fun hw hbd => aw_of (h hw hbd)

def St.empty : St := ⟨fun _ => none, 0⟩
theorem sim_empty (w : World) : Sim w (fun _ => none) St.empty w := ⟨Below.refl _ _, fun b B e => (by cases e), fun _ _ => rfl, fun b b' l l' _ e => (by cases e)⟩

/-- A law over values without references. -/
theorem calls_of_law {f : Nat} {args : Array Value} {w : World} (h : ACalls P w f args St.empty fun e _ => e = .returned (.bool true)) (ha : CR (fun _ => none) 0 args args) : Calls P f args w fun e w' => e = .returned (.bool true) ∧ Below w.heap.size w w' := by
  refine (callsIn_wide.1 (h.2 _ w args (sim_empty w) ha)).mono ?_
  rintro ce w' ⟨e, φ', A', rfl, h2, h3, _⟩
  cases h2 with
  | returned hv => exact ⟨by rw [hv.bool_inv], h3.below⟩
end
end Go.Fw
