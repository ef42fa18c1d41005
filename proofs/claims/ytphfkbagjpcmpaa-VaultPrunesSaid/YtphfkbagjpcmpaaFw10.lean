import Derived.Test.YtphfkbagjpcmpaaFw9
import Derived.Laws.NewFold
/-! That the machine's append, copy and conversions do what is told. -/
set_option linter.unusedSimpArgs false
set_option linter.unusedVariables false
namespace Go.Fw
open Go.RowKit

section
variable {P : Program} {w0 : World} {φ : Nat → Option Loc} {A : St} {w : World}

theorem run_append_fits {sT xT ty e : TypeId} {d : TypeDesc} {sz n : Nat} {base : Option Addr} {len cap : Nat} {x : Value} {ds : Array Value} (hs : P.underlying sT = some (.slice e)) (hd : P.underlying xT = some d) (hd' : ∀ k, d ≠ .int k) (hz : tsz P e = some sz)
    (hn : (Builtin.lenOf x).run P w = .ok n w) (hf : (Builtin.firstCells sz n x).run P w = .ok ds w) (hfit : len + n ≤ cap) :
    (Builtin.append_ #[sT, xT] ty #[.slice base len cap, x]).run P w =
      ((match base with | some a => storeCells (a.add (len * sz)) ds.toList | none => pure () : Sem Unit).run P w).andThen fun _ w' => .ok (.slice base (len + n) cap) w' := by
  have hm : (do pure ((← underlying xT) matches .int _) : Sem Bool).run P w = .ok false w := by
    cases d <;> first | (exact absurd rfl (hd' _)) | (simp only [Sem.run_bind, run_und hd, Result.andThen_ok, Sem.run_pure])
  simp only [Sem.run_bind, run_und hd, Result.andThen_ok, Sem.run_pure] at hm
  unfold Builtin.append_
  simp only [List.getElem?_toArray, List.getElem?_cons_zero, List.getElem?_cons_succ, Sem.run_bind, run_und hs, Result.andThen_ok, run_tsz hz, run_und hd, hm, Sem.run_pure, Bool.false_eq_true, if_false, hn, hfit, if_true, Bool.not_false, hf]
  cases base with
  | none => rfl
  | some a => simp only [Sem.run_bind, Sem.run_pure]

theorem run_append_grows {sT xT ty e : TypeId} {d : TypeDesc} {sz n bs : Nat} {z : Value} {base : Option Addr} {len cap : Nat} {x : Value} {ds os : Array Value} (hs : P.underlying sT = some (.slice e)) (hd : P.underlying xT = some d) (hd' : ∀ k, d ≠ .int k) (hz : tsz P e = some sz)
    (hb : tbytes P e = some bs) (hzz : tzero P e = some z) (hn : (Builtin.lenOf x).run P w = .ok n w) (hf : (Builtin.firstCells sz n x).run P w.drew = .ok ds w.drew) (ho : (Builtin.firstCells sz len (.slice base len cap)).run P w.drew = .ok os w.drew)
    (hg : cap < len + n) (hB : (len + n) * bs ≤ 140737488355328) (hM : len + n ≤ 9223372036854775807) :
    ∃ ncap, len + n ≤ ncap ∧ (Builtin.append_ #[sT, xT] ty #[.slice base len cap, x]).run P w =
      .ok (.slice (some ⟨w.heap.size, 0, none⟩) (len + n) ncap) (w.drew.alloc (.cells (os ++ ds ++ Builtin.zeroCells z.cells (ncap - (len + n))) e)) := by
  have hm : (do pure ((← underlying xT) matches .int _) : Sem Bool).run P w = .ok false w := by
    cases d <;> first | (exact absurd rfl (hd' _)) | (simp only [Sem.run_bind, run_und hd, Result.andThen_ok, Sem.run_pure])
  simp only [Sem.run_bind, run_und hd, Result.andThen_ok, Sem.run_pure] at hm
  have hbi : ∀ w', ∃ i, (typeInfo e).run P w' = .ok i w' ∧ i.bytes = bs := fun w' => run_tinfo hb
  obtain ⟨ti, hti, htb⟩ := hbi w
  obtain ⟨ti', hti', htb'⟩ := hbi w.drew
  have hzz' := run_tzero (P := P) (w := w.drew) hzz
  refine ⟨Question.cut (.appendCap (len + n) cap e) (w.tape w.drawn (.appendCap (len + n) cap e)), by simp [Question.cut], ?_⟩
  unfold Builtin.append_
  have hMx : ¬ (((len + n : Nat) : Int) > IntKind.i64.max) := by
    have : IntKind.i64.max = 9223372036854775807 := by decide
    rw [this]; omega
  have hnx : ¬ (Builtin.nextslicecap (len + n) cap * bs > 2 ^ 48) := by
    have h1 := nextslicecap_le hg
    have h2 : Builtin.nextslicecap (len + n) cap * bs ≤ 2 * (len + n) * bs := Nat.mul_le_mul_right _ h1
    have h3 : 2 * (len + n) * bs = 2 * ((len + n) * bs) := by rw [Nat.mul_assoc]
    omega
  simp only [List.getElem?_toArray, List.getElem?_cons_zero, List.getElem?_cons_succ, Sem.run_bind, run_und hs, Result.andThen_ok, run_tsz hz, run_und hd, hm, Sem.run_pure, Bool.false_eq_true, if_false, hn, if_neg (show ¬ (len + n ≤ cap) by omega), Bool.not_false, if_true,
    hti, htb, hti', htb', hMx, false_and, if_false, hnx, Sem.run_ite, pure_bind, run_choose_drew, Question.forced, Bool.false_eq_true, run_askRoom, ho, hf, hzz'.1, newRow, run_newObj, World.alloc_eq, World.size_drew]

theorem zeroCells_size (z : Array Value) (k : Nat) : (Builtin.zeroCells z k).size = k * z.size := by simp [Builtin.zeroCells]

theorem aappend_sound (h : Sim w0 φ A w) {sT xT ty : TypeId} {s x cs cx v : Value} {A' : St} (e : aappend P A sT xT s x = some (v, A')) (hs : VR φ A.next s cs) (hx : VR φ A.next x cx) :
    ∃ v' w' φ', (Builtin.append_ #[sT, xT] ty #[cs, cx]).run P w = .ok v' w' ∧ VR φ' A'.next v v' ∧ Sim w0 φ' A' w' ∧ A.next ≤ A'.next ∧ Ext A.next φ φ' := by
  unfold aappend at e
  split at e
  · cases e
  · cases e
  · cases e
  · rename_i el hel hni hnn
    have hsl := telem_und hel
    obtain ⟨d, hd⟩ : ∃ d, P.underlying xT = some d := by
      cases hu : P.underlying xT with
      | none => exact absurd hu hnn
      | some d => exact ⟨d, rfl⟩
    have hd' : ∀ k, d ≠ .int k := fun k hk => hni k (by rw [hd, hk])
    split at e
    · rename_i sz bs z hsz hbs hz
      split at e
      · rename_i n new base len cap hsrc
        obtain ⟨hlen, hnl, _, hsrcs⟩ := srcCells_sound (P := P) h hsrc hx
        split at e
        · cases e
        · rename_i hszz
          have hsz0 : 0 < sz := by omega
          have hzs : z.cells.size = sz := by omega
          obtain ⟨ds, hds, hdc⟩ := hsrcs n (Nat.le_refl _)
          rw [List.take_of_length_le (by omega)] at hdc
          have hdsz : ds.size = n * sz := by have := hdc.1; simp at this; omega
          split at e
          · rename_i hfit
            split at e
            · -- a nil slice, and nothing
              simp only [Option.some.injEq, Prod.mk.injEq] at e
              obtain ⟨rfl, rfl⟩ := e
              rcases hs.slice_inv with ⟨_, rfl, rfl, rfl⟩ | ⟨b, off, sp, ca, ccap, e0, _⟩
              · obtain rfl : n = 0 := by omega
                exact ⟨.slice none 0 0, w, φ, by rw [run_append_fits hsl hd hd' hsz hlen hds (by omega)]; rfl, .slice0, h, Nat.le_refl _, Ext.refl _ _⟩
              · cases e0
            · rename_i b off sp
              rcases hs.slice_inv with ⟨e0, _⟩ | ⟨b', off', sp', ca, ccap, e0, rfl, hb, hle, hcc, hloc⟩
              · cases e0
              · cases e0
                have hrun := run_append_fits (P := P) (w := w) (ty := ty) (base := some ca) (len := len) (cap := ccap) hsl hd hd' hsz hlen hds (by omega)
                split at e
                · rename_i hn0
                  subst hn0
                  simp only [Option.some.injEq, Prod.mk.injEq] at e
                  obtain ⟨rfl, rfl⟩ := e
                  have : ds = #[] := Array.eq_empty_of_size_eq_zero (by omega)
                  subst this
                  exact ⟨_, w, φ, by rw [hrun]; rfl, hs, h, Nat.le_refl _, Ext.refl _ _⟩
                · rename_i hn0
                  split at e
                  · rename_i bcs e' k hg
                    split at e
                    · rename_i hc
                      obtain ⟨c1, c2, c3⟩ := hc
                      simp only [Option.some.injEq, Prod.mk.injEq] at e
                      obtain ⟨rfl, rfl⟩ := e
                      obtain ⟨_, l, hl, _⟩ := h.blk b _ hg
                      rcases hloc l hl with ⟨rfl, hcap⟩ | ⟨c4, _⟩
                      · obtain ⟨w', hr, hs'⟩ := Sim.store (P := P) hl (off + len * sz) new ds.toList 0 A w bcs h hg (by simp; omega) (fun j v v' a b => ⟨hdc.2 j v v' (by simpa using a) (by simpa using b), by
                          rw [List.all_eq_true] at c3; exact c3 v (List.mem_of_getElem? a)⟩) (by omega) (by omega)
                        refine ⟨_, w', φ, ?_, .slice b off sp _ _ _ _ hb (by omega) hcc hloc, hs', Nat.le_refl _, Ext.refl _ _⟩
                        rw [hrun]
                        show ((storeCells ((⟨l.block, l.base + off, none⟩ : Addr).add (len * sz)) ds.toList).run P w).andThen _ = _
                        rw [Addr.add_lit, show l.base + off + len * sz = l.base + (off + len * sz) by omega, hr]; rfl
                      · omega
                    · cases e
                  · cases e
          · rename_i hfit
            split at e
            · rename_i hB
              obtain ⟨hB, hM⟩ := hB
              have hD := h.drew
              obtain ⟨_, _, _, hsrcD⟩ := srcCells_sound (P := P) hD hsrc hx
              obtain ⟨ds, hds, hdc⟩ := hsrcD n (Nat.le_refl _)
              rw [List.take_of_length_le (by omega)] at hdc
              have hdsz : ds.size = n * sz := by have := hdc.1; simp at this; omega
              -- the new row, whatever room the machine gives it
              have grow : ∀ (φ1 : Nat → Option Loc) (A1 : St) (old : List Value) (os : Array Value) (base : Option Addr) (ccap : Nat), Sim w0 φ1 A1 w.drew → A1.next = A.next → Ext A.next φ φ1 → CR φ A.next old.toArray os → old.length = len * sz →
                  (Builtin.firstCells sz len (.slice base len ccap)).run P w.drew = .ok os w.drew → ccap < len + n → ∀ m,
                  ∃ v' w' φ', (Builtin.append_ #[sT, xT] ty #[.slice base len ccap, cx]).run P w = .ok v' w' ∧ VR φ' (A.next + 1) (.slice (some ⟨A.next, 0, some sz⟩) (len + n) (len + n)) v' ∧
                    Sim w0 φ' (A1.alloc (.cells (old ++ new) el (some m))) w' ∧ Ext A.next φ φ' := by
                intro φ1 A1 old os base ccap hS1 hn1 he1 hoc hol hos hg m
                obtain ⟨ncap, hnc, hrun⟩ := run_append_grows (P := P) (w := w) (ty := ty) (base := base) (len := len) (cap := ccap) hsl hd hd' hsz hbs hz hlen hds hos hg hB hM
                have hoz : os.size = len * sz := by have := hoc.1; simp at this; omega
                have hall := (hoc.append hdc).mono (Nat.le_refl _) he1
                obtain ⟨φ', hs', he', hφ'⟩ := hS1.newRow (old ++ new) (os ++ ds ++ Builtin.zeroCells z.cells (ncap - (len + n))) el (0, 0) (by simp; omega) (fun i v hi => by
                  have hi' : (old.toArray ++ new.toArray)[i]? = some v := by simpa using hi
                  obtain ⟨v', h1, h2⟩ := hall.at i v hi'
                  refine ⟨v', ?_, by rw [hn1]; exact h2⟩
                  rw [Array.getElem?_append, if_pos (Array.getElem?_eq_some_iff.1 h1).1]; exact h1) (fun i _ hx => by omega)
                have hCs : (os ++ ds ++ Builtin.zeroCells z.cells (ncap - (len + n))).size = ncap * sz := by
                  simp only [Array.size_append, zeroCells_size, hzs, hoz, hdsz]
                  have : ncap = (len + n) + (ncap - (len + n)) := by omega
                  calc len * sz + n * sz + (ncap - (len + n)) * sz = ((len + n) + (ncap - (len + n))) * sz := by simp only [Nat.add_mul]
                    _ = ncap * sz := by rw [← this]
                have hs2 : Sim w0 φ' (A1.alloc (.cells (old ++ new) el (some m))) (w.drew.alloc (.cells (os ++ ds ++ Builtin.zeroCells z.cells (ncap - (len + n))) el)) := by
                  refine ⟨hs'.below, fun c B e1 => ?_, fun c e1 => hs'.dead c ?_, fun c c' l l' hne e1 e2 hl => ?_⟩
                  · rw [St.get_alloc] at e1
                    by_cases hc : c = A1.next
                    · rw [if_pos hc] at e1; cases e1
                      obtain ⟨h1, l, h2, C, fr, a1, a2, a3, a4, a5⟩ := hs'.blk c (.cells (old ++ new) el (some 0)) (by rw [St.get_alloc, if_pos hc])
                      exact ⟨h1, l, h2, C, fr, a1, a2, a3, a4, fun k hk => ⟨(a5 0 rfl).1, fun i h3 => (a5 0 rfl).2 i (by omega)⟩⟩
                    · rw [if_neg hc] at e1
                      exact hs'.blk c B (by rw [St.get_alloc, if_neg hc]; exact e1)
                  · rw [St.get_alloc] at e1 ⊢
                    by_cases hc : c = A1.next
                    · rw [if_pos hc] at e1; cases e1
                    · rw [if_neg hc] at e1 ⊢; exact e1
                  · have := hs'.inj c c' l l' hne e1 e2 hl
                    rw [St.get_alloc] at this ⊢
                    by_cases hc : c = A1.next
                    · rw [if_pos hc] at this; exact this.elim
                    · rw [if_neg hc] at this ⊢; exact this
                refine ⟨_, _, φ', hrun, ?_, hs2, he1.trans he' (by omega)⟩
                rw [hn1] at hφ'
                refine .slice A.next 0 (some sz) _ _ _ _ (by omega) (Nat.le_refl _) hnc fun l hl => ?_
                rw [hφ'] at hl; cases hl
                left
                refine ⟨by simp, ?_⟩
                obtain ⟨s', rfl⟩ : ∃ s', sz = s' + 1 := ⟨sz - 1, by omega⟩
                simp only [capOk, hCs]
                omega
              split at e
              · simp only [Option.some.injEq, Prod.mk.injEq] at e
                obtain ⟨rfl, rfl⟩ := e
                rcases hs.slice_inv with ⟨_, rfl, rfl, rfl⟩ | ⟨b, off, sp, ca, ccap, e0, _⟩
                · obtain ⟨v', w', φ', h1, h2, h3, h4⟩ := grow φ A [] #[] none 0 hD rfl (Ext.refl _ _) CR.empty (by simp) rfl (by omega) 0
                  exact ⟨v', w', φ', h1, h2, by simpa using h3, by simp, h4⟩
                · cases e0
              · rename_i b off sp
                rcases hs.slice_inv with ⟨e0, _⟩ | ⟨b', off', sp', ca, ccap, e0, rfl, hb, hle, hcc, hloc⟩
                · cases e0
                · cases e0
                  have hold : ∀ (cs : List Value) (e1 : TypeId) (m : Option Nat), A.get b = some (.cells cs e1 m) → off + len * sz ≤ cs.length → ∃ os, (Builtin.firstCells sz len (.slice (some ca) len ccap)).run P w.drew = .ok os w.drew ∧ CR φ A.next ((cs.drop off).take (len * sz)).toArray os := by
                    intro cs e1 m hg hc
                    obtain ⟨_, l, hl, _⟩ := hD.blk b _ hg
                    rcases hloc l hl with ⟨rfl, _⟩ | ⟨c4, _⟩
                    · exact hD.load (P := P) hg hl off (len * sz) hc
                    · obtain rfl : len = 0 := by omega
                      refine ⟨#[], ?_, by simpa using CR.empty⟩
                      simp [Builtin.firstCells, loadCells, loadCellsFrom]
                  split at e
                  · rename_i cs e1 m hg
                    split at e
                    · rename_i hc
                      simp only [Option.some.injEq, Prod.mk.injEq] at e
                      obtain ⟨rfl, rfl⟩ := e
                      obtain ⟨os, hos, hoc⟩ := hold cs e1 m hg hc
                      obtain ⟨_, l, hl, _⟩ := h.blk b _ hg
                      have hcap : ccap < len + n := by
                        rcases hloc l hl with ⟨_, hk⟩ | ⟨c4, c5⟩
                        · simp only [capOk] at hk; omega
                        · omega
                      obtain ⟨v', w', φ', h1, h2, h3, h4⟩ := grow φ A _ os (some ca) ccap hD rfl (Ext.refl _ _) hoc (by simp; omega) hos hcap 0
                      exact ⟨v', w', φ', h1, h2, h3, by simp, h4⟩
                    · cases e
                  · rename_i cs e1 k j hg
                    split at e
                    · rename_i hc
                      obtain ⟨c1, c2, c3, c4, c5⟩ := hc
                      subst c3
                      simp only [Option.some.injEq, Prod.mk.injEq] at e
                      obtain ⟨rfl, rfl⟩ := e
                      obtain ⟨os, hos, hoc⟩ := hold cs e1 (some k) hg c1
                      by_cases hcap : ccap < len + n
                      · obtain ⟨hk1, hk2⟩ := hD.kill b
                        obtain ⟨v', w', φ', h1, h2, h3, h4⟩ := grow _ _ _ os (some ca) ccap hk1 rfl hk2 hoc (by simp; omega) hos hcap (k - off)
                        exact ⟨v', w', φ', h1, h2, h3, by simp, h4⟩
                      · -- there was room: the machine's block is the same one
                        obtain ⟨_, l, hl, C, fr, a1, a2, a3, a4, a5⟩ := h.blk b _ hg
                        obtain ⟨a50, a5⟩ := a5 k rfl
                        obtain ⟨_, _, _, hsrcW⟩ := srcCells_sound (P := P) h hsrc hx
                        obtain ⟨ds, hds, hdc⟩ := hsrcW n (Nat.le_refl _)
                        rw [List.take_of_length_le (by omega)] at hdc
                        have hdsz : ds.size = n * sz := by have := hdc.1; simp at this; omega
                        rcases hloc l hl with ⟨rfl, hk⟩ | ⟨c6, c7⟩
                        · have hspz : j + 1 = sz := by simpa using c2
                          simp only [capOk] at hk
                          rw [hspz] at hk
                          have hmul : (len + n) * sz ≤ ccap * sz := Nat.mul_le_mul_right _ (by omega)
                          rw [Nat.add_mul] at hmul
                          obtain ⟨w', C', s1, s2, s3, s4, s5, s6, s7, s8, s9, s10⟩ := storeCells_block (P := P) (o := l.base + (off + len * sz)) (fr := fr) ds.toList 0 w C a1 (by simp; omega) (fun v hv => by
                            obtain ⟨i, hi⟩ := List.getElem?_of_mem hv
                            have hi1 : i < new.length := by have := (List.getElem?_eq_some_iff.1 hi).1; simp at this; omega
                            have := hdc.2 i new[i] v (by simp [List.getElem?_eq_getElem hi1]) (by simpa using hi)
                            rw [this.cell1]
                            rw [List.all_eq_true] at c5; exact c5 _ (List.getElem_mem hi1)) (fun i h1 h2 => a5 i (by omega) h2)
                          obtain ⟨φ', hs', he', hφ'⟩ := h.retire hg hl off ((cs.drop off).take (len * sz) ++ new) (k - off) (w' := w') (Below.of_same h.below s7 s8 s9 s10 a50.1 s6) s6 (fun φ' he' => by
                            refine ⟨C', fr, s2, s3.trans a2, by simp only [List.length_append, List.length_take, List.length_drop]; omega, fun i v hi => ?_, fun k' hk' => ?_⟩
                            · rw [List.getElem?_append] at hi
                              split at hi
                              · rename_i hlt
                                simp only [List.length_take, List.length_drop] at hlt
                                rw [List.getElem?_take, if_pos (by omega), List.getElem?_drop] at hi
                                obtain ⟨v', q1, q2⟩ := a4 _ v hi
                                refine ⟨v', ?_, q2.mono (by omega) he'⟩
                                show C'[l.base + off + i]? = some v'
                                rw [s5 _ (by omega), ← q1]; congr 1; omega
                              · rename_i hlt
                                simp only [List.length_take, List.length_drop] at hlt hi
                                rw [show min (len * sz) (cs.length - off) = len * sz by omega] at hi hlt
                                obtain ⟨v', q1, q2⟩ := hdc.at (i - len * sz) v (by simpa using hi)
                                refine ⟨v', ?_, q2.mono (by omega) he'⟩
                                have := s4 (i - len * sz) v' (by simpa using q1)
                                show C'[l.base + off + i]? = some v'
                                rw [← this]; congr 1; omega
                            · cases hk'
                              exact ⟨⟨a50.1, fun hx => absurd hx (telem_ne hel)⟩, fun i h1 h2 => a5 i (by simp only at h1; omega) (by omega)⟩)
                          refine ⟨.slice (some ⟨l.block, l.base + off, none⟩) (len + n) ccap, w', φ', ?_, ?_, hs', by simp, he'⟩
                          · rw [run_append_fits hsl hd hd' hsz hlen hds (by omega)]
                            show ((storeCells ((⟨l.block, l.base + off, none⟩ : Addr).add (len * sz)) ds.toList).run P w).andThen _ = _
                            rw [Addr.add_lit, show l.base + off + len * sz = l.base + (off + len * sz) by omega, s1]; rfl
                          · refine .slice A.next 0 (some sz) _ _ _ _ (by simp) (Nat.le_refl _) (by omega) fun l2 hl2 => ?_
                            rw [hφ'] at hl2; cases hl2
                            left
                            refine ⟨by simp, ?_⟩
                            rw [← hspz]
                            simp only [capOk]
                            rw [hspz]; omega
                        · omega
                    · cases e
                  · cases e
            · cases e
      · cases e
    · cases e
end
end Go.Fw
