import Derived.Test.YtfmbflmknjlefaaFwWire3
set_option linter.unusedSimpArgs false
set_option linter.unusedVariables false
set_option maxRecDepth 4000
namespace Go.Fw
open Go.Proofs Go.RowKit
theorem Try.enters44 : Enters Try.prog 44 := enters_of Try.func44 rfl (by kernel_rfl)
/-- A panic behind some reading. -/
def panP (c : Nat) (x : Int) (A : St) (e : Ending) (A' : St) : Prop := e = .panicked [⟨pE x, false, false⟩] ∧ ∃ t, A' = A.upd c (some (rdW t))
/-- Something that was read. -/
def RdOk (c : Nat) (t : List Int) (E : St → Value → Prop) (A : St) (e : Ending) (A' : St) : Prop := ∃ v, e = .returned v ∧ Over (A.upd c (some (rdW t))) A' ∧ E A' v
def RdPost {α : Type} (c : Nat) (E : α → St → Value → Prop) (p : α × List Int × Int) (A : St) (e : Ending) (A' : St) : Prop := if p.2.2 = 0 then RdOk c p.2.1 (E p.1) A e A' else panP c p.2.2 A e A'
theorem rd_ok {α : Type} {c : Nat} {E : α → St → Value → Prop} {a : α} {t : List Int} {A A' : St} {e : Ending} (h : RdPost c E (a, t, 0) A e A') : RdOk c t (E a) A e A' := by unfold RdPost at h; rwa [if_pos rfl] at h
theorem rd_pan {α : Type} {c : Nat} {E : α → St → Value → Prop} {a : α} {t : List Int} {x : Int} {A A' : St} {e : Ending} (hx : x ≠ 0) (h : RdPost c E (a, t, x) A e A') : panP c x A e A' := by unfold RdPost at h; rwa [if_neg hx] at h
theorem ok_rd {α : Type} {c : Nat} {E : α → St → Value → Prop} {p : α × List Int × Int} {a : α} {t : List Int} {A : St} (hp : p = (a, t, 0)) : RdPost c E p A = RdOk c t (E a) A := by subst hp; funext e A'; unfold RdPost; rw [if_pos rfl]
theorem pan_rd {α : Type} {c : Nat} {E : α → St → Value → Prop} {p : α × List Int × Int} {x : Int} {A : St} (hp : p.2.2 = x) (hx : x ≠ 0) : RdPost c E p A = panP c x A := by subst hp; funext e A'; unfold RdPost; rw [if_neg hx]
/-- What stays, while one reads. -/
structure RdJ (A : St) (c : Nat) (t : List Int) (A' : St) : Prop where
  n : A.next ≤ A'.next
  ov : ∀ b, b < A.next → b ≠ c → A'.get b = A.get b
  rd : A'.get c = some (rdW t)
theorem RdJ.refl {A : St} {c : Nat} {t : List Int} (h : A.get c = some (rdW t)) : RdJ A c t A := ⟨Nat.le_refl _, fun _ _ _ => rfl, h⟩
theorem RdJ.ext {A A' A2 : St} {c : Nat} {t : List Int} (h : RdJ A c t A') (hc : c < A.next) (o : Over A' A2) : RdJ A c t A2 := ⟨Nat.le_trans h.n o.next, fun b hb hn => (o.get b (Nat.lt_of_lt_of_le hb h.n)).trans (h.ov b hb hn), (o.get c (Nat.lt_of_lt_of_le hc h.n)).trans h.rd⟩
theorem RdJ.upd {A A' : St} {c : Nat} {t : List Int} (h : RdJ A c t A') (s : List Int) : RdJ A c s (A'.upd c (some (rdW s))) := ⟨h.n, fun b hb hn => by rw [St.get_upd, if_neg hn]; exact h.ov b hb hn, get_upd_same ..⟩
theorem RdJ.set {A A' : St} {c : Nat} {t : List Int} (h : RdJ A c t A') {b : Nat} (hb : A.next ≤ b) (hc : c < A.next) (B : Option Blk) : RdJ A c t (A'.upd b B) := ⟨h.n, fun k hk hn => by rw [St.get_upd, if_neg (by omega)]; exact h.ov k hk hn, by rw [St.get_upd, if_neg (by omega)]; exact h.rd⟩
theorem RdJ.over {A A' : St} {c : Nat} {t : List Int} (h : RdJ A c t A') : Over (A.upd c (some (rdW t))) A' := ⟨h.n, fun b hb => by
  rw [St.get_upd]
  by_cases he : b = c
  · rw [if_pos he, he]; exact h.rd
  · rw [if_neg he]; exact h.ov b hb he⟩
theorem gc_panP {A A' : St} {c : Nat} {r t : List Int} {x : Int} (hw : WF A) (hc : A.get c = some (rdW r)) (h : RdJ A c t A') : GcE A (panP c x A) (.panicked [⟨pE x, false, false⟩]) A' := by
  have hw' := wf_upd hw (hw c _ hc).1 (rdW_bnd _ t) (e := 78) (m := some 0)
  exact .inr ⟨_, h.over.sub hw', Nat.le_refl _, hw', .panicked (fun p hp => by rw [List.mem_singleton.1 hp]; exact pE_bnd _ _), rfl, t, rfl⟩
set_option maxHeartbeats 1000000 in
theorem wver_ok (w0 : World) (A : St) (c : Nat) (r : List Int) (hc : A.get c = some (rdW r)) (hr : RW r) : ACalls Try.prog w0 48 #[.pointer (some ⟨c, 0, none⟩)] A (RdPost c (fun V A' v => VerRow A' A.next V v) (progR r) A) := by
  refine call_E Try.enters48 Try.func48 rfl (Nat.le_of_ble_eq_true rfl) fun hw hbd => ?_
  have hcn := (hw c _ hc).1
  have hc' := hc
  unfold rdW at hc'
  obtain ⟨A1, hA1⟩ : ∃ A1, A1 = A.alloc (.cells [.int .u32 0, .slice none 0 0, .slice none 0 0, .slice none 0 0] 27 (some 0)) := ⟨_, rfl⟩
  have o1 : Over A A1 := hA1 ▸ (Over.refl A).alloc _
  have n1 : A1.next = A.next + 1 := by rw [hA1]; rfl
  have g1 : A1.get A.next = some (.cells [.int .u32 0, .slice none 0 0, .slice none 0 0, .slice none 0 0] 27 (some 0)) := by rw [hA1]; exact get_alloc_same ..
  have gc1 := (o1.get c hcn).trans hc'
  simp (maxSteps := 1000000) (disch := (first | omega | (simp only [nx_alloc, nx_upd, len_cons, len_nil, List.length_set, List.length_map, List.length_append] <;> omega) | fail)) only [go_sem, Try.ntmps48, Try.results48, hc']
  rw [← hA1]
  refine (read_ver_ok w0 A1 (strOfNums r) (by rw [str_size]; exact hr.2)).mono ?_
  rintro e A2 ⟨v, rfl, o2, hv⟩
  rw [nums_str hr.1] at hv ⊢
  rcases hp : progR r with ⟨V, t, x⟩
  rw [hp] at hv
  obtain ⟨p, q, u, rfl, v1, v2, v3⟩ := hv
  have j2 : RdJ A c r A2 := (RdJ.refl hc).ext hcn (o1.trans o2)
  have hvc : VerC A2 V [.int .u32 V.id, p, q, u] := ⟨_, _, _, rfl, Row.view v1, Row.view v2, Row.view v3⟩
  have hst : ∀ X : St, ∀ B, storeC X (some 4) (some (.cells [.int .u32 0, .slice none 0 0, .slice none 0 0, .slice none 0 0] 27 (some 0))) B 0 (.agg #[.int .u32 V.id, p, q, u]) = some (X.upd B (some (.cells [.int .u32 V.id, p, q, u] 27 (some 0)))) := fun X B => stN (cs := [.int .u32 V.id, p, q, u]) rfl rfl hvc.cell
  obtain ⟨A3, hA3⟩ : ∃ A3, A3 = (A2.alloc (.cells [.int .u32 0, .slice none 0 0, .slice none 0 0, .slice none 0 0] 27 (some 0))).upd A2.next (some (.cells [.int .u32 V.id, p, q, u] 27 (some 0))) := ⟨_, rfl⟩
  have o3 : Over A2 A3 := hA3 ▸ ((Over.refl A2).alloc _).upd (Nat.le_refl _) _
  have n3 : A3.next = A2.next + 1 := by rw [hA3]; rfl
  have g3 : A3.get A2.next = some (.cells [.int .u32 V.id, p, q, u] 27 (some 0)) := by rw [hA3]; exact get_upd_same ..
  have j3 := j2.ext hcn o3
  have l2 := o2.next
  have gr : A3.get A.next = _ := (o3.get _ (by omega)).trans ((o2.get _ (by omega)).trans g1)
  have hne : A.next ≠ A2.next := by omega
  have hld : ∀ e' m, loadC (some true) (some 4) (some (.cells [.int .u32 V.id, p, q, u] e' m)) 0 = some (.agg #[.int .u32 V.id, p, q, u]) := fun e' m => ldN (cs := [.int .u32 V.id, p, q, u]) rfl
  by_cases hx : x = 0
  · subst hx
    rw [ok_rd rfl]
    simp (maxSteps := 1000000) (disch := (first | omega | (simp only [nx_alloc, nx_upd, len_cons, len_nil, List.length_set, List.length_map, List.length_append] <;> omega) | fail)) only [go_sem, hst]
    rw [← hA3]
    refine call1 (wdone_ok w0 A3 c r t j3.rd) ?_
    have j4 := j3.upd t
    have hne1 : A.next ≠ c := by omega
    have hne2 : A2.next ≠ c := by omega
    have g4 : (A3.upd c (some (rdW t))).get A2.next = _ := (get_upd_old hne2).trans g3
    have g5 : (A3.upd c (some (rdW t))).get A.next = _ := (get_upd_old hne1).trans gr
    simp (maxSteps := 1000000) (disch := (first | omega | (simp only [nx_alloc, nx_upd, len_cons, len_nil, List.length_set, List.length_map, List.length_append] <;> omega) | fail)) only [go_sem, g4, g5, hst, hld, Try.results48]
    have j5 := j4.set (b := A.next) (Nat.le_refl _) hcn (some (.cells [.int .u32 V.id, p, q, u] 27 (some 0)))
    refine gc_here ⟨_, rfl, j5.over, ?_⟩
    have hv : VerRow A2 A1.next V (.agg #[.int .u32 V.id, p, q, u]) := ⟨p, q, u, rfl, v1, v2, v3⟩
    refine hv.keep (show A2.next ≤ A3.next by omega) (fun b hb hlt => ?_) (by omega)
    rw [get_upd_old (by omega), get_upd_old (by omega)]
    exact o3.get b hlt
  · rw [pan_rd rfl hx]
    simp (maxSteps := 1000000) (disch := (first | omega | (simp only [nx_alloc, nx_upd, len_cons, len_nil, List.length_set, List.length_map, List.length_append] <;> omega) | fail)) only [go_sem, hst]
    rw [← hA3]
    refine callp (wdone_pan w0 A3 _ (strOfNums t) x hx) ?_
    simp (maxSteps := 1000000) (disch := (first | omega | (simp only [nx_alloc, nx_upd, len_cons, len_nil, List.length_set, List.length_map, List.length_append] <;> omega) | fail)) only [go_sem, after_pan]
    exact gc_panP hw hc j3
end Go.Fw
