import Derived.Test.YtfmbflmknjlefaaFwWire9
set_option linter.unusedSimpArgs false
set_option linter.unusedVariables false
set_option maxRecDepth 4000
namespace Go.Fw
open Go.Proofs Go.RowKit
theorem Try.enters14 : Enters Try.prog 14 := enters_of Try.func14 rfl (by kernel_rfl)
theorem Try.enters31 : Enters Try.prog 31 := enters_of Try.func31 rfl (by kernel_rfl)
/-- The bytes so far, in a cell. -/
def ByC (A : St) (bb lo : Nat) (acc : List Int) : Prop := ∃ v, A.get bb = some (.cells [v] 66 (some 0)) ∧ Row A 5 1 lo (acc.map (.int .u8 ·)) acc.length v
/-- What an append to them leaves. -/
def ByK (A : St) (bb : Nat) (A' : St) : Prop := A.next ≤ A'.next ∧ ∀ b cs e, b < A.next → b ≠ bb → A.get b = some (.cells cs e (some 0)) → e ≠ 5 → A'.get b = A.get b
theorem by_add {A : St} {bb lo xT : Nat} {acc new : List Int} {x : Value} {ux : TypeDesc} (hx : Try.prog.underlying xT = some ux) (hux : ∀ k, ux ≠ .int k) {v : Value} (hg : A.get bb = some (.cells [v] 66 (some 0))) (h : Row A 5 1 lo (acc.map (.int .u8 ·)) acc.length v) (hlo : lo ≤ A.next) (hbb : bb < lo) (hsrc : srcCells A 1 x = some (new.length, new.map (.int .u8 ·))) (hl : acc.length + new.length ≤ 1073741824) :
    ∃ v' A', aappend Try.prog A 66 xT v x = some (v', A') ∧ one1 v' = true ∧ A'.get bb = some (.cells [v] 66 (some 0)) ∧ Row (A'.upd bb (some (.cells [v'] 66 (some 0)))) 5 1 lo ((acc ++ new).map (.int .u8 ·)) (acc ++ new).length v' ∧ A.next ≤ A'.next ∧ (∀ b, b < lo → A'.get b = A.get b) ∧ ByK A bb (A'.upd bb (some (.cells [v'] 66 (some 0)))) := by
  obtain ⟨v', A', h1, h2, h3, h4, h5⟩ := by_src hx hux h hlo hsrc hl
  have hrb := Row.rb h
  refine ⟨v', A', h1, ?_, ?_, ?_, h3, fun b hb => h4 b (by omega) (fun e => by have := hrb b e; omega), h3, fun b cs e hb hne hg he => ?_⟩
  · obtain ⟨ad, c, rfl⟩ := View.sl (Row.view h2); rfl
  · rw [h4 bb (by omega) (fun e => by have := hrb bb e; omega)]; exact hg
  · exact Row.keep h2 (Nat.le_refl _) (fun b _ hb _ => get_upd_old (by omega)) (Nat.le_refl _)
  · rw [get_upd_old hne]; exact h4 b hb (h.tag (fun x => he x.symm) hg)
theorem wput_ok (w0 : World) (A : St) (bb lo : Nat) (acc : List Int) (n w : Int) (hb : ByC A bb lo acc) (hlo : lo ≤ A.next) (hbb : bb < lo) (h0 : 0 ≤ n ∧ n < 4294967296) (hw1 : 1 ≤ w ∧ w ≤ 4) (hl : acc.length ≤ 1000000) :
    ACalls Try.prog w0 31 #[.int .i64 n, .int .i64 w, .pointer (some ⟨bb, 0, none⟩)] A fun e A' => e = .returned (.tuple #[]) ∧ ByC A' bb lo (acc ++ bigL n.toNat w.toNat) ∧ ByK A bb A' ∧ ∀ b, b < lo → b ≠ bb → A'.get b = A.get b := by
  obtain ⟨v, hg, hr⟩ := hb
  obtain ⟨k, rfl⟩ := Int.eq_ofNat_of_zero_le h0.1
  obtain ⟨q, rfl⟩ := Int.eq_ofNat_of_zero_le (show 0 ≤ w by omega)
  rw [Int.toNat_natCast, Int.toNat_natCast]
  have hbl := bigL_length k q
  obtain ⟨v', A', hap, hv1, hg', hr', hn', hf', hk'⟩ := by_add (x := .string (strOfNums (bigL k q))) Try.underlying9 (by intro k; exact TypeDesc.noConfusion) hg hr hlo hbb (src_str _ _ (bigL_byte _ _)) (by omega)
  refine call_E Try.enters31 Try.func31 rfl (Nat.le_of_ble_eq_true rfl) fun hw hbd => ?_
  have hbs : bigS k (q : Int) = bigL k q := by unfold bigS; rw [if_neg (by omega)]; rfl
  simp (maxSteps := 1000000) (disch := (first | omega | (simp only [nx_alloc, nx_upd, len_cons, len_nil, List.length_set, List.length_map, List.length_append] <;> omega) | fail)) only [go_sem, Try.ntmps31, Try.results31]
  refine aw_draw2 [⟨false, [], [0]⟩, ⟨false, [], [0]⟩, ⟨false, [1], [0]⟩, ⟨false, [], [0]⟩, ⟨false, [1, 2, 3], [0]⟩, ⟨true, [0, 1, 2, 3, 4], [0]⟩, ⟨true, [0, 1, 2, 3, 4, 5], [1]⟩] [A, A', A'.upd bb (some (.cells [v'] 66 (some 0)))] 2 (by kernel_rfl) (by kernel_rfl) rfl ?_
  simp (maxSteps := 1000000) (disch := (first | omega | (simp only [nx_alloc, nx_upd, len_cons, len_nil, List.length_set, List.length_map, List.length_append] <;> omega) | fail)) only [go_sem, hg]
  have hbg := big_ok w0 A k q (by omega)
  rw [hbs] at hbg
  refine ⟨_, hbg, ?_⟩
  rw [hap]
  simp (maxSteps := 1000000) (disch := (first | omega | (simp only [nx_alloc, nx_upd, len_cons, len_nil, List.length_set, List.length_map, List.length_append] <;> omega) | fail)) only [go_sem, hg']
  rw [storeC_val hv1]
  simp (maxSteps := 1000000) (disch := (first | omega | (simp only [nx_alloc, nx_upd, len_cons, len_nil, List.length_set, List.length_map, List.length_append] <;> omega) | fail)) only [go_sem, Try.results31]
  exact gc_here ⟨rfl, ⟨v', get_upd_same .., hr'⟩, hk', fun b hb hne => (get_upd_old hne).trans (hf' b hb)⟩
end Go.Fw
