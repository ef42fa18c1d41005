import Derived.Test.YtfmbflmknjlefaaFwHeader9
set_option linter.unusedSimpArgs false
set_option linter.unusedVariables false
set_option maxRecDepth 4000
namespace Go.Fw
open Go.Proofs Go.RowKit
theorem hashS_err {s : RS} (h : s.2 ≠ 0) : hashS s = (zeroH, s) := if_pos h
theorem manyS_err {m : Int} {s : RS} (h : s.2 ≠ 0) : manyS m s = (0, s) := if_pos h
theorem textS_err {s : RS} (h : s.2 ≠ 0) : textS s = ([], s) := if_pos h
theorem hashN_err : ∀ (k : Nat) (s : RS) (acc : List HashT), s.2 ≠ 0 → (hashN k s acc).2 = s
  | 0, s, acc, h => rfl
  | k + 1, s, acc, h => by rw [hashN, hashS_err h]; exact hashN_err k s _ h
theorem pairN_err : ∀ (k : Nat) (s : RS) (a : List ByteArray) (b : List Int), s.2 ≠ 0 → (pairN k s a b).2 = s
  | 0, s, a, b, h => rfl
  | k + 1, s, a, b, h => by rw [pairN, textS_err h, manyS_err h]; exact pairN_err k s _ _ h
theorem progR_eP {r : List Int} (h : (readP r).2.2 ≠ 0) : progR r = (V0, [], (readP r).2.2) := if_pos h
theorem readP_eK {r : List Int} (h : (readK r).2.2 ≠ 0) : (readP r).2 = (readK r).2 := pairN_err _ _ _ _ h
theorem progR_eK {r : List Int} (h : (readK r).2.2 ≠ 0) : progR r = (V0, [], (readK r).2.2) := by rw [← readP_eK h]; exact progR_eP (by rw [readP_eK h]; exact h)
theorem readK_eB {r : List Int} (h : (readB r).2.2 ≠ 0) : (readK r).2 = (readB r).2 := by unfold readK; rw [manyS_err h]
theorem progR_eB {r : List Int} (h : (readB r).2.2 ≠ 0) : progR r = (V0, [], (readB r).2.2) := by rw [← readK_eB h]; exact progR_eK (by rw [readK_eB h]; exact h)
theorem readB_eN {r : List Int} (h : (readN r).2.2 ≠ 0) : (readB r).2 = (readN r).2 := hashN_err _ _ _ h
theorem progR_eN {r : List Int} (h : (readN r).2.2 ≠ 0) : progR r = (V0, [], (readN r).2.2) := by rw [← readB_eN h]; exact progR_eB (by rw [readB_eN h]; exact h)
theorem readN_eI {r : List Int} (h : (readI r).2.2 ≠ 0) : (readN r).2 = (readI r).2 := by unfold readN; rw [manyS_err h]
theorem progR_eI {r : List Int} (h : (readI r).2.2 ≠ 0) : progR r = (V0, [], (readI r).2.2) := by rw [← readN_eI h]; exact progR_eN (by rw [readN_eI h]; exact h)
/-- The heap while a version is read. -/
structure RK (z : Blk) (A : St) (id : Int) (p q u : Value) (B : List HashT) (N : List ByteArray) (S : List Int) (A' : St) : Prop where
  over : Over A A'
  lo : A.next + 2 ≤ A'.next
  res : A'.get A.next = some z
  vs : A'.get (A.next + 1) = some (verB id p q u)
  rb : HsRow A' (A.next + 2) B p
  rn : StRow A' (A.next + 2) N q
  rs : InRow A' (A.next + 2) S u
  d1 : ∀ b, rowB p = some b → rowB q ≠ some b
  d2 : ∀ b, rowB p = some b → rowB u ≠ some b
  d3 : ∀ b, rowB q = some b → rowB u ≠ some b
variable {z : Blk} {A A' : St} {id : Int} {p q u : Value} {B : List HashT} {N : List ByteArray} {S : List Int}
theorem RK.pushB (h : RK z A id p q u B N S A') (x : HashT) (hl : B.length ≤ 1048576) :
    ∃ v' A2, aappend Try.prog (A'.alloc (.cells (hsC x) 43 (some 0))) 23 23 p (.slice (some ⟨A'.next, 0, none⟩) 1 1) = some (v', A2) ∧ A2.get (A.next + 1) = some (verB id p q u) ∧ one1 v' = true ∧ RK z A id v' q u (B ++ [x]) N S (A2.upd (A.next + 1) (some (verB id v' q u))) := by
  have hlo := h.lo
  obtain ⟨v', A2, hap, hr2, hn2, hrb, hf2⟩ := hs_push h.rb x (by omega) hl
  have low : ∀ b, b < A.next + 2 → A2.get b = A'.get b := fun b hb => hf2 b (by omega) (fun e => by have := (Row.rb h.rb b e).1; omega)
  have kn : StRow A2 (A.next + 2) N q := Row.keep h.rn (by omega) (fun b hb _ hlt => hf2 b hlt (fun e => h.d1 b e hb)) (Nat.le_refl _)
  have ks : InRow A2 (A.next + 2) S u := Row.keep h.rs (by omega) (fun b hb _ hlt => hf2 b hlt (fun e => h.d2 b e hb)) (Nat.le_refl _)
  have bq := fun b hb => (Row.rb h.rn b hb).2
  have bu := fun b hb => (Row.rb h.rs b hb).2
  refine ⟨v', A2, hap, (low _ (by omega)).trans h.vs, Row.sing hr2, ⟨⟨by have := h.over.next; simp only [nx_upd]; omega, fun b hb => ?_⟩, by simp only [nx_upd]; omega, ?_, get_upd_same .., Row.keep hr2 (Nat.le_refl _) (fun b hb y _ => by rw [St.get_upd, if_neg (by omega)]) (Nat.le_refl _), Row.keep kn (Nat.le_refl _) (fun b hb y _ => by rw [St.get_upd, if_neg (by omega)]) (Nat.le_refl _), Row.keep ks (Nat.le_refl _) (fun b hb y _ => by rw [St.get_upd, if_neg (by omega)]) (Nat.le_refl _), fun b hb e => ?_, fun b hb e => ?_, h.d3⟩⟩
  · rw [St.get_upd, if_neg (by omega), low b (by omega)]; exact h.over.get b hb
  · rw [St.get_upd, if_neg (by omega), low _ (by omega)]; exact h.res
  · rw [hrb] at hb; have := Option.some.inj hb; have := bq b e; omega
  · rw [hrb] at hb; have := Option.some.inj hb; have := bu b e; omega
theorem RK.pushN (h : RK z A id p q u B N S A') (x : ByteArray) (hl : N.length ≤ 1048576) :
    ∃ v' A2, aappend Try.prog (A'.alloc (.cells [.string x] 9 (some 0))) 24 24 q (.slice (some ⟨A'.next, 0, none⟩) 1 1) = some (v', A2) ∧ A2.get (A.next + 1) = some (verB id p q u) ∧ one1 v' = true ∧ RK z A id p v' u B (N ++ [x]) S (A2.upd (A.next + 1) (some (verB id p v' u))) := by
  have hlo := h.lo
  obtain ⟨v', A2, hap, hr2, hn2, hrb, hf2⟩ := st_push h.rn x (by omega) (by omega)
  have low : ∀ b, b < A.next + 2 → A2.get b = A'.get b := fun b hb => hf2 b (by omega) (fun e => by have := (Row.rb h.rn b e).1; omega)
  have kb : HsRow A2 (A.next + 2) B p := Row.keep h.rb (by omega) (fun b hb _ hlt => hf2 b hlt (fun e => h.d1 b hb e)) (Nat.le_refl _)
  have ks : InRow A2 (A.next + 2) S u := Row.keep h.rs (by omega) (fun b hb _ hlt => hf2 b hlt (fun e => h.d3 b e hb)) (Nat.le_refl _)
  have bp := fun b hb => (Row.rb h.rb b hb).2
  have bu := fun b hb => (Row.rb h.rs b hb).2
  refine ⟨v', A2, hap, (low _ (by omega)).trans h.vs, Row.sing hr2, ⟨⟨by have := h.over.next; simp only [nx_upd]; omega, fun b hb => ?_⟩, by simp only [nx_upd]; omega, ?_, get_upd_same .., Row.keep kb (Nat.le_refl _) (fun b hb y _ => by rw [St.get_upd, if_neg (by omega)]) (Nat.le_refl _), Row.keep hr2 (Nat.le_refl _) (fun b hb y _ => by rw [St.get_upd, if_neg (by omega)]) (Nat.le_refl _), Row.keep ks (Nat.le_refl _) (fun b hb y _ => by rw [St.get_upd, if_neg (by omega)]) (Nat.le_refl _), fun b hb e => ?_, h.d2, fun b hb e => ?_⟩⟩
  · rw [St.get_upd, if_neg (by omega), low b (by omega)]; exact h.over.get b hb
  · rw [St.get_upd, if_neg (by omega), low _ (by omega)]; exact h.res
  · rw [hrb] at e; have := Option.some.inj e; have := bp b hb; omega
  · rw [hrb] at hb; have := Option.some.inj hb; have := bu b e; omega
theorem RK.pushS (h : RK z A id p q u B N S A') (x : Int) (hl : S.length ≤ 1048576) :
    ∃ v' A2, aappend Try.prog (A'.alloc (.cells [.int .i64 x] 3 (some 0))) 25 25 u (.slice (some ⟨A'.next, 0, none⟩) 1 1) = some (v', A2) ∧ A2.get (A.next + 1) = some (verB id p q u) ∧ one1 v' = true ∧ RK z A id p q v' B N (S ++ [x]) (A2.upd (A.next + 1) (some (verB id p q v'))) := by
  have hlo := h.lo
  obtain ⟨v', A2, hap, hr2, hn2, hrb, hf2⟩ := in_push h.rs x (by omega) (by omega)
  have low : ∀ b, b < A.next + 2 → A2.get b = A'.get b := fun b hb => hf2 b (by omega) (fun e => by have := (Row.rb h.rs b e).1; omega)
  have kb : HsRow A2 (A.next + 2) B p := Row.keep h.rb (by omega) (fun b hb _ hlt => hf2 b hlt (fun e => h.d2 b hb e)) (Nat.le_refl _)
  have kn : StRow A2 (A.next + 2) N q := Row.keep h.rn (by omega) (fun b hb _ hlt => hf2 b hlt (fun e => h.d3 b hb e)) (Nat.le_refl _)
  have bp := fun b hb => (Row.rb h.rb b hb).2
  have bq := fun b hb => (Row.rb h.rn b hb).2
  refine ⟨v', A2, hap, (low _ (by omega)).trans h.vs, Row.sing hr2, ⟨⟨by have := h.over.next; simp only [nx_upd]; omega, fun b hb => ?_⟩, by simp only [nx_upd]; omega, ?_, get_upd_same .., Row.keep kb (Nat.le_refl _) (fun b hb y _ => by rw [St.get_upd, if_neg (by omega)]) (Nat.le_refl _), Row.keep kn (Nat.le_refl _) (fun b hb y _ => by rw [St.get_upd, if_neg (by omega)]) (Nat.le_refl _), Row.keep hr2 (Nat.le_refl _) (fun b hb y _ => by rw [St.get_upd, if_neg (by omega)]) (Nat.le_refl _), h.d1, fun b hb e => ?_, fun b hb e => ?_⟩⟩
  · rw [St.get_upd, if_neg (by omega), low b (by omega)]; exact h.over.get b hb
  · rw [St.get_upd, if_neg (by omega), low _ (by omega)]; exact h.res
  · rw [hrb] at e; have := Option.some.inj e; have := bp b hb; omega
  · rw [hrb] at e; have := Option.some.inj e; have := bq b hb; omega
theorem RK.ver (h : RK z A id p q u B N S A') : VerV A' ⟨id, B, N, S⟩ (.agg #[.int .u32 id, p, q, u]) := ⟨p, q, u, rfl, Row.view h.rb, Row.view h.rn, Row.view h.rs⟩
theorem RK.verRes (h : RK z A id p q u B N S A') (b : Option Blk) : VerRow (A'.upd A.next b) A.next ⟨id, B, N, S⟩ (.agg #[.int .u32 id, p, q, u]) :=
  VerRow.keep (A := A') ⟨p, q, u, rfl, h.rb, h.rn, h.rs⟩ (Nat.le_refl _) (fun b hb _ => by rw [St.get_upd, if_neg (by omega)]) (by omega)
theorem RK.ext (h : RK z A id p q u B N S A') {A2 : St} (o : Over A' A2) : RK z A id p q u B N S A2 := by
  have hl := h.lo
  have hn := o.next
  have k := fun (b : Nat) (hb : b < A'.next) => o.get b hb
  refine ⟨h.over.trans o, by omega, (k _ (by omega)).trans h.res, (k _ (by omega)).trans h.vs, Row.keep h.rb hn (fun b _ _ hlt => k b hlt) (Nat.le_refl _), Row.keep h.rn hn (fun b _ _ hlt => k b hlt) (Nat.le_refl _), Row.keep h.rs hn (fun b _ _ hlt => k b hlt) (Nat.le_refl _), h.d1, h.d2, h.d3⟩
end Go.Fw
