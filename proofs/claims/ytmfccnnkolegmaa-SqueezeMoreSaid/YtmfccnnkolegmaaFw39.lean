import Derived.Test.YtmfccnnkolegmaaFw36
/-! Walks cut at a place: what holds behind a piece of code, once for all ways to it. -/
set_option linter.unusedSimpArgs false
set_option linter.unusedVariables false
namespace Go.Fw
open Go.RowKit
section
variable {P : Program} {w0 : World} {n0 : Nat} {nr : Bool} {Q Q' : Exit → Act → St → Prop} {a : Act} {A : St}
theorem aopsL_mono {ds : List (Option Tmp)} (hq : ∀ e a A, Q' e a A → Q e a A) : ∀ (l : List Oper) {a : Act} {A : St}, aopsL P w0 nr ds Q' l a A → aopsL P w0 nr ds Q l a A
  | [], a, A, h => hq _ _ _ h
  | o :: r, a, A, h => by
    unfold aopsL at h ⊢
    split
    · rename_i hw
      rw [if_pos hw] at h
      exact aoper_imp rfl rfl (fun a A h => aopsL_mono hq r h) (fun c a A h => hq _ _ _ h) h
    · rename_i hw
      rw [if_neg hw] at h
      exact aopsL_mono hq r h
theorem thenQ_mono {K K' : Act → St → Prop} (hk : ∀ a A, K' a A → K a A) (hq : ∀ e a A, Q' e a A → Q e a A) : ∀ e a A, thenQ K' Q' e a A → thenQ K Q e a A := fun e a A h => by
  cases e with
  | normal => exact hk _ _ h
  | _ => exact hq _ _ _ h
theorem blockQ_mono {i : Nat} (hq : ∀ e a A, Q' e a A → Q e a A) : ∀ e a A, blockQ i Q' e a A → blockQ i Q e a A := fun e a A h => by
  cases e with
  | exit j =>
    rw [blockQ_exit] at h ⊢
    split
    · rename_i hj; rw [if_pos hj] at h; exact hq _ _ _ h
    · rename_i hj; rw [if_neg hj] at h; exact hq _ _ _ h
  | _ => exact hq _ _ _ h
theorem wpA_mono {c : Code} : ∀ {Q Q' : Exit → Act → St → Prop} {a : Act} {A : St}, wpA P w0 n0 nr c Q' a A → (∀ e a A, Q' e a A → Q e a A) → wpA P w0 n0 nr c Q a A := by
  induction c with
  | seq x y ihx ihy => exact fun h hq => ihx h (thenQ_mono (fun a A h => ihy h hq) hq)
  | block i c ih => exact fun h hq => ih h (blockQ_mono hq)
  | cond c x y ihx ihy =>
    intro Q Q' a A h hq
    cases c with
    | tmp t =>
      simp only [wpA] at h ⊢
      split at h
      · rename_i b hb
        exact ⟨fun hb => ihx (h.1 hb) hq, fun hb => ihy (h.2 hb) hq⟩
      · exact h.elim
    | _ => exact AW.mono h hq
  | region id ops d =>
    intro Q Q' a A h hq
    cases d with
    | false => exact aopsL_mono hq _ h
    | true => exact AW.mono h hq
  | skip => exact fun h hq => hq _ _ _ h
  | label l => exact fun h hq => hq _ _ _ h
  | exit i => exact fun h hq => hq _ _ _ h
  | goto i => exact fun h hq => hq _ _ _ h
  | ret => exact fun h hq => hq _ _ _ h
  | _ => exact fun h hq => AW.mono h hq
/-- A normal end, and no other. -/
def normQ (R : Act → St → Prop) (e : Exit) (a : Act) (A : St) : Prop := e = .normal ∧ R a A
theorem normQ_normal (R : Act → St → Prop) (a : Act) (A : St) : normQ R .normal a A = R a A := by simp [normQ]
/-- An end by one exit, and no other. -/
def exitQ (i : Nat) (R : Act → St → Prop) (e : Exit) (a : Act) (A : St) : Prop := e = .exit i ∧ R a A
theorem exitQ_exit (i : Nat) (R : Act → St → Prop) (a : Act) (A : St) : exitQ i R (.exit i) a A = R a A := by simp [exitQ]
theorem cutW (R : Act → St → Prop) {c : Code} (h : wpA P w0 n0 nr c (normQ R) a A) (h2 : ∀ a A, R a A → Q .normal a A) : wpA P w0 n0 nr c Q a A :=
  wpA_mono h fun e a A he => by obtain ⟨rfl, he⟩ := he; exact h2 a A he
theorem cutL (i : Nat) (R : Act → St → Prop) {c : Code} (h : AW P w0 n0 nr c (exitQ i R) a A) (h2 : ∀ a A, R a A → Q (.exit i) a A) : AW P w0 n0 nr c Q a A :=
  AW.mono h fun e a A he => by obtain ⟨rfl, he⟩ := he; exact h2 a A he
/-- Two ways that come together. -/
theorem ifB_join (R : Act → St → Prop) {b : Bool} {x y : Code} (hx : b = true → wpA P w0 n0 nr x (normQ R) a A) (hy : b = false → wpA P w0 n0 nr y (normQ R) a A) (h2 : ∀ a A, R a A → Q .normal a A) : ifB b (wpA P w0 n0 nr x Q) (wpA P w0 n0 nr y Q) a A := by
  cases b with
  | true => rw [ifB_true]; exact cutW R (hx rfl) h2
  | false => rw [ifB_false]; exact cutW R (hy rfl) h2
end
end Go.Fw
