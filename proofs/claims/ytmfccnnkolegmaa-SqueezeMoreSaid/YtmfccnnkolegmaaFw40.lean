import Derived.Test.YtmfccnnkolegmaaFw39
/-! A scope through which the run goes without a goto. -/
set_option linter.unusedSimpArgs false
set_option linter.unusedVariables false
namespace Go.Fw
open Go.RowKit
section
variable {P : Program}
theorem stepR_scope {b : Frame} {a : Act} {k : List Item} {cs : List Frame} {w : World} {c : Code} : step P (lone (b.atR a (.code (.scope c) :: k)) cs w) = .next (lone (b.atR a (.code c :: .inScope c :: k)) cs w) :=
  step_lone_go (by simp [stepG, stepG.exec, Frame.atR])
theorem stepR_inScope {b : Frame} {a : Act} {k : List Item} {cs : List Frame} {w : World} {c : Code} : step P (lone (b.atR a (.inScope c :: k)) cs w) = .next (lone (b.atR a k) cs w) :=
  step_lone_go (by simp [stepG, stepG.exec, Frame.atR])
def noGotoW (Q : Exit → Act → World → Prop) : Exit → Act → World → Prop
  | .goto _, _, _ => False
  | e, a, w => Q e a w
theorem wpIn_scope {F : Fence} {n : Nat} {Q : Exit → Act → World → Prop} {a : Act} {w : World} {c : Code} (h : c.wpIn F n P (noGotoW Q) a w) : (Code.scope c).wpIn F n P Q a w := by
  intro b k cs hro hb hr
  have h0 : (lone (b.atR a (.code (.scope c) :: k)) cs w).fenced P F := fenced_calm hb hr rfl
  obtain ⟨e, a₁, w₁, hq, harr⟩ := h b (.inScope c :: k) cs hro hb hr
  cases e with
  | normal => exact ⟨.normal, a₁, w₁, hq, .head h0 stepR_scope (StepsIn.trans harr (.one (fenced_calm hb hr rfl) stepR_inScope))⟩
  | exit id =>
    have hx : exitTo id (.inScope c :: k) = exitTo id k := by simp [exitTo]
    exact ⟨.exit id, a₁, w₁, hq, fun k' hk => .head h0 stepR_scope (harr.1 k' (by rw [hx]; exact hk)),
      fun hr' hk => let ⟨k₁, h1, h2⟩ := harr.2 hr' (by rw [hx]; exact hk); ⟨k₁, h1, .head h0 stepR_scope h2⟩⟩
  | goto l => exact hq.elim
  | ret => exact ⟨_, a₁, w₁, hq, .of_steps (.one h0 stepR_scope) harr⟩
  | panic ch => exact ⟨_, a₁, w₁, hq, .of_steps (.one h0 stepR_scope) harr⟩
  | outgrown => exact ⟨_, a₁, w₁, hq, .of_steps (.one h0 stepR_scope) harr⟩
def scopeQ (Q : Exit → Act → St → Prop) : Exit → Act → St → Prop
  | .goto _, _, _ => False
  | e, a, A => Q e a A
variable {w0 : World} {n0 : Nat} {nr : Bool} {Q : Exit → Act → St → Prop} {a : Act} {A : St}
theorem aw_scope {c : Code} (h : AW P w0 n0 nr c (scopeQ Q) a A) : AW P w0 n0 nr (.scope c) Q a A := by
  intro rd φ w ca hrd hn hs ha
  refine wpIn_scope (wpIn_mono (h rd φ w ca hrd hn hs ha) ?_)
  rintro ce ca' w' ⟨e, φ', a', A', h1, h2, h3, h4, h5, h6⟩
  cases h2 with
  | normal => exact ⟨_, φ', a', A', h1, .normal, h3, h4, h5, h6⟩
  | exit i => exact ⟨_, φ', a', A', h1, .exit i, h3, h4, h5, h6⟩
  | goto i => exact h1.elim
  | ret => exact ⟨_, φ', a', A', h1, .ret, h3, h4, h5, h6⟩
  | panic hc => exact ⟨_, φ', a', A', h1, .panic hc, h3, h4, h5, h6⟩
theorem scopeQ_ret : scopeQ Q .ret a A = Q .ret a A := Eq.trans rfl rfl
end
end Go.Fw
