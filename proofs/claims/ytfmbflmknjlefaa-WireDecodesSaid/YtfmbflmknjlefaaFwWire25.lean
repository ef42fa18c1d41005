import Derived.Test.YtfmbflmknjlefaaFwWire24
set_option linter.unusedSimpArgs false
set_option linter.unusedVariables false
set_option maxRecDepth 4000
namespace Go.Fw
open Go.Proofs Go.RowKit
/-! The reference's decoder as steps upon a state; what it comes to. -/
theorem fixS_err {w : Int} {s : RS} (h : s.2 ≠ 0) : fixS w s = (0, s) := if_pos h
theorem fixS_ok {w : Int} {r : List Int} {x : Int} {t : List Int} {e : Int} (h : fixL r w = (x, t, e)) : fixS w (r, 0) = (x, (t, e)) := by unfold fixS; rw [if_neg (by simp), h]
theorem manyQ_err {m : Int} {s : RS} (h : s.2 ≠ 0) : manyQ m s = (0, s) := by unfold manyQ; rw [fixS_err h, if_neg (fun k => h k.1), if_pos h]
theorem reqS_err {s : RS} (h : s.2 ≠ 0) : reqS s = (rq0, s) := if_pos h
theorem verS_err {s : RS} (h : s.2 ≠ 0) : verS s = (verN, s) := if_pos h
def reqsN : Nat → RS → List ReqT → List ReqT × RS
  | 0, s, acc => (acc, s)
  | k + 1, s, acc => reqsN k (reqS s).2 (acc ++ [(reqS s).1])
def idsN : Nat → RS → List Int → List Int × RS
  | 0, s, acc => (acc, s)
  | k + 1, s, acc => idsN k (fixS 4 s).2 (acc ++ [(fixS 4 s).1])
theorem reqsN_err : ∀ (k : Nat) (s : RS) (acc : List ReqT), s.2 ≠ 0 → (reqsN k s acc).2 = s
  | 0, s, acc, h => rfl
  | k + 1, s, acc, h => by unfold reqsN; rw [reqS_err h]; exact reqsN_err k s _ h
theorem idsN_err : ∀ (k : Nat) (s : RS) (acc : List Int), s.2 ≠ 0 → (idsN k s acc).2 = s
  | 0, s, acc, h => rfl
  | k + 1, s, acc, h => by unfold idsN; rw [fixS_err h]; exact idsN_err k s _ h
theorem reqsN_ok : ∀ (k : Nat) (r : List Int) (acc l : List ReqT) (t : List Int) (e : Int), reqN k acc r = (l, t, e) → (e = 0 → reqsN k (r, 0) acc = (l, (t, 0))) ∧ (e ≠ 0 → (reqsN k (r, 0) acc).2.2 = e)
  | 0, r, acc, l, t, e, h => by
    injection h with h1 h2; injection h2 with h2 h3; subst h1 h2 h3
    exact ⟨fun _ => rfl, fun h => absurd rfl h⟩
  | k + 1, r, acc, l, t, e, h => by
    rcases h1 : reqP r with ⟨x, s, f⟩
    have hs : reqS (r, 0) = (x, (s, f)) := by unfold reqS; rw [if_neg (by simp), h1]
    by_cases hf : f = 0
    · subst hf
      rw [reqN_go h1] at h
      unfold reqsN
      rw [hs]
      exact reqsN_ok k s _ l t e h
    · rw [reqN_stop h1 hf] at h
      injection h with _ h2; injection h2 with _ h3; subst h3
      refine ⟨fun h => absurd h hf, fun _ => ?_⟩
      unfold reqsN
      rw [hs, reqsN_err _ _ _ hf]
theorem idsN_ok : ∀ (k : Nat) (r : List Int) (acc l : List Int) (t : List Int) (e : Int), u32N k acc r = (l, t, e) → (e = 0 → idsN k (r, 0) acc = (l, (t, 0))) ∧ (e ≠ 0 → (idsN k (r, 0) acc).2.2 = e)
  | 0, r, acc, l, t, e, h => by
    injection h with h1 h2; injection h2 with h2 h3; subst h1 h2 h3
    exact ⟨fun _ => rfl, fun h => absurd rfl h⟩
  | k + 1, r, acc, l, t, e, h => by
    rcases h1 : fixL r 4 with ⟨x, s, f⟩
    have hs := fixS_ok h1
    by_cases hf : f = 0
    · subst hf
      rw [u32N_go h1] at h
      unfold idsN
      rw [hs]
      exact idsN_ok k s _ l t e h
    · rw [u32N_stop h1 hf] at h
      injection h with _ h2; injection h2 with _ h3; subst h3
      refine ⟨fun h => absurd h hf, fun _ => ?_⟩
      unfold idsN
      rw [hs, idsN_err _ _ _ hf]
def stp (w : Int) (f : Int → MsgT → MsgT) (K : MsgT → RS → MsgT × Int) (m : MsgT) (s : RS) : MsgT × Int := K (f (fixS w s).1 m) (fixS w s).2
def Stops (K : MsgT → RS → MsgT × Int) : Prop := ∀ m s, s.2 ≠ 0 → K m s = (msg0, s.2)
theorem stp_stops {w : Int} {f : Int → MsgT → MsgT} {K : MsgT → RS → MsgT × Int} (h : Stops K) : Stops (stp w f K) := fun m s hs => by unfold stp; rw [fixS_err hs]; exact h _ _ hs
def T17 (m : MsgT) (s : RS) : MsgT × Int := if (textS s).2.2 ≠ 0 then (msg0, (textS s).2.2) else if (textS s).2.1 ≠ [] then (msg0, 42) else if mayM { m with block := strOfNums (textS s).1 } = false then (msg0, 1) else ({ m with block := strOfNums (textS s).1 }, 0)
theorem T17_stops : Stops T17 := fun m s hs => by
  have h : textS s = ([], s) := if_pos hs
  unfold T17; rw [h, if_pos hs]
def T16 (m : MsgT) (s : RS) : MsgT × Int := T17 { m with hash := (hashS s).1 } (hashS s).2
theorem T16_stops : Stops T16 := fun m s hs => by
  have h : hashS s = (zeroH, s) := if_pos hs
  unfold T16; rw [h]; exact T17_stops _ _ hs
def T15 (m : MsgT) (s : RS) : MsgT × Int := T16 { m with reply := ⟨m.reply.e, m.reply.ids, (verS s).1⟩ } (verS s).2
theorem T15_stops : Stops T15 := fun m s hs => by unfold T15; rw [verS_err hs]; exact T16_stops _ _ hs
def T14 (m : MsgT) (p : List Int × RS) : MsgT × Int := T15 { m with reply := ⟨m.reply.e, p.1, m.reply.v⟩ } p.2
def T13 (m : MsgT) (s : RS) : MsgT × Int := T14 m (idsN (manyQ 8 s).1.toNat (manyQ 8 s).2 [])
theorem T13_stops : Stops T13 := fun m s hs => by
  unfold T13 T14; rw [manyQ_err hs]; exact T15_stops _ _ hs
def T12 : MsgT → RS → MsgT × Int := stp 2 (fun x m => { m with reply := ⟨x, m.reply.ids, m.reply.v⟩ }) T13
def T11 : MsgT → RS → MsgT × Int := stp 4 (fun x m => { m with seq := x }) T12
def T10 : MsgT → RS → MsgT × Int := stp 1 (fun x m => { m with client := x }) T11
def T9 (m : MsgT) (p : List ReqT × RS) : MsgT × Int := T10 { m with log := p.1 } p.2
def T8 (m : MsgT) (s : RS) : MsgT × Int := T9 m (reqsN (manyQ 40 s).1.toNat (manyQ 40 s).2 [])
def T7 : MsgT → RS → MsgT × Int := stp 1 (fun x m => { m with commit := x }) T8
def T6 : MsgT → RS → MsgT × Int := stp 1 (fun x m => { m with n := x }) T7
def T5 : MsgT → RS → MsgT × Int := stp 4 (fun x m => { m with last := x }) T6
def T4 : MsgT → RS → MsgT × Int := stp 4 (fun x m => { m with view := x }) T5
def T3 : MsgT → RS → MsgT × Int := stp 1 (fun x m => { m with dst := x }) T4
def T2 : MsgT → RS → MsgT × Int := stp 1 (fun x m => { m with src := x }) T3
def T1 : MsgT → RS → MsgT × Int := stp 1 (fun x m => { m with kind := x }) T2
theorem T12_stops : Stops T12 := stp_stops T13_stops
theorem T11_stops : Stops T11 := stp_stops T12_stops
theorem T10_stops : Stops T10 := stp_stops T11_stops
theorem T8_stops : Stops T8 := fun m s hs => by
  unfold T8 T9; rw [manyQ_err hs]; exact T10_stops _ _ hs
theorem T7_stops : Stops T7 := stp_stops T8_stops
theorem T6_stops : Stops T6 := stp_stops T7_stops
theorem T5_stops : Stops T5 := stp_stops T6_stops
theorem T4_stops : Stops T4 := stp_stops T5_stops
theorem T3_stops : Stops T3 := stp_stops T4_stops
theorem T2_stops : Stops T2 := stp_stops T3_stops
theorem stp_go {w : Int} {f : Int → MsgT → MsgT} {K : MsgT → RS → MsgT × Int} {m : MsgT} {r : List Int} {x : Int} {t : List Int} {e : Int} (h : fixL r w = (x, t, e)) : stp w f K m (r, 0) = K (f x m) (t, e) := by unfold stp; rw [fixS_ok h]
theorem T17_eq (m : MsgT) (r : List Int) : T17 m (r, 0) = match readL r with | (x, r2, e2) => if e2 ≠ 0 then (msg0, e2) else if r2 ≠ [] then (msg0, 42) else if mayM { m with block := strOfNums x } = false then (msg0, 1) else ({ m with block := strOfNums x }, 0) := by
  have h : textS (r, 0) = ((readL r).1, ((readL r).2.1, (readL r).2.2)) := if_neg (by simp)
  unfold T17; rw [h]
theorem T16_eq (m : MsgT) (r : List Int) : T16 m (r, 0) = decT m r := by
  unfold T16 decT
  rcases h : hashS (r, 0) with ⟨hh, r1, e1⟩
  by_cases he : e1 = 0
  · subst he
    simp only [ne_eq, not_true_eq_false, ↓reduceIte]
    rw [T17_eq]
  · simp only [ne_eq, he, not_false_eq_true, ↓reduceIte]
    exact T17_stops _ _ he
theorem manyQ_ok {most : Int} {r : List Int} {n : Int} {t : List Int} {e : Int} (h : fixL r 1 = (n, t, e)) : manyQ most (r, 0) = if e = 0 ∧ n > most then (0, (t, 111)) else if e ≠ 0 then (0, (t, e)) else (n, (t, e)) := by
  unfold manyQ; rw [fixS_ok h]
theorem T13_eq (m : MsgT) (r : List Int) : T13 m (r, 0) = match listU 8 r with | (ids, r4, e4) => if e4 ≠ 0 then (msg0, e4) else T15 { m with reply := ⟨m.reply.e, ids, m.reply.v⟩ } (r4, 0) := by
  unfold T13 T14 listU
  rcases h : fixL r 1 with ⟨n, t, e⟩
  rw [manyQ_ok h]
  by_cases he : e = 0
  · subst he
    by_cases hn : n > 8
    · simp only [ne_eq, not_true_eq_false, hn, and_self, ↓reduceIte, reduceCtorEq, not_false_eq_true]
      exact T15_stops _ (t, 111) (show (111 : Int) ≠ 0 by decide)
    · simp only [ne_eq, not_true_eq_false, hn, and_false, ↓reduceIte]
      rcases h2 : u32N n.toNat [] t with ⟨l, r4, e4⟩
      obtain ⟨q1, q2⟩ := idsN_ok _ _ _ _ _ _ h2
      by_cases h4 : e4 = 0
      · subst h4
        rw [q1 rfl]
        simp only [not_true_eq_false, ↓reduceIte]
      · simp only [h4, not_false_eq_true, ↓reduceIte]
        have := q2 h4
        rw [T15_stops _ _ (by rw [this]; exact h4), this]
  · simp only [ne_eq, he, false_and, not_false_eq_true, ↓reduceIte]
    exact T15_stops _ (t, e) he
theorem T15_eq (m : MsgT) (r : List Int) : T15 m (r, 0) = match progR r with | (V, r5, e5) => if e5 ≠ 0 then (msg0, e5) else T16 { m with reply := ⟨m.reply.e, m.reply.ids, V⟩ } (r5, 0) := by
  have h : verS (r, 0) = ((progR r).1, ((progR r).2.1, (progR r).2.2)) := if_neg (by simp)
  unfold T15; rw [h]
  rcases progR r with ⟨V, r5, e5⟩
  by_cases he : e5 = 0
  · subst he; simp only [ne_eq, not_true_eq_false, ↓reduceIte]
  · simp only [ne_eq, he, not_false_eq_true, ↓reduceIte]; exact T16_stops _ (r5, e5) he
theorem T10_eq (m : MsgT) (hv : m.reply = ⟨0, [], verN⟩) (r : List Int) : T10 m (r, 0) = decL m r := by
  unfold decL T10
  rcases h1 : fixL r 1 with ⟨cl, r1, e1⟩
  rw [stp_go h1]
  by_cases z1 : e1 = 0
  rotate_left
  · simp only [ne_eq, z1, not_false_eq_true, ↓reduceIte]; exact T11_stops _ (r1, e1) z1
  subst z1
  simp only [ne_eq, not_true_eq_false, ↓reduceIte]
  unfold T11
  rcases h2 : fixL r1 4 with ⟨sq, r2, e2⟩
  rw [stp_go h2]
  by_cases z2 : e2 = 0
  rotate_left
  · simp only [ne_eq, z2, not_false_eq_true, ↓reduceIte]; exact T12_stops _ (r2, e2) z2
  subst z2
  simp only [ne_eq, not_true_eq_false, ↓reduceIte]
  unfold T12
  rcases h3 : fixL r2 2 with ⟨er, r3, e3⟩
  rw [stp_go h3]
  by_cases z3 : e3 = 0
  rotate_left
  · simp only [ne_eq, z3, not_false_eq_true, ↓reduceIte]; exact T13_stops _ (r3, e3) z3
  subst z3
  simp only [ne_eq, not_true_eq_false, ↓reduceIte]
  rw [T13_eq]
  rcases h4 : listU 8 r3 with ⟨ids, r4, e4⟩
  by_cases z4 : e4 = 0
  rotate_left
  · simp only [ne_eq, z4, not_false_eq_true, ↓reduceIte]
  subst z4
  simp only [ne_eq, not_true_eq_false, ↓reduceIte]
  rw [T15_eq]
  rcases h5 : progR r4 with ⟨V, r5, e5⟩
  by_cases z5 : e5 = 0
  rotate_left
  · simp only [ne_eq, z5, not_false_eq_true, ↓reduceIte]
  subst z5
  simp only [ne_eq, not_true_eq_false, ↓reduceIte]
  rw [T16_eq]
theorem T8_eq (m : MsgT) (hv : m.reply = ⟨0, [], verN⟩) (r : List Int) : T8 m (r, 0) = match listR 40 r with | (lg, r6, e6) => if e6 ≠ 0 then (msg0, e6) else decL { m with log := lg } r6 := by
  unfold T8 T9 listR
  rcases h : fixL r 1 with ⟨n, t, e⟩
  rw [manyQ_ok h]
  by_cases he : e = 0
  · subst he
    by_cases hn : n > 40
    · simp only [ne_eq, not_true_eq_false, hn, and_self, ↓reduceIte, reduceCtorEq, not_false_eq_true]
      exact T10_stops _ (t, 111) (show (111 : Int) ≠ 0 by decide)
    · simp only [ne_eq, not_true_eq_false, hn, and_false, ↓reduceIte]
      rcases h2 : reqN n.toNat [] t with ⟨l, r4, e4⟩
      obtain ⟨q1, q2⟩ := reqsN_ok _ _ _ _ _ _ h2
      by_cases h4 : e4 = 0
      · subst h4
        rw [q1 rfl]
        simp only [not_true_eq_false, ↓reduceIte]
        exact T10_eq { m with log := l } hv _
      · simp only [h4, not_false_eq_true, ↓reduceIte]
        have := q2 h4
        rw [T10_stops _ _ (by rw [this]; exact h4), this]
  · simp only [ne_eq, he, false_and, not_false_eq_true, ↓reduceIte]
    exact T10_stops _ (t, e) he
theorem T1_eq (r : List Int) : T1 msg0 (r, 0) = decP r := by
  unfold decP T1
  rcases h1 : fixL r 1 with ⟨x1, r1, e1⟩
  rw [stp_go h1]
  by_cases z1 : e1 = 0
  rotate_left
  · rw [show (3 : Nat) = 2 + 1 from rfl, u8N_stop h1 z1]
    simp only [ne_eq, z1, not_false_eq_true, ↓reduceIte]; exact T2_stops _ (r1, e1) z1
  subst z1
  rw [show (3 : Nat) = 2 + 1 from rfl, u8N_go h1]
  unfold T2
  rcases h2 : fixL r1 1 with ⟨x2, r2, e2⟩
  rw [stp_go h2]
  by_cases z2 : e2 = 0
  rotate_left
  · rw [show (2 : Nat) = 1 + 1 from rfl, u8N_stop h2 z2]
    simp only [ne_eq, z2, not_false_eq_true, ↓reduceIte]; exact T3_stops _ (r2, e2) z2
  subst z2
  rw [show (2 : Nat) = 1 + 1 from rfl, u8N_go h2]
  unfold T3
  rcases h3 : fixL r2 1 with ⟨x3, r3, e3⟩
  rw [stp_go h3]
  by_cases z3 : e3 = 0
  rotate_left
  · rw [show (1 : Nat) = 0 + 1 from rfl, u8N_stop h3 z3]
    simp only [ne_eq, z3, not_false_eq_true, ↓reduceIte]; exact T4_stops _ (r3, e3) z3
  subst z3
  rw [show (1 : Nat) = 0 + 1 from rfl, u8N_go h3]
  rw [show u8N 0 ([] ++ [x1] ++ [x2] ++ [x3]) r3 = ([x1, x2, x3], r3, 0) from rfl]
  simp only [ne_eq, not_true_eq_false, ↓reduceIte]
  unfold T4
  rcases h4 : fixL r3 4 with ⟨x4, r4, e4⟩
  rw [stp_go h4]
  by_cases z4 : e4 = 0
  rotate_left
  · simp only [ne_eq, z4, not_false_eq_true, ↓reduceIte]; exact T5_stops _ (r4, e4) z4
  subst z4
  simp only [ne_eq, not_true_eq_false, ↓reduceIte]
  unfold T5
  rcases h5 : fixL r4 4 with ⟨x5, r5, e5⟩
  rw [stp_go h5]
  by_cases z5 : e5 = 0
  rotate_left
  · simp only [ne_eq, z5, not_false_eq_true, ↓reduceIte]; exact T6_stops _ (r5, e5) z5
  subst z5
  simp only [ne_eq, not_true_eq_false, ↓reduceIte]
  unfold T6
  rcases h6 : fixL r5 1 with ⟨x6, r6, e6⟩
  rw [stp_go h6]
  by_cases z6 : e6 = 0
  rotate_left
  · simp only [ne_eq, z6, not_false_eq_true, ↓reduceIte]; exact T7_stops _ (r6, e6) z6
  subst z6
  simp only [ne_eq, not_true_eq_false, ↓reduceIte]
  unfold T7
  rcases h7 : fixL r6 1 with ⟨x7, r7, e7⟩
  rw [stp_go h7]
  by_cases z7 : e7 = 0
  rotate_left
  · simp only [ne_eq, z7, not_false_eq_true, ↓reduceIte]; exact T8_stops _ (r7, e7) z7
  subst z7
  simp only [ne_eq, not_true_eq_false, ↓reduceIte]
  rw [T8_eq _ rfl]
  rfl
/-- What was decoded may be, and its bytes are those. -/
theorem decP_inv {r : List Int} (hr : RW r) {m : MsgT} (h : decP r = (m, 0)) : mayM m = true ∧ m.okA ∧ m.small ∧ r = encM m := by
  have h0 : ∀ {a : MsgT} {e : Int}, e ≠ 0 → (msg0, e) = (a, (0 : Int)) → False := fun he h => by injection h with _ h; exact he h
  unfold decP at h
  rcases hA : u8N 3 [] r with ⟨l3, r1, e1⟩
  rw [hA] at h
  simp only at h
  by_cases z : e1 = 0
  rotate_left
  · rw [if_pos z] at h; exact (h0 z h).elim
  subst z
  rw [if_neg (by simp)] at h
  -- the first three
  obtain ⟨a, b, c, rfl, ha, hb, hc, hr1, e3⟩ : ∃ a b c, l3 = [a, b, c] ∧ (0 ≤ a ∧ a < 256) ∧ (0 ≤ b ∧ b < 256) ∧ (0 ≤ c ∧ c < 256) ∧ RW r1 ∧ r = [a, b, c] ++ r1 := by
    rcases h1 : fixL r 1 with ⟨x1, t1, f1⟩
    by_cases z1 : f1 = 0
    rotate_left
    · rw [show (3 : Nat) = 2 + 1 from rfl, u8N_stop h1 z1] at hA; injection hA with _ hA; injection hA with _ hA; exact absurd hA z1
    subst z1
    rw [show (3 : Nat) = 2 + 1 from rfl, u8N_go h1] at hA
    obtain ⟨w1, _, c1, d1, _⟩ := fixL_facts hr (by omega) (by omega) h1
    simp only [Int.reduceToNat, Int.reducePow] at d1
    have i1 := fixL_inv hr (by omega) (by omega) h1
    rcases h2 : fixL t1 1 with ⟨x2, t2, f2⟩
    by_cases z2 : f2 = 0
    rotate_left
    · rw [show (2 : Nat) = 1 + 1 from rfl, u8N_stop h2 z2] at hA; injection hA with _ hA; injection hA with _ hA; exact absurd hA z2
    subst z2
    rw [show (2 : Nat) = 1 + 1 from rfl, u8N_go h2] at hA
    obtain ⟨w2, _, c2, d2, _⟩ := fixL_facts w1 (by omega) (by omega) h2
    simp only [Int.reduceToNat, Int.reducePow] at d2
    have i2 := fixL_inv w1 (by omega) (by omega) h2
    rcases h3 : fixL t2 1 with ⟨x3, t3, f3⟩
    by_cases z3 : f3 = 0
    rotate_left
    · rw [show (1 : Nat) = 0 + 1 from rfl, u8N_stop h3 z3] at hA; injection hA with _ hA; injection hA with _ hA; exact absurd hA z3
    subst z3
    rw [show (1 : Nat) = 0 + 1 from rfl, u8N_go h3] at hA
    obtain ⟨w3, _, c3, d3, _⟩ := fixL_facts w2 (by omega) (by omega) h3
    simp only [Int.reduceToNat, Int.reducePow] at d3
    have i3 := fixL_inv w2 (by omega) (by omega) h3
    injection hA with hl hA
    injection hA with hA _
    subst hA
    have j1 := bigL_one c1 (by omega)
    have j2 := bigL_one c2 (by omega)
    have j3 := bigL_one c3 (by omega)
    refine ⟨x1, x2, x3, hl.symm, ⟨c1, by omega⟩, ⟨c2, by omega⟩, ⟨c3, by omega⟩, w3, ?_⟩
    rw [i1, i2, i3]
    change bigL x1.toNat 1 ++ (bigL x2.toNat 1 ++ (bigL x3.toNat 1 ++ t3)) = _
    rw [j1, j2, j3]; rfl
  rcases h4 : fixL r1 4 with ⟨vw, r2, e⟩
  rw [h4] at h; simp only at h
  by_cases z : e = 0
  rotate_left
  · rw [if_pos z] at h; exact (h0 z h).elim
  subst z
  rw [if_neg (by simp)] at h
  obtain ⟨w4, _, c4, d4, _⟩ := fixL_facts hr1 (by omega) (by omega) h4
  simp only [Int.reduceToNat, Int.reducePow] at d4
  have i4 := fixL_inv hr1 (by omega) (by omega) h4
  rcases h5 : fixL r2 4 with ⟨la, r3, e⟩
  rw [h5] at h; simp only at h
  by_cases z : e = 0
  rotate_left
  · rw [if_pos z] at h; exact (h0 z h).elim
  subst z
  rw [if_neg (by simp)] at h
  obtain ⟨w5, _, c5, d5, _⟩ := fixL_facts w4 (by omega) (by omega) h5
  simp only [Int.reduceToNat, Int.reducePow] at d5
  have i5 := fixL_inv w4 (by omega) (by omega) h5
  rcases h6 : fixL r3 1 with ⟨n, r4, e⟩
  rw [h6] at h; simp only at h
  by_cases z : e = 0
  rotate_left
  · rw [if_pos z] at h; exact (h0 z h).elim
  subst z
  rw [if_neg (by simp)] at h
  obtain ⟨w6, _, c6, d6, _⟩ := fixL_facts w5 (by omega) (by omega) h6
  simp only [Int.reduceToNat, Int.reducePow] at d6
  have i6 := fixL_inv w5 (by omega) (by omega) h6
  rcases h7 : fixL r4 1 with ⟨cm, r5, e⟩
  rw [h7] at h; simp only at h
  by_cases z : e = 0
  rotate_left
  · rw [if_pos z] at h; exact (h0 z h).elim
  subst z
  rw [if_neg (by simp)] at h
  obtain ⟨w7, _, c7, d7, _⟩ := fixL_facts w6 (by omega) (by omega) h7
  simp only [Int.reduceToNat, Int.reducePow] at d7
  have i7 := fixL_inv w6 (by omega) (by omega) h7
  rcases h8 : listR 40 r5 with ⟨lg, r6, e⟩
  rw [h8] at h; simp only at h
  by_cases z : e = 0
  rotate_left
  · rw [if_pos z] at h; exact (h0 z h).elim
  subst z
  rw [if_neg (by simp)] at h
  obtain ⟨w8, l8, i8, hlg⟩ := listR_rw w7 h8
  unfold decL at h
  rcases h9 : fixL r6 1 with ⟨cl, r7, e⟩
  rw [h9] at h; simp only at h
  by_cases z : e = 0
  rotate_left
  · rw [if_pos z] at h; exact (h0 z h).elim
  subst z
  rw [if_neg (by simp)] at h
  obtain ⟨w9, _, c9, d9, _⟩ := fixL_facts w8 (by omega) (by omega) h9
  simp only [Int.reduceToNat, Int.reducePow] at d9
  have i9 := fixL_inv w8 (by omega) (by omega) h9
  rcases h10 : fixL r7 4 with ⟨sq, r8, e⟩
  rw [h10] at h; simp only at h
  by_cases z : e = 0
  rotate_left
  · rw [if_pos z] at h; exact (h0 z h).elim
  subst z
  rw [if_neg (by simp)] at h
  obtain ⟨w10, _, c10, d10, _⟩ := fixL_facts w9 (by omega) (by omega) h10
  simp only [Int.reduceToNat, Int.reducePow] at d10
  have i10 := fixL_inv w9 (by omega) (by omega) h10
  rcases h11 : fixL r8 2 with ⟨er, r9, e⟩
  rw [h11] at h; simp only at h
  by_cases z : e = 0
  rotate_left
  · rw [if_pos z] at h; exact (h0 z h).elim
  subst z
  rw [if_neg (by simp)] at h
  obtain ⟨w11, _, c11, d11, _⟩ := fixL_facts w10 (by omega) (by omega) h11
  simp only [Int.reduceToNat, Int.reducePow] at d11
  have i11 := fixL_inv w10 (by omega) (by omega) h11
  rcases h12 : listU 8 r9 with ⟨ids, r10, e⟩
  rw [h12] at h; simp only at h
  by_cases z : e = 0
  rotate_left
  · rw [if_pos z] at h; exact (h0 z h).elim
  subst z
  rw [if_neg (by simp)] at h
  obtain ⟨w12, l12, i12, hids⟩ := listU_rw w11 h12
  rcases h13 : progR r10 with ⟨V, r11, e⟩
  rw [h13] at h; simp only at h
  by_cases z : e = 0
  rotate_left
  · rw [if_pos z] at h; exact (h0 z h).elim
  subst z
  rw [if_neg (by simp)] at h
  obtain ⟨w13, sV, okV, _⟩ := progR_rw w12 h13
  have i13 : r10 = encV V ++ r11 := by
    obtain ⟨_, _, q, _⟩ := progR_inv w12.1 (by rw [h13])
    rw [h13] at q; exact q
  unfold decT at h
  rcases h14 : hashS (r11, 0) with ⟨hh, r12, e⟩
  rw [h14] at h; simp only at h
  by_cases z : e = 0
  rotate_left
  · rw [if_pos z] at h; exact (h0 z h).elim
  subst z
  rw [if_neg (by simp)] at h
  obtain ⟨_, x14, t14, q14, i14, okh, w14⟩ := hashS_inv (s := (r11, 0)) w13.1 (by rw [h14])
  rw [h14] at q14
  injection q14 with q1 q2
  injection q2 with q2 _
  subst q1 q2
  rcases h15 : readL r12 with ⟨bx, r13, e⟩
  rw [h15] at h; simp only at h
  by_cases z : e = 0
  rotate_left
  · rw [if_pos z] at h; exact (h0 z h).elim
  subst z
  rw [if_neg (by simp)] at h
  have ht15 : textS (r12, 0) = (bx, (r13, 0)) := by unfold textS; rw [if_neg (by simp), h15]
  obtain ⟨_, x15, t15, q15, i15, okb, _⟩ := textS_inv (s := (r12, 0)) w14 (by rw [ht15])
  rw [ht15] at q15
  injection q15 with q1 q2
  injection q2 with q2 _
  subst q1 q2
  by_cases z : r13 = []
  rotate_left
  · rw [if_pos z] at h; exact (h0 (by decide) h).elim
  subst z
  rw [if_neg (by simp)] at h
  split at h
  · exact (h0 (by decide) h).elim
  rename_i hmay
  rw [Bool.not_eq_false] at hmay
  injection h with h _
  change mayM ⟨a, b, c, vw, la, n, cm, lg, cl, sq, ⟨er, ids, V⟩, hh, strOfNums bx⟩ = true at hmay
  change (⟨a, b, c, vw, la, n, cm, lg, cl, sq, ⟨er, ids, V⟩, hh, strOfNums bx⟩ : MsgT) = m at h
  subst h
  have hnb : nums (strOfNums bx) = bx := nums_str okb
  have hsz : (strOfNums bx).size = bx.length := str_size bx
  obtain ⟨_, _, _, _, _, _, _, _, _, _, _, f19⟩ := mayM_facts hmay
  refine ⟨hmay, ⟨⟨by omega, by omega⟩, ⟨by omega, by omega⟩, ⟨by omega, by omega⟩, ⟨c4, by omega⟩, ⟨c5, by omega⟩, ⟨by omega, by omega⟩, ⟨by omega, by omega⟩, fun x hx => (hlg x hx).2.1, ⟨c10, by omega⟩, hids, okV, okh⟩, ⟨fun x hx => (hlg x hx).2.2, sV, by show lg.length ≤ 1000; omega, by show ids.length ≤ 1000; omega, by show (strOfNums bx).size ≤ 2000000; change (strOfNums bx).size ≤ 1000 at f19; omega⟩, ?_⟩
  have hp := encM_parts hmay []
  rw [List.append_nil] at hp
  rw [hp]
  have j6 := bigL_one c6 (by omega)
  have j7 := bigL_one c7 (by omega)
  have j9 := bigL_one c9 (by omega)
  have jl := bigL_one (show 0 ≤ (lg.length : Int) by omega) (show (lg.length : Int) < 256 by omega)
  have ji := bigL_one (show 0 ≤ (ids.length : Int) by omega) (show (ids.length : Int) < 256 by omega)
  rw [Int.toNat_natCast] at jl ji
  rw [e3, i4, i5, i6, i7, i8, i9, i10, i11, i12, i13]
  change r11 = hh.1 ++ r12 at i14
  change r12 = enc bx.length ++ (bx ++ []) at i15
  rw [i14, i15]
  change [a, b, c] ++ (bigL vw.toNat 4 ++ (bigL la.toNat 4 ++ (bigL n.toNat 1 ++ (bigL cm.toNat 1 ++ (bigL lg.length 1 ++ logL lg ++ (bigL cl.toNat 1 ++ (bigL sq.toNat 4 ++ (bigL er.toNat 2 ++ (bigL ids.length 1 ++ idsL ids ++ (encV V ++ (hh.1 ++ (enc bx.length ++ (bx ++ [])))))))))))) ) = _
  rw [j6, j7, j9, jl, ji]
  simp only [hnb, List.append_nil]
end Go.Fw
