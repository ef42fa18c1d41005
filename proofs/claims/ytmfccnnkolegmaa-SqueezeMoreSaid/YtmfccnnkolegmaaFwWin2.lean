import Derived.Test.YtmfccnnkolegmaaFwFacts
import Derived.Test.YtmfccnnkolegmaaFw36
set_option linter.unusedSimpArgs false
set_option linter.unusedVariables false
set_option maxRecDepth 4000
namespace Go.Fw
open Go.Proofs Go.RowKit
theorem Try.enters61 : Enters Try.prog 61 := enters_of Try.func61 rfl (by kernel_rfl)
theorem Try.enters52 : Enters Try.prog 52 := enters_of Try.func52 rfl (by kernel_rfl)
/-- How many of m bytes are the same from a and from c on. -/
def runN (s : ByteArray) : Nat → Nat → Nat → Nat
  | 0, _, _ => 0
  | m + 1, a, c => if sbt s a = sbt s c then runN s m (a + 1) (c + 1) + 1 else 0
def run (s : ByteArray) (a c : Nat) : Nat := runN s (min 34 (s.size - c)) a c
theorem runN_le (s : ByteArray) : ∀ m a c, runN s m a c ≤ m
  | 0, _, _ => Nat.le_refl _
  | m + 1, a, c => by
    unfold runN
    split
    · have := runN_le s m (a + 1) (c + 1); omega
    · omega
theorem run_le (s : ByteArray) (a c : Nat) : run s a c ≤ 34 := by have := runN_le s (min 34 (s.size - c)) a c; unfold run; omega
theorem run_le2 (s : ByteArray) (a c : Nat) : run s a c ≤ s.size - c := by have := runN_le s (min 34 (s.size - c)) a c; unfold run; omega
theorem runN_at (s : ByteArray) : ∀ m a c i, i < runN s m a c → sbt s (a + i) = sbt s (c + i)
  | 0, _, _, i, h => by simp [runN] at h
  | m + 1, a, c, i, h => by
    unfold runN at h
    split at h
    · rename_i he
      cases i with
      | zero => simpa using he
      | succ i =>
        have := runN_at s m (a + 1) (c + 1) i (by omega)
        rw [show a + (i + 1) = a + 1 + i by omega, show c + (i + 1) = c + 1 + i by omega]; exact this
    · omega
theorem runN_ge (s : ByteArray) : ∀ m a c k, k ≤ m → (∀ i, i < k → sbt s (a + i) = sbt s (c + i)) → k ≤ runN s m a c
  | 0, _, _, k, hk, _ => by omega
  | m + 1, a, c, 0, _, _ => Nat.zero_le _
  | m + 1, a, c, k + 1, hk, h => by
    unfold runN
    rw [if_pos (by simpa using h 0 (by omega))]
    have := runN_ge s m (a + 1) (c + 1) k (by omega) (fun i hi => by
      have := h (i + 1) (by omega)
      rw [show a + (i + 1) = a + 1 + i by omega, show c + (i + 1) = c + 1 + i by omega] at this; exact this)
    omega
set_option maxHeartbeats 2000000 in
theorem rrun_ok (w0 : World) (A : St) (s : ByteArray) (a b : Nat) (hab : a ≤ b) (hb : b ≤ s.size) (hs : s.size ≤ 140737488355328) : ACalls Try.prog w0 61 #[.string s, .int .i64 a, .int .i64 b] A (fin (.int .i64 (run s a b : Nat)) A) := by
  refine call_E Try.enters61 Try.func61 rfl (Nat.le_of_ble_eq_true rfl) fun hw hbd => ?_
  simp (maxSteps := 1000000) (disch := first | omega | (simp only [z1, z2, z3, z4, z5, z6, z7] <;> omega) | fail) only [go_sem, Try.ntmps61, Try.results61]
  refine aw_loop (fun k x A' => ∃ (ρ : Nat → Value) (n : Nat), x = E 34 ρ [] ∧ A' = A ∧ k = min 34 (s.size - b) - n ∧ n ≤ min 34 (s.size - b) ∧ run s a b = n + runN s k (a + n) (b + n) ∧ ρ 7 = .int .i64 n ∧ ρ 0 = .string s ∧ ρ 1 = .int .i64 a ∧ ρ 2 = .int .i64 b) (min 34 (s.size - b))
    ⟨_, 0, rfl, rfl, rfl, Nat.zero_le _, by simp [run], rfl, rfl, rfl, rfl⟩ ?_
  rintro k x A' ⟨ρ, n, rfl, rfl, hk, hn, hr, g7, g0, g1, g2⟩
  refine aw_of ?_
  refine aw_draw (by kernel_rfl) ?_
  by_cases hgo : k = 0
  · subst hgo
    have hr' : run s a b = n := by rw [hr]; rfl
    by_cases h34 : n < 34
    · have h2 : ¬ ((b : Int) + n < s.size) := by omega
      simp (maxSteps := 1000000) (disch := first | omega | (simp only [z1, z2, z3, z4, z5, z6, z7] <;> omega) | fail) only [go_sem, g7, g0, g1, g2, Try.results61]
      exact gc_fin' hw (Over.refl _) (by rw [hr']) (.int _ _)
    · have h2 : ¬ ((n : Int) < 34) := by omega
      simp (maxSteps := 1000000) (disch := first | omega | (simp only [z1, z2, z3, z4, z5, z6, z7] <;> omega) | fail) only [go_sem, g7, g0, g1, g2, Try.results61]
      exact gc_fin' hw (Over.refl _) (by rw [hr']) (.int _ _)
  obtain ⟨k, rfl⟩ : ∃ j, k = j + 1 := ⟨k - 1, by omega⟩
  have h34 : (n : Int) < 34 := by omega
  have h2 : (b : Int) + n < s.size := by omega
  have t1 : ((a : Int) + n).toNat = a + n := by omega
  have t2 : ((b : Int) + n).toNat = b + n := by omega
  by_cases he : sbt s (a + n) = sbt s (b + n)
  · have hr' : run s a b = n + 1 + runN s k (a + (n + 1)) (b + (n + 1)) := by rw [hr, runN, if_pos he]; rw [show a + (n + 1) = a + n + 1 by omega, show b + (n + 1) = b + n + 1 by omega]; omega
    simp (maxSteps := 1000000) (disch := first | omega | (simp only [z1, z2, z3, z4, z5, z6, z7] <;> omega) | fail) only [go_sem, g7, g0, g1, g2, t1, t2, he]
    refine ⟨k, by omega, _, n + 1, rfl, by omega, by omega, hr', ?_, ?_, ?_, ?_⟩
    · simp (maxSteps := 1000000) (disch := first | omega | (simp only [z1, z2, z3, z4, z5, z6, z7] <;> omega) | fail) only [go_sem, g7]
      rfl
    · simp (maxSteps := 1000000) (disch := first | omega | (simp only [z1, z2, z3, z4, z5, z6, z7] <;> omega) | fail) only [go_sem, g0]
    · simp (maxSteps := 1000000) (disch := first | omega | (simp only [z1, z2, z3, z4, z5, z6, z7] <;> omega) | fail) only [go_sem, g1]
    · simp (maxSteps := 1000000) (disch := first | omega | (simp only [z1, z2, z3, z4, z5, z6, z7] <;> omega) | fail) only [go_sem, g2]
  · have hr' : run s a b = n := by rw [hr, runN, if_neg he]; rfl
    simp (maxSteps := 1000000) (disch := first | omega | (simp only [z1, z2, z3, z4, z5, z6, z7] <;> omega) | fail) only [go_sem, g7, g0, g1, g2, t1, t2, he, Try.results61]
    exact gc_fin' hw (Over.refl _) (by rw [hr']) (.int _ _)
set_option maxHeartbeats 4000000 in
theorem wsame_ok (w0 : World) (A : St) (s : ByteArray) (c : Nat) (rest : List Value) (md : Option Nat) (hc : A.get c = some (.cells (.string s :: rest) 104 md)) (a b : Nat) (hab : a ≤ b) (hb : b ≤ s.size) (hs : s.size ≤ 140737488355328) :
    ACalls Try.prog w0 52 #[.pointer (some ⟨c, 0, none⟩), .int .i64 a, .int .i64 b] A (fin (.int .i64 (run s a b : Nat)) A) := by
  refine call_E Try.enters52 Try.func52 rfl (Nat.le_of_ble_eq_true rfl) fun hw hbd => ?_
  have hmin : (if (s.size : Int) - b < 34 then (s.size : Int) - b else 34) = ((min 34 (s.size - b) : Nat) : Int) := by split <;> omega
  simp (maxSteps := 1000000) (disch := first | omega | (simp only [z1, z2, z3, z4, z5, z6, z7] <;> omega) | fail) only [go_sem, Try.ntmps52, Try.results52, hc, hmin]
  refine aw_loop (fun k x A' => ∃ (ρ : Nat → Value) (n : Nat), x = E 42 ρ [] ∧ A' = A ∧ k = min 34 (s.size - b) - n ∧ n ≤ min 34 (s.size - b) ∧ run s a b = n + runN s k (a + n) (b + n) ∧ ρ 7 = .int .i64 n ∧ ρ 8 = .int .i64 (min 34 (s.size - b) : Nat) ∧ ρ 0 = .pointer (some ⟨c, 0, none⟩) ∧ ρ 1 = .int .i64 a ∧ ρ 2 = .int .i64 b) (min 34 (s.size - b))
    ⟨_, 0, rfl, rfl, rfl, Nat.zero_le _, by simp [run], rfl, rfl, rfl, rfl, rfl⟩ ?_
  rintro k x A' ⟨ρ, n, rfl, rfl, hk, hn, hr, g7, g8, g0, g1, g2⟩
  refine aw_of ?_
  refine aw_draw (by kernel_rfl) ?_
  by_cases hgo : k = 0
  · subst hgo
    have hr' : run s a b = n := by rw [hr]; rfl
    have h2 : ¬ ((n : Int) < ((min 34 (s.size - b) : Nat) : Int)) := by omega
    simp (maxSteps := 1000000) (disch := first | omega | (simp only [z1, z2, z3, z4, z5, z6, z7] <;> omega) | fail) only [go_sem, g7, g8, g0, g1, g2, Try.results52]
    exact gc_fin' hw (Over.refl _) (by rw [hr']) (.int _ _)
  obtain ⟨k, rfl⟩ : ∃ j, k = j + 1 := ⟨k - 1, by omega⟩
  have h34 : (n : Int) < ((min 34 (s.size - b) : Nat) : Int) := by omega
  have t1 : ((a : Int) + n).toNat = a + n := by omega
  have t2 : ((b : Int) + n).toNat = b + n := by omega
  by_cases he : sbt s (a + n) = sbt s (b + n)
  · have hr' : run s a b = n + 1 + runN s k (a + (n + 1)) (b + (n + 1)) := by rw [hr, runN, if_pos he]; rw [show a + (n + 1) = a + n + 1 by omega, show b + (n + 1) = b + n + 1 by omega]; omega
    simp (maxSteps := 1000000) (disch := first | omega | (simp only [z1, z2, z3, z4, z5, z6, z7] <;> omega) | fail) only [go_sem, g7, g8, g0, g1, g2, hc, t1, t2, he]
    refine ⟨k, by omega, _, n + 1, rfl, by omega, by omega, hr', ?_, ?_, ?_, ?_, ?_⟩
    · simp (maxSteps := 1000000) (disch := first | omega | (simp only [z1, z2, z3, z4, z5, z6, z7] <;> omega) | fail) only [go_sem, g7]
      rfl
    · simp (maxSteps := 1000000) (disch := first | omega | (simp only [z1, z2, z3, z4, z5, z6, z7] <;> omega) | fail) only [go_sem, g8]
    · simp (maxSteps := 1000000) (disch := first | omega | (simp only [z1, z2, z3, z4, z5, z6, z7] <;> omega) | fail) only [go_sem, g0]
    · simp (maxSteps := 1000000) (disch := first | omega | (simp only [z1, z2, z3, z4, z5, z6, z7] <;> omega) | fail) only [go_sem, g1]
    · simp (maxSteps := 1000000) (disch := first | omega | (simp only [z1, z2, z3, z4, z5, z6, z7] <;> omega) | fail) only [go_sem, g2]
  · have hr' : run s a b = n := by rw [hr, runN, if_neg he]; rfl
    simp (maxSteps := 1000000) (disch := first | omega | (simp only [z1, z2, z3, z4, z5, z6, z7] <;> omega) | fail) only [go_sem, g7, g8, g0, g1, g2, hc, t1, t2, he, Try.results52]
    exact gc_fin' hw (Over.refl _) (by rw [hr']) (.int _ _)
theorem Try.enters51 : Enters Try.prog 51 := enters_of Try.func51 rfl (by kernel_rfl)
/-- The last place below d from which on t stands. -/
def prev (s : ByteArray) : Nat → ByteArray → Option Nat
  | 0, _ => none
  | d + 1, t => if d + 3 ≤ s.size ∧ s.extract d (d + 3) = t then some d else prev s d t
def three (s : ByteArray) (i : Nat) : ByteArray := s.extract i (i + 3)
def pz : Option Nat → Int
  | none => -1
  | some p => (p : Int)
/-- What is told of place i: where its three bytes stood last. -/
def backV (s : ByteArray) (i : Nat) : Int := if i + 3 ≤ s.size then pz (prev s i (three s i)) else -1
/-- The chains, d places learned: the struct at c, its map at m. -/
def Chn (A : St) (c m lo : Nat) (s : ByteArray) (d : Nat) (v : Value) : Prop :=
  lo ≤ A.next ∧ ∃ L, A.get c = some (.cells [.string s, .map (some m), v, .int .i64 (d : Nat)] 104 (some 0)) ∧ A.get m = some (.smap L) ∧
    (∀ t, smGet L t = (prev s d t).map fun p => Value.int .i64 (p : Nat)) ∧ Row A 3 1 lo ((List.range d).map fun i => .int .i64 (backV s i)) d v
/-- What stays when the chains are turned. -/
structure Kp (A A' : St) (c m : Nat) (v v' : Value) : Prop where
  next : A.next ≤ A'.next
  get : ∀ b, b < A.next → b ≠ c → b ≠ m → rowB v ≠ some b → A'.get b = A.get b
  row : ∀ b, rowB v' = some b → rowB v = some b ∨ A.next ≤ b
theorem Kp.refl (A : St) (c m : Nat) (v : Value) : Kp A A c m v v := ⟨Nat.le_refl _, fun _ _ _ _ _ => rfl, fun _ h => .inl h⟩
theorem Kp.trans {A B C : St} {c m : Nat} {v u x : Value} (h : Kp A B c m v u) (k : Kp B C c m u x) : Kp A C c m v x :=
  ⟨Nat.le_trans h.next k.next, fun b h1 h2 h3 h4 => (k.get b (Nat.lt_of_lt_of_le h1 h.next) h2 h3 (fun e => by
    rcases h.row b e with e | e
    · exact h4 e
    · omega)).trans (h.get b h1 h2 h3 h4), fun b e => by
    rcases k.row b e with e | e
    · exact h.row b e
    · have := h.next; exact .inr (by omega)⟩
theorem smGet_set (v : Value) (k t : ByteArray) : ∀ L, smGet (smSet L k v) t = if t = k then some v else smGet L t
  | [] => by simp [smSet, smGet]
  | p :: L => by
    unfold smSet
    by_cases h : k = p.1
    · rw [if_pos h]
      by_cases h2 : t = k
      · simp [smGet, h2]
      · rw [if_neg h2]
        simp only [smGet, if_neg h2]
        rw [if_neg (by rw [← h]; exact h2)]
    · rw [if_neg h]
      unfold smGet
      by_cases h2 : t = p.1
      · rw [if_pos h2, if_neg (by rw [h2]; exact fun e => h e.symm), if_pos h2]
      · rw [if_neg h2, if_neg h2, smGet_set v k t L]
theorem Row.one1 {A : St} {e sz lo len : Nat} {cs : List Value} {v : Value} (h : Row A e sz lo cs len v) : one1 v = true := by
  rcases h.2 with ⟨_, rfl⟩ | ⟨_, _, rfl, _⟩ <;> rfl
theorem Row.bnd {A : St} {e sz lo len : Nat} {cs : List Value} {v : Value} (h : Row A e sz lo cs len v) : ∀ b, rowB v = some b → lo ≤ b ∧ b < A.next := by
  intro b hb
  rcases h.2 with ⟨_, rfl⟩ | ⟨b', _, rfl, _, h1, h2, _⟩
  · cases hb
  · cases hb; exact ⟨h1, h2⟩
theorem rangeS (f : Nat → Value) (d : Nat) : (List.range (d + 1)).map f = (List.range d).map f ++ [f d] := by simp [List.range_succ]
set_option maxHeartbeats 8000000 in
theorem learn_ok (w0 : World) (A : St) (s : ByteArray) (c m lo d to : Nat) (hlo : c < lo ∧ m < lo ∧ c ≠ m) (v0 : Value) (h : Chn A c m lo s d v0) (hto : to ≤ 1073741824) (hd : d ≤ 1073741824) (hs : s.size ≤ 140737488355328) :
    ACalls Try.prog w0 51 #[.pointer (some ⟨c, 0, none⟩), .int .i64 to] A fun e A' => e = .returned (.tuple #[]) ∧ ∃ v', Chn A' c m lo s (max d to) v' ∧ Kp A A' c m v0 v' := by
  refine call_E Try.enters51 Try.func51 rfl (Nat.le_of_ble_eq_true rfl) fun hw hbd => ?_
  simp (maxSteps := 1000000) (disch := first | omega | (simp only [z1, z2, z3, z4, z5, z6, z7] <;> omega) | fail) only [go_sem, Try.ntmps51, Try.results51]
  refine aw_loop (fun k x A' => ∃ (ρ : Nat → Value) (d' : Nat) (v : Value), x = E 76 ρ [] ∧ k = max d to - d' ∧ d ≤ d' ∧ d' ≤ max d to ∧ Chn A' c m lo s d' v ∧ Kp A A' c m v0 v ∧ ρ 0 = .pointer (some ⟨c, 0, none⟩) ∧ ρ 1 = .int .i64 to) (max d to - d)
    ⟨_, d, v0, rfl, rfl, Nat.le_refl _, by omega, h, Kp.refl .., rfl, rfl⟩ ?_
  clear h
  rintro k x A' ⟨ρ, d', v, rfl, hk, hd1, hd2, hch, hkp, g0, g1⟩
  have hch0 := hch
  obtain ⟨hl0, L, f1, f2, f3, f4⟩ := hch
  have hnx := hkp.next
  refine aw_of ?_
  by_cases hgo : d' < to
  rotate_left
  · have hgo' : ¬ ((d' : Int) < to) := by omega
    simp (maxSteps := 1000000) (disch := first | omega | (simp only [z1, z2, z3, z4, z5, z6, z7] <;> omega) | fail) only [go_sem, g0, g1, f1, Try.results51]
    exact gc_here ⟨rfl, by rw [show max d to = d' by omega]; exact ⟨v, hch0, hkp⟩⟩
  have hgo' : (d' : Int) < to := by omega
  simp (maxSteps := 1000000) (disch := first | omega | (simp only [z1, z2, z3, z4, z5, z6, z7] <;> omega) | fail) only [go_sem, g0, g1, f1]
  refine aw_draw (by kernel_rfl) ?_
  obtain ⟨q1, q2, q3⟩ := hlo
  by_cases h3 : d' + 3 ≤ s.size
  · have h3' : (d' : Int) + 3 ≤ s.size := by omega
    have t3 : ((d' : Int) + 3).toNat = d' + 3 := by omega
    simp (maxSteps := 1000000) (disch := first | omega | (simp only [z1, z2, z3, z4, z5, z6, z7] <;> omega) | fail) only [go_sem, g0, g1, f1]
    refine aw_draw (by kernel_rfl) ?_
    simp (maxSteps := 1000000) (disch := first | omega | (simp only [z1, z2, z3, z4, z5, z6, z7] <;> omega) | fail) only [go_sem, g0, g1, f1, t3]
    rcases hp : prev s d' (three s d') with _ | p
    · have hg : smGet L (s.extract d' (d' + 3)) = none := by rw [f3, show s.extract d' (d' + 3) = three s d' from rfl, hp]; rfl
      simp (maxSteps := 1000000) (disch := first | omega | (simp only [z1, z2, z3, z4, z5, z6, z7] <;> omega) | fail) only [go_sem, g0, g1, f1, f2, t3, hg, mval_none]
      refine aw_draw2 [⟨false, [], [0]⟩, ⟨false, [0], [0]⟩, ⟨false, [0, 1], [0]⟩, ⟨false, [0, 1, 2], [0]⟩, ⟨false, [], [0]⟩, ⟨false, [], [0]⟩, ⟨false, [5], [0]⟩, ⟨false, [5, 6], [0]⟩, ⟨false, [5, 6, 7], [0]⟩, ⟨true, [0, 1, 2, 3, 4, 5, 6, 7, 8], [0]⟩] [A', A'.upd m (some (.smap (smSet L (s.extract d' (d' + 3)) (.int .i64 d'))))] 1 (by kernel_rfl) (by kernel_rfl) rfl ?_
      simp (maxSteps := 1000000) (disch := first | omega | (simp only [z1, z2, z3, z4, z5, z6, z7] <;> omega) | fail) only [go_sem, g0, g1, f1, f2, t3]
      have f4' : Row (A'.upd m (some (.smap (smSet L (s.extract d' (d' + 3)) (.int .i64 d'))))) 3 1 lo ((List.range d').map fun i => .int .i64 (backV s i)) d' v := f4.keep (Nat.le_refl _) (fun b hb y1 y2 => by simp (disch := first | omega | (simp only [z1, z2, z3, z4, z5, z6, z7] <;> omega) | fail) only [St.get_upd, St.get_alloc, St.next_alloc, St.next_upd, ↓reduceIte, natF_lt, natF_gt, natF_ne, Nat.add_assoc, Nat.reduceAdd, Nat.reduceEqDiff, Nat.add_left_cancel_iff]) (Nat.le_refl _)
      obtain ⟨v', A2, hap, hr2, hn2, hrb, hf2⟩ := row_push (A := A'.upd m (some (.smap (smSet L (s.extract d' (d' + 3)) (.int .i64 d'))))) (sp := none) (c := 1) (xs := [.int .i64 (-1)]) Try.el35 Try.underlying35 (by intro k; exact TypeDesc.noConfusion) Try.sz3 Try.byt3 Try.zero3 rfl f4' hl0 (by omega) (by omega) rfl rfl
      have hfl : ∀ b, b < lo → A2.get b = (A'.upd m (some (.smap (smSet L (s.extract d' (d' + 3)) (.int .i64 d'))))).get b := fun b hb => hf2 b (by (try simp (disch := first | omega | (simp only [z1, z2, z3, z4, z5, z6, z7] <;> omega) | fail) only [St.get_upd, St.get_alloc, St.next_alloc, St.next_upd, ↓reduceIte, natF_lt, natF_gt, natF_ne, Nat.add_assoc, Nat.reduceAdd, Nat.reduceEqDiff, Nat.add_left_cancel_iff]); omega) (fun hrb => by have := f4.bnd b hrb; omega)
      have hc2 : A2.get c = some (.cells [.string s, .map (some m), v, .int .i64 (d' : Nat)] 104 (some 0)) := (hfl c q1).trans (by simp (disch := first | omega | (simp only [z1, z2, z3, z4, z5, z6, z7] <;> omega) | fail) only [St.get_upd, St.get_alloc, St.next_alloc, St.next_upd, ↓reduceIte, natF_lt, natF_gt, natF_ne, Nat.add_assoc, Nat.reduceAdd, Nat.reduceEqDiff, Nat.add_left_cancel_iff]; exact f1)
      have hm2 : A2.get m = some (.smap (smSet L (s.extract d' (d' + 3)) (.int .i64 d'))) := (hfl m q2).trans (by simp (disch := first | omega | (simp only [z1, z2, z3, z4, z5, z6, z7] <;> omega) | fail) only [St.get_upd, St.get_alloc, St.next_alloc, St.next_upd, ↓reduceIte, natF_lt, natF_gt, natF_ne, Nat.add_assoc, Nat.reduceAdd, Nat.reduceEqDiff, Nat.add_left_cancel_iff])
      rw [nx_upd] at hap hn2
      rw [hap]
      simp (maxSteps := 1000000) (disch := first | omega | (simp only [z1, z2, z3, z4, z5, z6, z7] <;> omega) | fail) only [go_sem, g0, hc2]
      rw [storeC_val hr2.one1]
      simp (maxSteps := 1000000) (disch := first | omega | (simp only [z1, z2, z3, z4, z5, z6, z7] <;> omega) | fail) only [go_sem, g0, hc2]
      refine ⟨k - 1, by omega, _, d' + 1, v', rfl, by omega, by omega, by omega, ⟨by (try simp (disch := first | omega | (simp only [z1, z2, z3, z4, z5, z6, z7] <;> omega) | fail) only [St.get_upd, St.get_alloc, St.next_alloc, St.next_upd, ↓reduceIte, natF_lt, natF_gt, natF_ne, Nat.add_assoc, Nat.reduceAdd, Nat.reduceEqDiff, Nat.add_left_cancel_iff]); omega, smSet L (s.extract d' (d' + 3)) (.int .i64 d'), ?_, ?_, fun t => ?_, ?_⟩, hkp.trans ⟨by (try simp (disch := first | omega | (simp only [z1, z2, z3, z4, z5, z6, z7] <;> omega) | fail) only [St.get_upd, St.get_alloc, St.next_alloc, St.next_upd, ↓reduceIte, natF_lt, natF_gt, natF_ne, Nat.add_assoc, Nat.reduceAdd, Nat.reduceEqDiff, Nat.add_left_cancel_iff]); omega, fun b r1 r2 r3 r4 => ?_, fun b hb => ?_⟩, ?_, ?_⟩
      · simp (disch := first | omega | (simp only [z1, z2, z3, z4, z5, z6, z7] <;> omega) | fail) only [St.get_upd, St.get_alloc, St.next_alloc, St.next_upd, ↓reduceIte, natF_lt, natF_gt, natF_ne, Nat.add_assoc, Nat.reduceAdd, Nat.reduceEqDiff, Nat.add_left_cancel_iff]
        rfl
      · simp (disch := first | omega | (simp only [z1, z2, z3, z4, z5, z6, z7] <;> omega) | fail) only [St.get_upd, St.get_alloc, St.next_alloc, St.next_upd, ↓reduceIte, natF_lt, natF_gt, natF_ne, Nat.add_assoc, Nat.reduceAdd, Nat.reduceEqDiff, Nat.add_left_cancel_iff]
        exact hm2
      · rw [smGet_set, prev]
        by_cases ht : t = s.extract d' (d' + 3)
        · rw [if_pos ht, if_pos ⟨h3, ht.symm⟩]; rfl
        · rw [if_neg ht, if_neg (fun e => ht e.2.symm), f3]
      · rw [rangeS, show backV s d' = (-1) by unfold backV; rw [if_pos h3, hp]; rfl]
        exact Row.keep (lo := lo) hr2 (by (try simp (disch := first | omega | (simp only [z1, z2, z3, z4, z5, z6, z7] <;> omega) | fail) only [St.get_upd, St.get_alloc, St.next_alloc, St.next_upd, ↓reduceIte, natF_lt, natF_gt, natF_ne, Nat.add_assoc, Nat.reduceAdd, Nat.reduceEqDiff, Nat.add_left_cancel_iff]); omega) (fun b hb y1 y2 => by simp (disch := first | omega | (simp only [z1, z2, z3, z4, z5, z6, z7] <;> omega) | fail) only [St.get_upd, St.get_alloc, St.next_alloc, St.next_upd, ↓reduceIte, natF_lt, natF_gt, natF_ne, Nat.add_assoc, Nat.reduceAdd, Nat.reduceEqDiff, Nat.add_left_cancel_iff]) (Nat.le_refl _)
      · simp (disch := first | omega | (simp only [z1, z2, z3, z4, z5, z6, z7] <;> omega) | fail) only [St.get_upd, St.get_alloc, St.next_alloc, St.next_upd, ↓reduceIte, natF_lt, natF_gt, natF_ne, Nat.add_assoc, Nat.reduceAdd, Nat.reduceEqDiff, Nat.add_left_cancel_iff]
        rw [hf2 b (by (try simp (disch := first | omega | (simp only [z1, z2, z3, z4, z5, z6, z7] <;> omega) | fail) only [St.get_upd, St.get_alloc, St.next_alloc, St.next_upd, ↓reduceIte, natF_lt, natF_gt, natF_ne, Nat.add_assoc, Nat.reduceAdd, Nat.reduceEqDiff, Nat.add_left_cancel_iff]); omega) r4]
        simp (disch := first | omega | (simp only [z1, z2, z3, z4, z5, z6, z7] <;> omega) | fail) only [St.get_upd, St.get_alloc, St.next_alloc, St.next_upd, ↓reduceIte, natF_lt, natF_gt, natF_ne, Nat.add_assoc, Nat.reduceAdd, Nat.reduceEqDiff, Nat.add_left_cancel_iff]
      · rw [hrb] at hb; cases hb; exact .inr (by (try simp (disch := first | omega | (simp only [z1, z2, z3, z4, z5, z6, z7] <;> omega) | fail) only [St.get_upd, St.get_alloc, St.next_alloc, St.next_upd, ↓reduceIte, natF_lt, natF_gt, natF_ne, Nat.add_assoc, Nat.reduceAdd, Nat.reduceEqDiff, Nat.add_left_cancel_iff]); omega)
      · simp (maxSteps := 1000000) (disch := first | omega | (simp only [z1, z2, z3, z4, z5, z6, z7] <;> omega) | fail) only [go_sem, g0]
      · simp (maxSteps := 1000000) (disch := first | omega | (simp only [z1, z2, z3, z4, z5, z6, z7] <;> omega) | fail) only [go_sem, g1]
    · have hg : smGet L (s.extract d' (d' + 3)) = some (.int .i64 (p : Nat)) := by rw [f3, show s.extract d' (d' + 3) = three s d' from rfl, hp]; rfl
      simp (maxSteps := 1000000) (disch := first | omega | (simp only [z1, z2, z3, z4, z5, z6, z7] <;> omega) | fail) only [go_sem, g0, g1, f1, f2, t3, hg, mval_some]
      refine aw_draw2 [⟨false, [], [0]⟩, ⟨false, [0], [0]⟩, ⟨false, [0, 1], [0]⟩, ⟨false, [0, 1, 2], [0]⟩, ⟨false, [], [0]⟩, ⟨false, [], [0]⟩, ⟨false, [5], [0]⟩, ⟨false, [5, 6], [0]⟩, ⟨false, [5, 6, 7], [0]⟩, ⟨true, [0, 1, 2, 3, 4, 5, 6, 7, 8], [0]⟩] [A', A'.upd m (some (.smap (smSet L (s.extract d' (d' + 3)) (.int .i64 d'))))] 1 (by kernel_rfl) (by kernel_rfl) rfl ?_
      simp (maxSteps := 1000000) (disch := first | omega | (simp only [z1, z2, z3, z4, z5, z6, z7] <;> omega) | fail) only [go_sem, g0, g1, f1, f2, t3]
      have f4' : Row (A'.upd m (some (.smap (smSet L (s.extract d' (d' + 3)) (.int .i64 d'))))) 3 1 lo ((List.range d').map fun i => .int .i64 (backV s i)) d' v := f4.keep (Nat.le_refl _) (fun b hb y1 y2 => by simp (disch := first | omega | (simp only [z1, z2, z3, z4, z5, z6, z7] <;> omega) | fail) only [St.get_upd, St.get_alloc, St.next_alloc, St.next_upd, ↓reduceIte, natF_lt, natF_gt, natF_ne, Nat.add_assoc, Nat.reduceAdd, Nat.reduceEqDiff, Nat.add_left_cancel_iff]) (Nat.le_refl _)
      obtain ⟨v', A2, hap, hr2, hn2, hrb, hf2⟩ := row_push (A := A'.upd m (some (.smap (smSet L (s.extract d' (d' + 3)) (.int .i64 d'))))) (sp := none) (c := 1) (xs := [.int .i64 (p : Int)]) Try.el35 Try.underlying35 (by intro k; exact TypeDesc.noConfusion) Try.sz3 Try.byt3 Try.zero3 rfl f4' hl0 (by omega) (by omega) rfl rfl
      have hfl : ∀ b, b < lo → A2.get b = (A'.upd m (some (.smap (smSet L (s.extract d' (d' + 3)) (.int .i64 d'))))).get b := fun b hb => hf2 b (by (try simp (disch := first | omega | (simp only [z1, z2, z3, z4, z5, z6, z7] <;> omega) | fail) only [St.get_upd, St.get_alloc, St.next_alloc, St.next_upd, ↓reduceIte, natF_lt, natF_gt, natF_ne, Nat.add_assoc, Nat.reduceAdd, Nat.reduceEqDiff, Nat.add_left_cancel_iff]); omega) (fun hrb => by have := f4.bnd b hrb; omega)
      have hc2 : A2.get c = some (.cells [.string s, .map (some m), v, .int .i64 (d' : Nat)] 104 (some 0)) := (hfl c q1).trans (by simp (disch := first | omega | (simp only [z1, z2, z3, z4, z5, z6, z7] <;> omega) | fail) only [St.get_upd, St.get_alloc, St.next_alloc, St.next_upd, ↓reduceIte, natF_lt, natF_gt, natF_ne, Nat.add_assoc, Nat.reduceAdd, Nat.reduceEqDiff, Nat.add_left_cancel_iff]; exact f1)
      have hm2 : A2.get m = some (.smap (smSet L (s.extract d' (d' + 3)) (.int .i64 d'))) := (hfl m q2).trans (by simp (disch := first | omega | (simp only [z1, z2, z3, z4, z5, z6, z7] <;> omega) | fail) only [St.get_upd, St.get_alloc, St.next_alloc, St.next_upd, ↓reduceIte, natF_lt, natF_gt, natF_ne, Nat.add_assoc, Nat.reduceAdd, Nat.reduceEqDiff, Nat.add_left_cancel_iff])
      rw [nx_upd] at hap hn2
      rw [hap]
      simp (maxSteps := 1000000) (disch := first | omega | (simp only [z1, z2, z3, z4, z5, z6, z7] <;> omega) | fail) only [go_sem, g0, hc2]
      rw [storeC_val hr2.one1]
      simp (maxSteps := 1000000) (disch := first | omega | (simp only [z1, z2, z3, z4, z5, z6, z7] <;> omega) | fail) only [go_sem, g0, hc2]
      refine ⟨k - 1, by omega, _, d' + 1, v', rfl, by omega, by omega, by omega, ⟨by (try simp (disch := first | omega | (simp only [z1, z2, z3, z4, z5, z6, z7] <;> omega) | fail) only [St.get_upd, St.get_alloc, St.next_alloc, St.next_upd, ↓reduceIte, natF_lt, natF_gt, natF_ne, Nat.add_assoc, Nat.reduceAdd, Nat.reduceEqDiff, Nat.add_left_cancel_iff]); omega, smSet L (s.extract d' (d' + 3)) (.int .i64 d'), ?_, ?_, fun t => ?_, ?_⟩, hkp.trans ⟨by (try simp (disch := first | omega | (simp only [z1, z2, z3, z4, z5, z6, z7] <;> omega) | fail) only [St.get_upd, St.get_alloc, St.next_alloc, St.next_upd, ↓reduceIte, natF_lt, natF_gt, natF_ne, Nat.add_assoc, Nat.reduceAdd, Nat.reduceEqDiff, Nat.add_left_cancel_iff]); omega, fun b r1 r2 r3 r4 => ?_, fun b hb => ?_⟩, ?_, ?_⟩
      · simp (disch := first | omega | (simp only [z1, z2, z3, z4, z5, z6, z7] <;> omega) | fail) only [St.get_upd, St.get_alloc, St.next_alloc, St.next_upd, ↓reduceIte, natF_lt, natF_gt, natF_ne, Nat.add_assoc, Nat.reduceAdd, Nat.reduceEqDiff, Nat.add_left_cancel_iff]
        rfl
      · simp (disch := first | omega | (simp only [z1, z2, z3, z4, z5, z6, z7] <;> omega) | fail) only [St.get_upd, St.get_alloc, St.next_alloc, St.next_upd, ↓reduceIte, natF_lt, natF_gt, natF_ne, Nat.add_assoc, Nat.reduceAdd, Nat.reduceEqDiff, Nat.add_left_cancel_iff]
        exact hm2
      · rw [smGet_set, prev]
        by_cases ht : t = s.extract d' (d' + 3)
        · rw [if_pos ht, if_pos ⟨h3, ht.symm⟩]; rfl
        · rw [if_neg ht, if_neg (fun e => ht e.2.symm), f3]
      · rw [rangeS, show backV s d' = (p : Int) by unfold backV; rw [if_pos h3, hp]; rfl]
        exact Row.keep (lo := lo) hr2 (by (try simp (disch := first | omega | (simp only [z1, z2, z3, z4, z5, z6, z7] <;> omega) | fail) only [St.get_upd, St.get_alloc, St.next_alloc, St.next_upd, ↓reduceIte, natF_lt, natF_gt, natF_ne, Nat.add_assoc, Nat.reduceAdd, Nat.reduceEqDiff, Nat.add_left_cancel_iff]); omega) (fun b hb y1 y2 => by simp (disch := first | omega | (simp only [z1, z2, z3, z4, z5, z6, z7] <;> omega) | fail) only [St.get_upd, St.get_alloc, St.next_alloc, St.next_upd, ↓reduceIte, natF_lt, natF_gt, natF_ne, Nat.add_assoc, Nat.reduceAdd, Nat.reduceEqDiff, Nat.add_left_cancel_iff]) (Nat.le_refl _)
      · simp (disch := first | omega | (simp only [z1, z2, z3, z4, z5, z6, z7] <;> omega) | fail) only [St.get_upd, St.get_alloc, St.next_alloc, St.next_upd, ↓reduceIte, natF_lt, natF_gt, natF_ne, Nat.add_assoc, Nat.reduceAdd, Nat.reduceEqDiff, Nat.add_left_cancel_iff]
        rw [hf2 b (by (try simp (disch := first | omega | (simp only [z1, z2, z3, z4, z5, z6, z7] <;> omega) | fail) only [St.get_upd, St.get_alloc, St.next_alloc, St.next_upd, ↓reduceIte, natF_lt, natF_gt, natF_ne, Nat.add_assoc, Nat.reduceAdd, Nat.reduceEqDiff, Nat.add_left_cancel_iff]); omega) r4]
        simp (disch := first | omega | (simp only [z1, z2, z3, z4, z5, z6, z7] <;> omega) | fail) only [St.get_upd, St.get_alloc, St.next_alloc, St.next_upd, ↓reduceIte, natF_lt, natF_gt, natF_ne, Nat.add_assoc, Nat.reduceAdd, Nat.reduceEqDiff, Nat.add_left_cancel_iff]
      · rw [hrb] at hb; cases hb; exact .inr (by (try simp (disch := first | omega | (simp only [z1, z2, z3, z4, z5, z6, z7] <;> omega) | fail) only [St.get_upd, St.get_alloc, St.next_alloc, St.next_upd, ↓reduceIte, natF_lt, natF_gt, natF_ne, Nat.add_assoc, Nat.reduceAdd, Nat.reduceEqDiff, Nat.add_left_cancel_iff]); omega)
      · simp (maxSteps := 1000000) (disch := first | omega | (simp only [z1, z2, z3, z4, z5, z6, z7] <;> omega) | fail) only [go_sem, g0]
      · simp (maxSteps := 1000000) (disch := first | omega | (simp only [z1, z2, z3, z4, z5, z6, z7] <;> omega) | fail) only [go_sem, g1]
  · have h3' : ¬ ((d' : Int) + 3 ≤ s.size) := by omega
    simp (maxSteps := 1000000) (disch := first | omega | (simp only [z1, z2, z3, z4, z5, z6, z7] <;> omega) | fail) only [go_sem, g0, g1, f1]
    obtain ⟨v', A2, hap, hr2, hn2, hrb, hf2⟩ := row_push (A := A') (sp := none) (c := 1) (xs := [.int .i64 (-1)]) Try.el35 Try.underlying35 (by intro k; exact TypeDesc.noConfusion) Try.sz3 Try.byt3 Try.zero3 rfl f4 hl0 (by omega) (by omega) rfl rfl
    have hfl : ∀ b, b < lo → A2.get b = A'.get b := fun b hb => hf2 b (by omega) (fun hrb => by have := f4.bnd b hrb; omega)
    have hc2 := (hfl c q1).trans f1
    rw [hap]
    simp (maxSteps := 1000000) (disch := first | omega | (simp only [z1, z2, z3, z4, z5, z6, z7] <;> omega) | fail) only [go_sem, g0, hc2]
    rw [storeC_val hr2.one1]
    simp (maxSteps := 1000000) (disch := first | omega | (simp only [z1, z2, z3, z4, z5, z6, z7] <;> omega) | fail) only [go_sem, g0, hc2]
    refine ⟨k - 1, by omega, _, d' + 1, v', rfl, by omega, by omega, by omega, ⟨by (try simp (disch := first | omega | (simp only [z1, z2, z3, z4, z5, z6, z7] <;> omega) | fail) only [St.get_upd, St.get_alloc, St.next_alloc, St.next_upd, ↓reduceIte, natF_lt, natF_gt, natF_ne, Nat.add_assoc, Nat.reduceAdd, Nat.reduceEqDiff, Nat.add_left_cancel_iff]); omega, L, ?_, ?_, fun t => ?_, ?_⟩, hkp.trans ⟨by (try simp (disch := first | omega | (simp only [z1, z2, z3, z4, z5, z6, z7] <;> omega) | fail) only [St.get_upd, St.get_alloc, St.next_alloc, St.next_upd, ↓reduceIte, natF_lt, natF_gt, natF_ne, Nat.add_assoc, Nat.reduceAdd, Nat.reduceEqDiff, Nat.add_left_cancel_iff]); omega, fun b r1 r2 r3 r4 => ?_, fun b hb => ?_⟩, ?_, ?_⟩
    · simp (disch := first | omega | (simp only [z1, z2, z3, z4, z5, z6, z7] <;> omega) | fail) only [St.get_upd, St.get_alloc, St.next_alloc, St.next_upd, ↓reduceIte, natF_lt, natF_gt, natF_ne, Nat.add_assoc, Nat.reduceAdd, Nat.reduceEqDiff, Nat.add_left_cancel_iff]
      rfl
    · simp (disch := first | omega | (simp only [z1, z2, z3, z4, z5, z6, z7] <;> omega) | fail) only [St.get_upd, St.get_alloc, St.next_alloc, St.next_upd, ↓reduceIte, natF_lt, natF_gt, natF_ne, Nat.add_assoc, Nat.reduceAdd, Nat.reduceEqDiff, Nat.add_left_cancel_iff]
      exact (hfl m q2).trans f2
    · rw [f3, prev, if_neg (by omega)]
    · rw [rangeS, show backV s d' = -1 by unfold backV; rw [if_neg (by omega)]]
      exact Row.keep (lo := lo) hr2 (by (try simp (disch := first | omega | (simp only [z1, z2, z3, z4, z5, z6, z7] <;> omega) | fail) only [St.get_upd, St.get_alloc, St.next_alloc, St.next_upd, ↓reduceIte, natF_lt, natF_gt, natF_ne, Nat.add_assoc, Nat.reduceAdd, Nat.reduceEqDiff, Nat.add_left_cancel_iff]); omega) (fun b hb y1 y2 => by simp (disch := first | omega | (simp only [z1, z2, z3, z4, z5, z6, z7] <;> omega) | fail) only [St.get_upd, St.get_alloc, St.next_alloc, St.next_upd, ↓reduceIte, natF_lt, natF_gt, natF_ne, Nat.add_assoc, Nat.reduceAdd, Nat.reduceEqDiff, Nat.add_left_cancel_iff]) (Nat.le_refl _)
    · simp (disch := first | omega | (simp only [z1, z2, z3, z4, z5, z6, z7] <;> omega) | fail) only [St.get_upd, St.get_alloc, St.next_alloc, St.next_upd, ↓reduceIte, natF_lt, natF_gt, natF_ne, Nat.add_assoc, Nat.reduceAdd, Nat.reduceEqDiff, Nat.add_left_cancel_iff]
      exact hf2 b r1 r4
    · rw [hrb] at hb; cases hb; exact .inr (by omega)
    · simp (maxSteps := 1000000) (disch := first | omega | (simp only [z1, z2, z3, z4, z5, z6, z7] <;> omega) | fail) only [go_sem, g0]
    · simp (maxSteps := 1000000) (disch := first | omega | (simp only [z1, z2, z3, z4, z5, z6, z7] <;> omega) | fail) only [go_sem, g1]
def stepM (s : ByteArray) (p : Nat) (r : Nat × Nat) (k : Nat) : Nat × Nat := if run s (p - k) p > r.1 then (run s (p - k) p, k) else r
def bestK (s : ByteArray) (p : Nat) : Nat → Nat × Nat
  | 0 => (0, 0)
  | K + 1 => stepM s p (bestK s p K) (K + 1)
def progK (s : ByteArray) (p : Nat) : Nat → Nat × Nat
  | 0 => (0, 0)
  | K + 1 => if 3 ≤ run s (p - (K + 1)) p then stepM s p (progK s p K) (K + 1) else progK s p K
theorem progK_succ (s : ByteArray) (p K : Nat) : progK s p (K + 1) = if 3 ≤ run s (p - (K + 1)) p then stepM s p (progK s p K) (K + 1) else progK s p K := rfl
/-- What matches at place p. -/
def matM (s : ByteArray) (p : Nat) : Nat × Nat := if (bestK s p (min 512 p)).1 < 3 then (0, 0) else bestK s p (min 512 p)
theorem prog_best (s : ByteArray) (p : Nat) : ∀ K, progK s p K = if (bestK s p K).1 < 3 then (0, 0) else bestK s p K
  | 0 => rfl
  | K + 1 => by
    have ih := prog_best s p K
    unfold progK bestK stepM
    rw [ih]
    generalize bestK s p K = r
    generalize run s (p - (K + 1)) p = x
    by_cases h1 : r.1 < 3 <;> by_cases h2 : 3 ≤ x <;> by_cases h3 : x > r.1 <;> simp only [h1, h2, h3, if_true, if_false] <;> first | rfl | omega | skip
    · rw [if_pos (by show x > 0; omega), if_neg (by omega)]
    · rw [if_pos (by show x < 3; omega)]
    · rw [if_neg (by show ¬ x < 3; omega)]
theorem matM_prog (s : ByteArray) (p : Nat) : matM s p = progK s p (min 512 p) := (prog_best s p _).symm
theorem progK_le (s : ByteArray) (p : Nat) : ∀ K, (progK s p K).1 ≤ 34 ∧ (progK s p K).2 ≤ K
  | 0 => ⟨by simp [progK], by simp [progK]⟩
  | K + 1 => by
    have ih := progK_le s p K
    have := run_le s (p - (K + 1)) p
    unfold progK stepM
    split
    · split
      · exact ⟨this, by simp⟩
      · exact ⟨ih.1, by omega⟩
    · exact ⟨ih.1, by omega⟩
theorem prog_skip (s : ByteArray) (p K : Nat) : ∀ n, (∀ k, K < k → k ≤ K + n → run s (p - k) p < 3) → progK s p (K + n) = progK s p K
  | 0, _ => rfl
  | n + 1, h => by
    show progK s p (K + n + 1) = _
    rw [progK_succ, if_neg (by have := h (K + n + 1) (by omega) (by omega); omega)]
    exact prog_skip s p K n (fun k h1 h2 => h k h1 (by omega))
theorem prog_full (s : ByteArray) (p K : Nat) (hf : 34 ≤ (progK s p K).1) : ∀ n, progK s p (K + n) = progK s p K
  | 0 => rfl
  | n + 1 => by
    have ih := prog_full s p K hf n
    show progK s p (K + n + 1) = _
    rw [progK_succ, ih]
    unfold stepM
    have := run_le s (p - (K + n + 1)) p
    rw [if_neg (show ¬ (run s (p - (K + n + 1)) p > (progK s p K).1) by omega)]
    split <;> rfl
theorem prev_some {s : ByteArray} {t : ByteArray} {p : Nat} : ∀ {D : Nat}, prev s D t = some p → p < D ∧ p + 3 ≤ s.size ∧ three s p = t ∧ ∀ q, p < q → q < D → ¬ (q + 3 ≤ s.size ∧ three s q = t)
  | 0, h => by simp [prev] at h
  | D + 1, h => by
    unfold prev at h
    split at h
    · rename_i hc; cases h
      exact ⟨by omega, hc.1, hc.2, fun q h1 h2 => by omega⟩
    · rename_i hc
      obtain ⟨h1, h2, h3, h4⟩ := prev_some h
      refine ⟨by omega, h2, h3, fun q q1 q2 => ?_⟩
      by_cases hq : q = D
      · subst hq; exact hc
      · exact h4 q q1 (by omega)
theorem prev_none {s : ByteArray} {t : ByteArray} : ∀ {D : Nat}, prev s D t = none → ∀ q, q < D → ¬ (q + 3 ≤ s.size ∧ three s q = t)
  | 0, h, q, hq => by omega
  | D + 1, h, q, hq => by
    unfold prev at h
    split at h
    · cases h
    · rename_i hc
      by_cases hq' : q = D
      · subst hq'; exact hc
      · exact prev_none h q (by omega)
theorem three_nums (s : ByteArray) (i : Nat) : nums (three s i) = ((nums s).drop i).take 3 := by
  unfold three nums
  rw [ByteArray.data_extract, Array.toList_extract, ← List.map_drop, ← List.map_take, List.extract_eq_take_drop]
  congr 2
  omega
theorem take3 (s : ByteArray) (i : Nat) (h : i + 3 ≤ s.size) : nums (three s i) = [sbt s i, sbt s (i + 1), sbt s (i + 2)] := by
  rw [three_nums, sbt_drop s i (by omega), sbt_drop s (i + 1) (by omega), sbt_drop s (i + 1 + 1) (by omega)]; rfl
theorem three_run (s : ByteArray) {a c : Nat} (hac : a < c) (hc : c + 3 ≤ s.size) : three s a = three s c ↔ 3 ≤ run s a c := by
  constructor
  · intro h
    have := congrArg nums h
    rw [take3 s a (by omega), take3 s c hc] at this
    simp only [List.cons.injEq, and_true] at this
    obtain ⟨h1, h2, h3⟩ := this
    refine runN_ge s _ a c 3 (by omega) fun i hi => ?_
    match i, hi with
    | 0, _ => exact h1
    | 1, _ => exact h2
    | 2, _ => exact h3
  · intro h
    apply nums_inj
    rw [take3 s a (by omega), take3 s c hc]
    have key := runN_at s (min 34 (s.size - c)) a c
    have e0 := key 0 (by unfold run at h; omega)
    have e1 := key 1 (by unfold run at h; omega)
    have e2 := key 2 (by unfold run at h; omega)
    rw [show sbt s a = sbt s c from e0, e1, e2]
/-- Nothing matches between. -/
theorem prog_to {s : ByteArray} {p K j : Nat} (hp : p + 3 ≤ s.size) (hK : K ≤ p) (h : prev s (p - K) (three s p) = some j) {n : Nat} (hn : n < p - j) (hKn : K ≤ n) : progK s p n = progK s p K := by
  obtain ⟨h1, h2, h3, h4⟩ := prev_some h
  have := prog_skip s p K (n - K) fun k k1 k2 => by
    have := h4 (p - k) (by omega) (by omega)
    rcases Nat.lt_or_ge (run s (p - k) p) 3 with h | h
    · exact h
    · exact absurd ⟨by omega, (three_run s (by omega) hp).2 h⟩ this
  rwa [show K + (n - K) = n by omega] at this
theorem prog_nil {s : ByteArray} {p K : Nat} (hp : p + 3 ≤ s.size) (h : prev s (p - K) (three s p) = none) {n : Nat} (hn : n ≤ p) (hKn : K ≤ n) : progK s p n = progK s p K := by
  have := prog_skip s p K (n - K) fun k k1 k2 => by
    have := prev_none h (p - k) (by omega)
    rcases Nat.lt_or_ge (run s (p - k) p) 3 with h | h
    · exact h
    · exact absurd ⟨by omega, (three_run s (by omega) hp).2 h⟩ this
  rwa [show K + (n - K) = n by omega] at this
theorem prog_short {s : ByteArray} {p : Nat} (hp : ¬ p + 3 ≤ s.size) (n : Nat) : progK s p n = (0, 0) := by
  have := prog_skip s p 0 n fun k k1 k2 => by have := run_le2 s (p - k) p; omega
  rwa [Nat.zero_add] at this
def matV (s : ByteArray) (p : Nat) : Value := .tuple #[.int .i64 ((matM s p).1 : Nat), .int .i64 ((matM s p).2 : Nat)]
theorem Try.enters32 : Enters Try.prog 32 := enters_of Try.func32 rfl (by kernel_rfl)
set_option maxHeartbeats 8000000 in
theorem match_ok (w0 : World) (A : St) (s : ByteArray) (c m lo d p : Nat) (hlo : c < lo ∧ m < lo ∧ c ≠ m) (v0 : Value) (h : Chn A c m lo s d v0) (hdp : d ≤ p) (hp : p ≤ s.size) (hs : s.size ≤ 1073741824) :
    ACalls Try.prog w0 32 #[.pointer (some ⟨c, 0, none⟩), .int .i64 p] A fun e A' => e = .returned (matV s p) ∧ ∃ v', Chn A' c m lo s p v' ∧ Kp A A' c m v0 v' := by
  refine call_E Try.enters32 Try.func32 rfl (Nat.le_of_ble_eq_true rfl) fun hw hbd => ?_
  simp (maxSteps := 1000000) (disch := first | omega | (simp only [z1, z2, z3, z4, z5, z6, z7] <;> omega) | fail) only [go_sem, Try.ntmps32, Try.results32]
  refine (learn_ok w0 A s c m lo d p hlo v0 h (by omega) (by omega) (by omega)).mono ?_
  rintro e A1 ⟨rfl, v, hch, hkp⟩
  rw [show max d p = p by omega] at hch
  have hch0 := hch
  obtain ⟨hl0, L, f1, f2, f3, f4⟩ := hch
  by_cases h3 : p + 3 ≤ s.size
  rotate_left
  · have h3' : ¬ ((p : Int) + 3 ≤ s.size) := by omega
    simp (maxSteps := 1000000) (disch := first | omega | (simp only [z1, z2, z3, z4, z5, z6, z7] <;> omega) | fail) only [go_sem, f1, Try.results32]
    exact gc_here ⟨by unfold matV; rw [matM_prog, prog_short h3]; rfl, v, hch0, hkp⟩
  have h3' : ((p : Int) + 3 ≤ s.size) := by omega
  have t3 : ((p : Int) + 3).toNat = p + 3 := by omega
  simp (maxSteps := 1000000) (disch := first | omega | (simp only [z1, z2, z3, z4, z5, z6, z7] <;> omega) | fail) only [go_sem, f1]
  refine aw_draw (by kernel_rfl) ?_
  have hg : smGet L (s.extract p (p + 3)) = (prev s p (three s p)).map fun p => Value.int .i64 (p : Nat) := f3 _
  have hview := f4.view
  obtain ⟨is, z, hz1, hz2, hm⟩ : ∃ (is : Bool) (z : Int), (is = true → z = pz (prev s p (three s p))) ∧ (is = false → prev s p (three s p) = none) ∧ mval (smGet L (s.extract p (p + 3))) (.int .i64 0) true = .tuple #[.int .i64 z, .bool is] := by
    rw [hg]
    rcases hq : prev s p (three s p) with _ | j
    · exact ⟨false, 0, by simp, fun _ => rfl, rfl⟩
    · exact ⟨true, j, fun _ => rfl, by simp, rfl⟩
  simp (maxSteps := 1000000) (disch := first | omega | (simp only [z1, z2, z3, z4, z5, z6, z7] <;> omega) | fail) only [go_sem, f1, f2, t3, hm]
  refine aw_loop (fun k x A' => ∃ (ρ : Nat → Value) (K : Nat) (is : Bool) (z : Int), x = E 71 ρ [] ∧ A' = A1 ∧ k = p - K ∧ K ≤ p ∧ K ≤ 512 ∧ (is = true → z = pz (prev s (p - K) (three s p))) ∧ (is = false → prev s (p - K) (three s p) = none) ∧
      ρ 0 = .pointer (some ⟨c, 0, none⟩) ∧ ρ 1 = .int .i64 p ∧ ρ 4 = .int .i64 ((progK s p K).1 : Nat) ∧ ρ 5 = .int .i64 ((progK s p K).2 : Nat) ∧ ρ 6 = .int .i64 z ∧ ρ 7 = .bool is) p
    ⟨_, 0, is, z, rfl, rfl, rfl, Nat.zero_le _, Nat.zero_le _, hz1, hz2, rfl, rfl, rfl, rfl, rfl, rfl⟩ ?_
  clear hz1 hz2 hm
  rintro k x A' ⟨ρ, K, is, z, rfl, rfl, hk, hKp, hK5, hz1, hz2, g0, g1, g4, g5, g6, g7⟩
  refine aw_of ?_
  have hpl := progK_le s p K
  have stop : progK s p (min 512 p) = progK s p K → ∀ A2, A2 = A' → GcE A (fun e A' => e = .returned (matV s p) ∧ ∃ v', Chn A' c m lo s p v' ∧ Kp A A' c m v0 v') (.returned (.tuple #[.int .i64 ((progK s p K).1 : Nat), .int .i64 ((progK s p K).2 : Nat)])) A2 := by
    rintro he A2 rfl
    exact gc_here ⟨by unfold matV; rw [matM_prog, he], v, hch0, hkp⟩
  cases is with
  | false =>
    simp (maxSteps := 1000000) (disch := first | omega | (simp only [z1, z2, z3, z4, z5, z6, z7] <;> omega) | fail) only [go_sem, g0, g1, g4, g5, g6, g7, Try.results32]
    exact stop (prog_nil h3 (hz2 rfl) (by omega) (by omega)) _ rfl
  | true =>
    obtain rfl := hz1 rfl
    rcases hq : prev s (p - K) (three s p) with _ | j
    · rw [hq] at g6
      simp only [pz] at g6
      simp (maxSteps := 1000000) (disch := first | omega | (simp only [z1, z2, z3, z4, z5, z6, z7] <;> omega) | fail) only [go_sem, g0, g1, g4, g5, g6, g7, Try.results32]
      exact stop (prog_nil h3 hq (by omega) (by omega)) _ rfl
    · rw [hq] at g6
      simp only [pz] at g6
      obtain ⟨j1, j2, j3, j4⟩ := prev_some hq
      by_cases hfar : p - j ≤ 512
      rotate_left
      · have hf' : ¬ ((p : Int) - j ≤ 512) := by omega
        simp (maxSteps := 1000000) (disch := first | omega | (simp only [z1, z2, z3, z4, z5, z6, z7] <;> omega) | fail) only [go_sem, g0, g1, g4, g5, g6, g7, Try.results32]
        exact stop (prog_to h3 hKp hq (by omega) (by omega)) _ rfl
      have hf' : ((p : Int) - j ≤ 512) := by omega
      by_cases hfull : (progK s p K).1 < 34
      rotate_left
      · have hf2 : ¬ (((progK s p K).1 : Int) < 34) := by omega
        simp (maxSteps := 1000000) (disch := first | omega | (simp only [z1, z2, z3, z4, z5, z6, z7] <;> omega) | fail) only [go_sem, g0, g1, g4, g5, g6, g7, Try.results32]
        refine stop ?_ _ rfl
        have := prog_full s p K (by omega) (min 512 p - K)
        rwa [show K + (min 512 p - K) = min 512 p by omega] at this
      have hf2 : (((progK s p K).1 : Nat) : Int) < 34 := by omega
      have hrun : 3 ≤ run s j p := (three_run s (by omega) h3).1 j3
      have hstep : progK s p (p - j) = stepM s p (progK s p K) (p - j) := by
        obtain ⟨n, hn⟩ : ∃ n, p - j = n + 1 := ⟨p - j - 1, by omega⟩
        rw [hn, progK_succ, ← hn, show p - (p - j) = j by omega, if_pos hrun, prog_to h3 hKp hq (n := n) (by omega) (by omega)]
      unfold stepM at hstep
      rw [show p - (p - j) = j by omega] at hstep
      have hbk : backV s j = pz (prev s j (three s p)) := by unfold backV; rw [if_pos j2, j3]
      obtain ⟨b, off, hb1, hb2, hb3, cells, e', md, hb4, hb5⟩ := hview.at1 (P := Try.prog) (e := 3) (i := j) (x := .int .i64 (backV s j)) Try.sz3 (by rw [List.getElem?_map, List.getElem?_range (by omega)]; rfl)
      simp (maxSteps := 1000000) (disch := first | omega | (simp only [z1, z2, z3, z4, z5, z6, z7] <;> omega) | fail) only [go_sem, g0, g1, g4, g5, g6, g7]
      refine call1 (wsame_ok w0 A' s c _ _ f1 j p (by omega) hp (by omega)) ?_
      simp (maxSteps := 1000000) (disch := first | omega | (simp only [z1, z2, z3, z4, z5, z6, z7] <;> omega) | fail) only [go_sem, g4]
      have hsub : (p : Int) - j = ((p - j : Nat) : Int) := by omega
      refine ifB_dec (fun hl => ?_) (fun hl => ?_)
      · rw [if_pos (show run s j p > (progK s p K).1 by omega)] at hstep
        simp (maxSteps := 1000000) (disch := first | omega | (simp only [z1, z2, z3, z4, z5, z6, z7] <;> omega) | fail) only [go_sem, g0, g1, g4, g5, g6, g7, f1, hb3, hb4, hb5, hsub]
        refine ⟨p - (p - j), by omega, _, p - j, true, pz (prev s j (three s p)), rfl, rfl, by omega, by omega, fun _ => ?_, by simp, ?_, ?_, ?_, ?_, ?_, ?_⟩
        · rw [show p - (p - j) = j by omega]
        · simp (maxSteps := 1000000) (disch := first | omega | (simp only [z1, z2, z3, z4, z5, z6, z7] <;> omega) | fail) only [go_sem, g0]
        · simp (maxSteps := 1000000) (disch := first | omega | (simp only [z1, z2, z3, z4, z5, z6, z7] <;> omega) | fail) only [go_sem, g1]
        · simp (maxSteps := 1000000) (disch := first | omega | (simp only [z1, z2, z3, z4, z5, z6, z7] <;> omega) | fail) only [go_sem, hstep]
        · simp (maxSteps := 1000000) (disch := first | omega | (simp only [z1, z2, z3, z4, z5, z6, z7] <;> omega) | fail) only [go_sem, hstep]
        · simp (maxSteps := 1000000) (disch := first | omega | (simp only [z1, z2, z3, z4, z5, z6, z7] <;> omega) | fail) only [go_sem, hbk]
        · simp (maxSteps := 1000000) (disch := first | omega | (simp only [z1, z2, z3, z4, z5, z6, z7] <;> omega) | fail) only [go_sem, g7]
      · rw [if_neg (show ¬ run s j p > (progK s p K).1 by omega)] at hstep
        simp (maxSteps := 1000000) (disch := first | omega | (simp only [z1, z2, z3, z4, z5, z6, z7] <;> omega) | fail) only [go_sem, g0, g1, g4, g5, g6, g7, f1, hb3, hb4, hb5, hsub]
        refine ⟨p - (p - j), by omega, _, p - j, true, pz (prev s j (three s p)), rfl, rfl, by omega, by omega, fun _ => ?_, by simp, ?_, ?_, ?_, ?_, ?_, ?_⟩
        · rw [show p - (p - j) = j by omega]
        · simp (maxSteps := 1000000) (disch := first | omega | (simp only [z1, z2, z3, z4, z5, z6, z7] <;> omega) | fail) only [go_sem, g0]
        · simp (maxSteps := 1000000) (disch := first | omega | (simp only [z1, z2, z3, z4, z5, z6, z7] <;> omega) | fail) only [go_sem, g1]
        · simp (maxSteps := 1000000) (disch := first | omega | (simp only [z1, z2, z3, z4, z5, z6, z7] <;> omega) | fail) only [go_sem, g4, hstep]
        · simp (maxSteps := 1000000) (disch := first | omega | (simp only [z1, z2, z3, z4, z5, z6, z7] <;> omega) | fail) only [go_sem, g5, hstep]
        · simp (maxSteps := 1000000) (disch := first | omega | (simp only [z1, z2, z3, z4, z5, z6, z7] <;> omega) | fail) only [go_sem, hbk]
        · simp (maxSteps := 1000000) (disch := first | omega | (simp only [z1, z2, z3, z4, z5, z6, z7] <;> omega) | fail) only [go_sem, g7]
end Go.Fw

set_option linter.unusedSimpArgs false
set_option linter.unusedVariables false
set_option maxRecDepth 4000
namespace Go.Fw
open Go.Proofs Go.RowKit
theorem Try.enters31 : Enters Try.prog 31 := enters_of Try.func31 rfl (by kernel_rfl)
theorem Try.enters41 : Enters Try.prog 41 := enters_of Try.func41 rfl (by kernel_rfl)
def chS (A : St) (s : ByteArray) : St := (A.alloc (.smap [])).alloc (.cells [.string s, .map (some A.next), .slice none 0 0, .int .i64 0] 104 (some 0))
theorem chained_ok (w0 : World) (A : St) (s : ByteArray) : ACalls Try.prog w0 31 #[.string s] A (fin (.pointer (some ⟨A.next + 1, 0, none⟩)) (chS A s)) := by
  refine call_E Try.enters31 Try.func31 rfl (Nat.le_of_ble_eq_true rfl) fun hw hbd => ?_
  simp (maxSteps := 1000000) (disch := first | omega | (simp only [z1, z2, z3, z4, z5, z6, z7] <;> omega) | fail) only [go_sem, Try.ntmps31, Try.results31]
  exact gc_here ⟨rfl, rfl⟩
theorem chS_chn (A : St) (s : ByteArray) : Chn (chS A s) (A.next + 1) A.next (A.next + 2) s 0 (.slice none 0 0) := by
  refine ⟨Nat.le_refl _, [], ?_, ?_, fun t => rfl, Row.nil ..⟩
  · unfold chS; simp (disch := first | omega | (simp only [z1, z2, z3, z4, z5, z6, z7] <;> omega) | fail) only [St.get_upd, St.get_alloc, St.next_alloc, St.next_upd, ↓reduceIte, natF_lt, natF_gt, natF_ne, Nat.add_assoc, Nat.reduceAdd, Nat.reduceEqDiff, Nat.add_left_cancel_iff]; rfl
  · unfold chS; simp (disch := first | omega | (simp only [z1, z2, z3, z4, z5, z6, z7] <;> omega) | fail) only [St.get_upd, St.get_alloc, St.next_alloc, St.next_upd, ↓reduceIte, natF_lt, natF_gt, natF_ne, Nat.add_assoc, Nat.reduceAdd, Nat.reduceEqDiff, Nat.add_left_cancel_iff]
theorem chS_over (A : St) (s : ByteArray) : Over A (chS A s) := ((Over.refl A).alloc _).alloc _
theorem chS_kp {A A1 : St} {s : ByteArray} {v' : Value} (h : Kp (chS A s) A1 (A.next + 1) A.next (.slice none 0 0) v') : Over A A1 :=
  have ho := chS_over A s
  ⟨Nat.le_trans ho.next h.next, fun b hb => (h.get b (Nat.lt_of_lt_of_le hb ho.next) (by omega) (by omega) (fun e => by cases e)).trans (ho.get b hb)⟩
def matI (s : ByteArray) (i : Int) : Value := if i < 0 ∨ s.size ≤ i then .tuple #[.int .i64 0, .int .i64 0] else matV s i.toNat
theorem bnd_matV (n : Nat) (s : ByteArray) (p : Nat) : Bnd n (matV s p) := by unfold matV; simp only [bnd_tuple, bndL_cons, bndL_nil, bnd_int, and_self]
theorem bnd_matI (n : Nat) (s : ByteArray) (p : Int) : Bnd n (matI s p) := by unfold matI; split <;> simp only [bnd_tuple, bndL_cons, bndL_nil, bnd_int, bnd_matV, and_self]
theorem bestK_le (s : ByteArray) (p : Nat) : ∀ K, (bestK s p K).1 ≤ 34 ∧ (bestK s p K).2 ≤ K
  | 0 => ⟨by simp [bestK], by simp [bestK]⟩
  | K + 1 => by
    have ih := bestK_le s p K
    have := run_le s (p - (K + 1)) p
    unfold bestK stepM
    split
    · exact ⟨this, Nat.le_refl _⟩
    · exact ⟨ih.1, by omega⟩
theorem bestK_succ (s : ByteArray) (p K : Nat) : bestK s p (K + 1) = stepM s p (bestK s p K) (K + 1) := rfl
set_option maxHeartbeats 4000000 in
theorem rMatch_ok (w0 : World) (A : St) (s : ByteArray) (i : Int) (hs : s.size ≤ 1073741824) : ACalls Try.prog w0 41 #[.string s, .int .i64 i] A (fin (matI s i) A) := by
  refine call_E Try.enters41 Try.func41 rfl (Nat.le_of_ble_eq_true rfl) fun hw hbd => ?_
  by_cases h0 : i < 0
  · simp (maxSteps := 1000000) (disch := first | omega | (simp only [z1, z2, z3, z4, z5, z6, z7] <;> omega) | fail) only [go_sem, Try.ntmps41, Try.results41]
    exact gc_fin' hw (Over.refl _) (by unfold matI; rw [if_pos (.inl h0)]) (bnd_matI _ _ _)
  by_cases h1 : (s.size : Int) ≤ i
  · simp (maxSteps := 1000000) (disch := first | omega | (simp only [z1, z2, z3, z4, z5, z6, z7] <;> omega) | fail) only [go_sem, Try.ntmps41, Try.results41]
    exact gc_fin' hw (Over.refl _) (by unfold matI; rw [if_pos (.inr h1)]) (bnd_matI _ _ _)
  simp (maxSteps := 1000000) (disch := first | omega | (simp only [z1, z2, z3, z4, z5, z6, z7] <;> omega) | fail) only [go_sem, Try.ntmps41, Try.results41]
  obtain ⟨p, rfl⟩ := Int.eq_ofNat_of_zero_le (show 0 ≤ i by omega)
  refine aw_loop (fun k x A' => ∃ (ρ : Nat → Value) (K : Nat), x = E 42 ρ [] ∧ A' = A ∧ k = min 512 p - K ∧ K ≤ min 512 p ∧ ρ 0 = .string s ∧ ρ 1 = .int .i64 p ∧ ρ 6 = .int .i64 ((bestK s p K).1 : Nat) ∧ ρ 7 = .int .i64 ((bestK s p K).2 : Nat) ∧ ρ 8 = .int .i64 ((K : Int) + 1)) (min 512 p)
    ⟨_, 0, rfl, rfl, rfl, Nat.zero_le _, rfl, rfl, rfl, rfl, rfl⟩ ?_
  rintro k x A' ⟨ρ, K, rfl, rfl, hk, hK, g0, g1, g6, g7, g8⟩
  refine aw_of ?_
  have hbl := bestK_le s p K
  by_cases hend : K = min 512 p
  · have fin3 : ((bestK s p K).1 < 3 → matI s (p : Nat) = .tuple #[.int .i64 0, .int .i64 0]) ∧ (¬ (bestK s p K).1 < 3 → matI s (p : Nat) = .tuple #[.int .i64 ((bestK s p K).1 : Nat), .int .i64 ((bestK s p K).2 : Nat)]) := by
      refine ⟨fun h => ?_, fun h => ?_⟩
      · unfold matI matV matM; rw [if_neg (by omega), Int.toNat_natCast, ← hend, if_pos h]; rfl
      · unfold matI matV matM; rw [if_neg (by omega), Int.toNat_natCast, ← hend, if_neg h]
    by_cases h5 : K < 512
    · have e1 : ¬ ((K : Int) + 1 ≤ p) := by omega
      simp (maxSteps := 1000000) (disch := first | omega | (simp only [z1, z2, z3, z4, z5, z6, z7] <;> omega) | fail) only [go_sem, g0, g1, g6, g7, g8]
      refine ifB_dec (fun hl => ?_) (fun hl => ?_)
      · simp (maxSteps := 1000000) (disch := first | omega | (simp only [z1, z2, z3, z4, z5, z6, z7] <;> omega) | fail) only [go_sem, g0, g1, g6, g7, g8, Try.results41]
        exact gc_fin' hw (Over.refl _) (fin3.1 (by omega)).symm (bnd_matI _ _ _)
      · simp (maxSteps := 1000000) (disch := first | omega | (simp only [z1, z2, z3, z4, z5, z6, z7] <;> omega) | fail) only [go_sem, g0, g1, g6, g7, g8, Try.results41]
        exact gc_fin' hw (Over.refl _) (fin3.2 (by omega)).symm (bnd_matI _ _ _)
    · have e1 : ¬ ((K : Int) + 1 ≤ 512) := by omega
      simp (maxSteps := 1000000) (disch := first | omega | (simp only [z1, z2, z3, z4, z5, z6, z7] <;> omega) | fail) only [go_sem, g0, g1, g6, g7, g8]
      refine ifB_dec (fun hl => ?_) (fun hl => ?_)
      · simp (maxSteps := 1000000) (disch := first | omega | (simp only [z1, z2, z3, z4, z5, z6, z7] <;> omega) | fail) only [go_sem, g0, g1, g6, g7, g8, Try.results41]
        exact gc_fin' hw (Over.refl _) (fin3.1 (by omega)).symm (bnd_matI _ _ _)
      · simp (maxSteps := 1000000) (disch := first | omega | (simp only [z1, z2, z3, z4, z5, z6, z7] <;> omega) | fail) only [go_sem, g0, g1, g6, g7, g8, Try.results41]
        exact gc_fin' hw (Over.refl _) (fin3.2 (by omega)).symm (bnd_matI _ _ _)
  have e1 : (K : Int) + 1 ≤ 512 := by omega
  have e2 : (K : Int) + 1 ≤ p := by omega
  have e3 : (p : Int) - ((K : Int) + 1) = ((p - (K + 1) : Nat) : Int) := by omega
  simp (maxSteps := 1000000) (disch := first | omega | (simp only [z1, z2, z3, z4, z5, z6, z7] <;> omega) | fail) only [go_sem, g0, g1, g6, g7, g8, e3]
  refine call1 (rrun_ok w0 A' s (p - (K + 1)) p (by omega) (by omega) (by omega)) ?_
  have hstep := bestK_succ s p K
  unfold stepM at hstep
  simp (maxSteps := 1000000) (disch := first | omega | (simp only [z1, z2, z3, z4, z5, z6, z7] <;> omega) | fail) only [go_sem, g6]
  refine ifB_dec (fun hl => ?_) (fun hl => ?_)
  · rw [if_pos (show run s (p - (K + 1)) p > (bestK s p K).1 by omega)] at hstep
    simp (maxSteps := 1000000) (disch := first | omega | (simp only [z1, z2, z3, z4, z5, z6, z7] <;> omega) | fail) only [go_sem, g0, g1, g6, g7, g8]
    refine ⟨k - 1, by omega, _, K + 1, rfl, by omega, by omega, ?_, ?_, ?_, ?_, ?_⟩
    · simp (maxSteps := 1000000) (disch := first | omega | (simp only [z1, z2, z3, z4, z5, z6, z7] <;> omega) | fail) only [go_sem, g0]
    · simp (maxSteps := 1000000) (disch := first | omega | (simp only [z1, z2, z3, z4, z5, z6, z7] <;> omega) | fail) only [go_sem, g1]
    · simp (maxSteps := 1000000) (disch := first | omega | (simp only [z1, z2, z3, z4, z5, z6, z7] <;> omega) | fail) only [go_sem, hstep]
    · simp (maxSteps := 1000000) (disch := first | omega | (simp only [z1, z2, z3, z4, z5, z6, z7] <;> omega) | fail) only [go_sem, hstep]
      rfl
    · simp (maxSteps := 1000000) (disch := first | omega | (simp only [z1, z2, z3, z4, z5, z6, z7] <;> omega) | fail) only [go_sem, g8]
      rfl
  · rw [if_neg (show ¬ run s (p - (K + 1)) p > (bestK s p K).1 by omega)] at hstep
    simp (maxSteps := 1000000) (disch := first | omega | (simp only [z1, z2, z3, z4, z5, z6, z7] <;> omega) | fail) only [go_sem, g0, g1, g6, g7, g8]
    refine ⟨k - 1, by omega, _, K + 1, rfl, by omega, by omega, ?_, ?_, ?_, ?_, ?_⟩
    · simp (maxSteps := 1000000) (disch := first | omega | (simp only [z1, z2, z3, z4, z5, z6, z7] <;> omega) | fail) only [go_sem, g0]
    · simp (maxSteps := 1000000) (disch := first | omega | (simp only [z1, z2, z3, z4, z5, z6, z7] <;> omega) | fail) only [go_sem, g1]
    · simp (maxSteps := 1000000) (disch := first | omega | (simp only [z1, z2, z3, z4, z5, z6, z7] <;> omega) | fail) only [go_sem, g6, hstep]
    · simp (maxSteps := 1000000) (disch := first | omega | (simp only [z1, z2, z3, z4, z5, z6, z7] <;> omega) | fail) only [go_sem, g7, hstep]
    · simp (maxSteps := 1000000) (disch := first | omega | (simp only [z1, z2, z3, z4, z5, z6, z7] <;> omega) | fail) only [go_sem, g8]
      rfl

theorem Try.enters15 : Enters Try.prog 15 := enters_of Try.func15 rfl (by kernel_rfl)
theorem Try.enters21 : Enters Try.prog 21 := enters_of Try.func21 rfl (by kernel_rfl)
/-- A token: a byte, a length, how far back. -/
abbrev Tok := Int × Int × Int
def tkC (t : Tok) : List Value := [.int .u8 t.1, .int .i64 t.2.1, .int .i64 t.2.2]
theorem tkC_length (t : Tok) : (tkC t).length = 3 := rfl
def splitN (s : ByteArray) : Nat → Nat → List Tok
  | 0, _ => []
  | k + 1, p => if p < s.size then (if (matM s p).1 = 0 then (sbt s p, 0, 0) :: splitN s k (p + 1) else (0, ((matM s p).1 : Nat), ((matM s p).2 : Nat)) :: splitN s k (p + (matM s p).1)) else []
def splitL (s : ByteArray) : List Tok := splitN s s.size 0
theorem splitN_stop {s : ByteArray} {k p : Nat} (h : ¬ p < s.size) : splitN s k p = [] := by
  cases k with
  | zero => rfl
  | succ k => unfold splitN; rw [if_neg h]
def TokRow (A : St) (e lo : Nat) (l : List Tok) (v : Value) : Prop := Row A e 3 lo (l.flatMap tkC) l.length v
theorem tk_snoc (l : List Tok) (t : Tok) : (l ++ [t]).flatMap tkC = l.flatMap tkC ++ tkC t := by simp [List.flatMap_append]
theorem matM_le (s : ByteArray) (p : Nat) : (matM s p).1 ≤ 34 ∧ (matM s p).2 ≤ 512 := by
  rw [matM_prog]
  have := progK_le s p (min 512 p)
  exact ⟨this.1, by omega⟩
set_option maxHeartbeats 4000000 in
theorem Split_ok (w0 : World) (A : St) (s : ByteArray) (hs : s.size ≤ 1073741824) : ACalls Try.prog w0 15 #[.string s] A fun e A' => ∃ v, e = .returned v ∧ Over A A' ∧ TokRow A' 34 A.next (splitL s) v := by
  refine call_E Try.enters15 Try.func15 rfl (Nat.le_of_ble_eq_true rfl) fun hw hbd => ?_
  simp (maxSteps := 1000000) (disch := first | omega | (simp only [z1, z2, z3, z4, z5, z6, z7] <;> omega) | fail) only [go_sem, Try.ntmps15, Try.results15]
  refine call1 (chained_ok w0 A s) ?_
  simp (maxSteps := 1000000) (disch := first | omega | (simp only [z1, z2, z3, z4, z5, z6, z7] <;> omega) | fail) only [go_sem]
  refine aw_loop (fun k x A' => ∃ (ρ : Nat → Value) (p d : Nat) (acc : List Tok) (v tv : Value), x = E 42 ρ [] ∧ s.size - p ≤ k ∧ acc ++ splitN s k p = splitL s ∧ acc.length ≤ p ∧ acc.length + k ≤ s.size ∧ d ≤ p ∧ Chn A' (A.next + 1) A.next (A.next + 2) s d v ∧ Kp (chS A s) A' (A.next + 1) A.next (.slice none 0 0) v ∧
      TokRow A' 34 (A.next + 2) acc tv ∧ (∀ b, rowB tv = some b → rowB v ≠ some b) ∧ ρ 0 = .string s ∧ ρ 3 = tv ∧ ρ 4 = .func (.func 32) #[.pointer (some ⟨A.next + 1, 0, none⟩)] #[] ∧ ρ 5 = .int .i64 p) s.size
    ⟨_, 0, 0, [], _, .slice none 0 0, rfl, by omega, rfl, Nat.le_refl _, by simp, Nat.le_refl _, chS_chn A s, Kp.refl .., Row.nil .., (fun b hb => by cases hb), rfl, rfl, rfl, rfl⟩ ?_
  rintro k x A' ⟨ρ, p, d, acc, v, tv, rfl, hk, hsp, hal, hak, hdp, hch, hkp, htv, hdis, g0, g3, g4, g5⟩
  refine aw_of ?_
  by_cases hp : p < s.size
  rotate_left
  · rw [splitN_stop hp, List.append_nil] at hsp
    simp (maxSteps := 1000000) (disch := first | omega | (simp only [z1, z2, z3, z4, z5, z6, z7] <;> omega) | fail) only [go_sem, g0, g3, g4, g5, Try.results15]
    refine gc_here ⟨tv, rfl, chS_kp hkp, ?_⟩
    rw [← hsp]
    exact htv.keep (Nat.le_refl _) (fun _ _ _ _ => rfl) (by omega)
  obtain ⟨k, rfl⟩ : ∃ j, k = j + 1 := ⟨k - 1, by omega⟩
  simp (maxSteps := 1000000) (disch := first | omega | (simp only [z1, z2, z3, z4, z5, z6, z7] <;> omega) | fail) only [go_sem, g0, g3, g4, g5]
  refine (match_ok w0 A' s (A.next + 1) A.next (A.next + 2) d p ⟨by omega, by omega, by omega⟩ v hch hdp (by omega) hs).mono ?_
  rintro e A1 ⟨rfl, v1, hch1, hkp1⟩
  have hkp2 := hkp.trans hkp1
  have htv1 : TokRow A1 34 (A.next + 2) acc tv := htv.keep hkp1.next (fun b hb q1 q2 => hkp1.get b q2 (by omega) (by omega) (hdis b hb)) (Nat.le_refl _)
  have hlo : A.next + 2 ≤ A1.next := hch1.1
  obtain ⟨hm1, hm2⟩ := matM_le s p
  unfold splitN at hsp
  rw [if_pos hp] at hsp
  unfold matV
  have hdis1 : ∀ b, rowB tv = some b → rowB v1 ≠ some b := fun b hb e => by
    rcases hkp1.row b e with e | e
    · exact hdis b hb e
    · have := htv.bnd b hb; omega
  -- what is pushed
  have push : ∀ (t : Tok), ∃ v' A2, aappend Try.prog (A1.alloc (.cells (tkC t) 34 (some 0))) 30 30 tv (.slice (some ⟨A1.next, 0, none⟩) 1 1) = some (v', A2) ∧ Chn A2 (A.next + 1) A.next (A.next + 2) s p v1 ∧ Kp (chS A s) A2 (A.next + 1) A.next (.slice none 0 0) v1 ∧ TokRow A2 34 (A.next + 2) (acc ++ [t]) v' ∧ (∀ b, rowB v' = some b → rowB v1 ≠ some b) := by
    intro t
    obtain ⟨v', A2, hap, hr2, hn2, hrb, hf2⟩ := row_push (A := A1) (sp := none) (c := 1) (xs := tkC t) Try.el30 Try.underlying30 (by intro k; exact TypeDesc.noConfusion) Try.sz34 Try.byt34 Try.zero34 rfl htv1 hlo (by omega) (by omega) rfl rfl
    obtain ⟨_, L, c1, c2, c3, c4⟩ := hch1
    have keepv : ∀ b, rowB v1 = some b → A.next + 2 ≤ b → b < A1.next → A2.get b = A1.get b := fun b hb q1 q2 => hf2 b q2 (fun e => hdis1 b e hb)
    have low : ∀ b, b < A.next + 2 → A2.get b = A1.get b := fun b hb => hf2 b (by omega) (fun e => by have := htv1.bnd b e; omega)
    refine ⟨v', A2, hap, ⟨by omega, L, by rw [low _ (by omega)]; exact c1, by rw [low _ (by omega)]; exact c2, c3, c4.keep (by omega) keepv (Nat.le_refl _)⟩, ⟨by have := hkp2.next; omega, fun b h1 h2 h3 h4 => ?_, fun b hb => by rcases hkp2.row b hb with h | h; exact .inl h; exact .inr h⟩, ?_, fun b hb e => ?_⟩
    · have hb3 : b < A.next + 2 := h1
      rw [low b hb3]; exact hkp2.get b h1 h2 h3 h4
    · unfold TokRow
      rw [tk_snoc, List.length_append]; exact hr2
    · rw [hrb] at hb; cases hb
      have := c4.bnd _ e; omega
  by_cases hz : (matM s p).1 = 0
  · rw [if_pos hz] at hsp
    obtain ⟨v', A2, hap, q1, q2, q3, q4⟩ := push (sbt s p, 0, 0)
    have hz' : (((matM s p).1 : Nat) : Int) = 0 := by omega
    simp only [tkC] at hap
    simp (maxSteps := 1000000) (disch := first | omega | (simp only [z1, z2, z3, z4, z5, z6, z7] <;> omega) | fail) only [go_sem, g0, g3, g4, g5, hz']
    rw [hap]
    simp (maxSteps := 1000000) (disch := first | omega | (simp only [z1, z2, z3, z4, z5, z6, z7] <;> omega) | fail) only [go_sem, g0, g3, g4, g5]
    refine ⟨k, by omega, _, p + 1, p, acc ++ [(sbt s p, 0, 0)], v1, v', rfl, by omega, by rw [List.append_assoc]; exact hsp, by simp; omega, by simp; omega, by omega, q1, q2, q3, q4, ?_, ?_, ?_, ?_⟩
    · simp (maxSteps := 1000000) (disch := first | omega | (simp only [z1, z2, z3, z4, z5, z6, z7] <;> omega) | fail) only [go_sem, g0]
    · simp (maxSteps := 1000000) (disch := first | omega | (simp only [z1, z2, z3, z4, z5, z6, z7] <;> omega) | fail) only [go_sem]
    · simp (maxSteps := 1000000) (disch := first | omega | (simp only [z1, z2, z3, z4, z5, z6, z7] <;> omega) | fail) only [go_sem, g4]
    · simp (maxSteps := 1000000) (disch := first | omega | (simp only [z1, z2, z3, z4, z5, z6, z7] <;> omega) | fail) only [go_sem, g5]
      rfl
  · rw [if_neg hz] at hsp
    obtain ⟨v', A2, hap, q1, q2, q3, q4⟩ := push (0, ((matM s p).1 : Nat), ((matM s p).2 : Nat))
    have hz' : ¬ (((matM s p).1 : Nat) : Int) = 0 := by omega
    simp only [tkC] at hap
    simp (maxSteps := 1000000) (disch := first | omega | (simp only [z1, z2, z3, z4, z5, z6, z7] <;> omega) | fail) only [go_sem, g0, g3, g4, g5, hz']
    rw [hap]
    simp (maxSteps := 1000000) (disch := first | omega | (simp only [z1, z2, z3, z4, z5, z6, z7] <;> omega) | fail) only [go_sem, g0, g3, g4, g5]
    refine ⟨k, by omega, _, p + (matM s p).1, p, acc ++ [((0, ((matM s p).1 : Nat), ((matM s p).2 : Nat)) : Tok)], v1, v', rfl, by omega, by rw [List.append_assoc]; exact hsp, by simp; omega, by simp; omega, by omega, q1, q2, q3, q4, ?_, ?_, ?_, ?_⟩
    · simp (maxSteps := 1000000) (disch := first | omega | (simp only [z1, z2, z3, z4, z5, z6, z7] <;> omega) | fail) only [go_sem, g0]
    · simp (maxSteps := 1000000) (disch := first | omega | (simp only [z1, z2, z3, z4, z5, z6, z7] <;> omega) | fail) only [go_sem]
    · simp (maxSteps := 1000000) (disch := first | omega | (simp only [z1, z2, z3, z4, z5, z6, z7] <;> omega) | fail) only [go_sem, g4]
    · simp (maxSteps := 1000000) (disch := first | omega | (simp only [z1, z2, z3, z4, z5, z6, z7] <;> omega) | fail) only [go_sem, g5]
      rfl
set_option maxHeartbeats 4000000 in
theorem rSplit_ok (w0 : World) (A : St) (s : ByteArray) (hs : s.size ≤ 1073741824) : ACalls Try.prog w0 21 #[.string s] A fun e A' => ∃ v, e = .returned v ∧ Over A A' ∧ TokRow A' 33 A.next (splitL s) v := by
  refine call_E Try.enters21 Try.func21 rfl (Nat.le_of_ble_eq_true rfl) fun hw hbd => ?_
  simp (maxSteps := 1000000) (disch := first | omega | (simp only [z1, z2, z3, z4, z5, z6, z7] <;> omega) | fail) only [go_sem, Try.ntmps21, Try.results21]
  refine aw_loop (fun k x A' => ∃ (ρ : Nat → Value) (p : Nat) (acc : List Tok) (tv : Value), x = E 39 ρ [] ∧ s.size - p ≤ k ∧ acc ++ splitN s k p = splitL s ∧ acc.length ≤ p ∧ acc.length + k ≤ s.size ∧ Over A A' ∧ TokRow A' 33 A.next acc tv ∧ ρ 0 = .string s ∧ ρ 3 = tv ∧ ρ 4 = .int .i64 p) s.size
    ⟨_, 0, [], _, rfl, by omega, rfl, Nat.le_refl _, by simp, (Over.refl A).alloc _, ⟨rfl, .inr ⟨A.next, none, rfl, .inl rfl, Nat.le_refl _, by simp, get_alloc_same ..⟩⟩, rfl, rfl, rfl⟩ ?_
  rintro k x A' ⟨ρ, p, acc, tv, rfl, hk, hsp, hal, hak, hov, htv, g0, g3, g4⟩
  refine aw_of ?_
  by_cases hp : p < s.size
  rotate_left
  · rw [splitN_stop hp, List.append_nil] at hsp
    simp (maxSteps := 1000000) (disch := first | omega | (simp only [z1, z2, z3, z4, z5, z6, z7] <;> omega) | fail) only [go_sem, g0, g3, g4, Try.results21]
    exact gc_here ⟨tv, rfl, hov, by rw [← hsp]; exact htv⟩
  obtain ⟨k, rfl⟩ : ∃ j, k = j + 1 := ⟨k - 1, by omega⟩
  simp (maxSteps := 1000000) (disch := first | omega | (simp only [z1, z2, z3, z4, z5, z6, z7] <;> omega) | fail) only [go_sem, g0, g3, g4]
  refine call1 (rMatch_ok w0 A' s p hs) ?_
  rw [show matI s (p : Nat) = matV s p by unfold matI; rw [if_neg (by omega)]; rfl]
  unfold matV
  obtain ⟨hm1, hm2⟩ := matM_le s p
  unfold splitN at hsp
  rw [if_pos hp] at hsp
  have push : ∀ (t : Tok), ∃ v' A2, aappend Try.prog (A'.alloc (.cells (tkC t) 33 (some 0))) 31 31 tv (.slice (some ⟨A'.next, 0, none⟩) 1 1) = some (v', A2) ∧ Over A A2 ∧ TokRow A2 33 A.next (acc ++ [t]) v' := by
    intro t
    obtain ⟨v', A2, hap, hr2, hn2, hrb, hf2⟩ := row_push (A := A') (sp := none) (c := 1) (xs := tkC t) Try.el31 Try.underlying31 (by intro k; exact TypeDesc.noConfusion) Try.sz33 Try.byt33 Try.zero33 rfl htv hov.next (by omega) (by omega) rfl rfl
    refine ⟨v', A2, hap, ⟨by have := hov.next; omega, fun b hb => ?_⟩, ?_⟩
    · have := hov.next
      rw [hf2 b (by omega) (fun e => by have := htv.bnd b e; omega)]; exact hov.get b hb
    · unfold TokRow
      rw [tk_snoc, List.length_append]; exact hr2
  by_cases hz : (matM s p).1 = 0
  · rw [if_pos hz] at hsp
    obtain ⟨v', A2, hap, q1, q3⟩ := push (sbt s p, 0, 0)
    have hz' : (((matM s p).1 : Nat) : Int) = 0 := by omega
    simp only [tkC] at hap
    simp (maxSteps := 1000000) (disch := first | omega | (simp only [z1, z2, z3, z4, z5, z6, z7] <;> omega) | fail) only [go_sem, g0, g3, g4, hz']
    rw [hap]
    simp (maxSteps := 1000000) (disch := first | omega | (simp only [z1, z2, z3, z4, z5, z6, z7] <;> omega) | fail) only [go_sem, g0, g3, g4]
    refine ⟨k, by omega, _, p + 1, acc ++ [(sbt s p, 0, 0)], v', rfl, by omega, by rw [List.append_assoc]; exact hsp, by simp; omega, by simp; omega, q1, q3, ?_, ?_, ?_⟩
    · simp (maxSteps := 1000000) (disch := first | omega | (simp only [z1, z2, z3, z4, z5, z6, z7] <;> omega) | fail) only [go_sem, g0]
    · simp (maxSteps := 1000000) (disch := first | omega | (simp only [z1, z2, z3, z4, z5, z6, z7] <;> omega) | fail) only [go_sem]
    · simp (maxSteps := 1000000) (disch := first | omega | (simp only [z1, z2, z3, z4, z5, z6, z7] <;> omega) | fail) only [go_sem, g4]
      rfl
  · rw [if_neg hz] at hsp
    obtain ⟨v', A2, hap, q1, q3⟩ := push (0, ((matM s p).1 : Nat), ((matM s p).2 : Nat))
    have hz' : ¬ (((matM s p).1 : Nat) : Int) = 0 := by omega
    simp only [tkC] at hap
    simp (maxSteps := 1000000) (disch := first | omega | (simp only [z1, z2, z3, z4, z5, z6, z7] <;> omega) | fail) only [go_sem, g0, g3, g4, hz']
    rw [hap]
    simp (maxSteps := 1000000) (disch := first | omega | (simp only [z1, z2, z3, z4, z5, z6, z7] <;> omega) | fail) only [go_sem, g0, g3, g4]
    refine ⟨k, by omega, _, p + (matM s p).1, acc ++ [((0, ((matM s p).1 : Nat), ((matM s p).2 : Nat)) : Tok)], v', rfl, by omega, by rw [List.append_assoc]; exact hsp, by simp; omega, by simp; omega, q1, q3, ?_, ?_, ?_⟩
    · simp (maxSteps := 1000000) (disch := first | omega | (simp only [z1, z2, z3, z4, z5, z6, z7] <;> omega) | fail) only [go_sem, g0]
    · simp (maxSteps := 1000000) (disch := first | omega | (simp only [z1, z2, z3, z4, z5, z6, z7] <;> omega) | fail) only [go_sem]
    · simp (maxSteps := 1000000) (disch := first | omega | (simp only [z1, z2, z3, z4, z5, z6, z7] <;> omega) | fail) only [go_sem, g4]
      rfl
def TokView (A : St) (l : List Tok) (v : Value) : Prop := View A 3 (l.flatMap tkC) l.length v
theorem TokRow.view {A : St} {e lo : Nat} {l : List Tok} {v : Value} (h : TokRow A e lo l v) : TokView A l v := Row.view h
theorem tk_at (l : List Tok) (i : Nat) (t : Tok) (h : l[i]? = some t) : ((l.flatMap tkC).drop (i * 3)).take 3 = tkC t := by
  apply List.ext_getElem?
  intro j
  rw [List.getElem?_take]
  by_cases hj : j < 3
  · rw [if_pos hj, List.getElem?_drop, flatMap_at l (fun y _ => tkC_length y) i j hj, h]; rfl
  · rw [if_neg hj, List.getElem?_eq_none (by rw [tkC_length]; omega)]
theorem splitN_len (s : ByteArray) : ∀ k p, (splitN s k p).length ≤ k
  | 0, _ => Nat.le_refl _
  | k + 1, p => by
    have h1 := splitN_len s k (p + 1)
    have h2 := splitN_len s k (p + (matM s p).1)
    unfold splitN
    split
    · split <;> simp <;> omega
    · simp
theorem splitL_len (s : ByteArray) : (splitL s).length ≤ s.size := splitN_len s _ _
/-- What a match is. -/
theorem progK_law (s : ByteArray) (p : Nat) : ∀ K, progK s p K = (0, 0) ∨ (3 ≤ (progK s p K).1 ∧ 1 ≤ (progK s p K).2 ∧ (progK s p K).2 ≤ K ∧ (progK s p K).1 = run s (p - (progK s p K).2) p)
  | 0 => .inl rfl
  | K + 1 => by
    have ih := progK_law s p K
    rw [progK_succ]
    unfold stepM
    split
    · rename_i h3
      split
      · exact .inr ⟨h3, by simp, by simp, rfl⟩
      · rename_i hb
        rcases ih with ih | ⟨h1, h2, h4, h5⟩
        · rw [ih] at hb; simp at hb; omega
        · exact .inr ⟨h1, h2, by omega, h5⟩
    · rcases ih with ih | ⟨h1, h2, h4, h5⟩
      · exact .inl ih
      · exact .inr ⟨h1, h2, by omega, h5⟩
theorem matM_law (s : ByteArray) (p : Nat) : matM s p = (0, 0) ∨ (3 ≤ (matM s p).1 ∧ 1 ≤ (matM s p).2 ∧ (matM s p).2 ≤ p ∧ (matM s p).2 ≤ 512 ∧ (matM s p).1 = run s (p - (matM s p).2) p) := by
  rw [matM_prog]
  rcases progK_law s p (min 512 p) with h | ⟨h1, h2, h3, h4⟩
  · exact .inl h
  · exact .inr ⟨h1, h2, by omega, by omega, h4⟩
end Go.Fw
