import Derived.Test.YtmfccnnkolegmaaFwPre6
set_option linter.unusedSimpArgs false
set_option linter.unusedVariables false
set_option maxRecDepth 4000
namespace Go.Fw
open Go.Proofs Go.RowKit
/-! Trees of symbols: what their making comes to; how they lie. -/
def InView (A : St) (l : List Int) (v : Value) : Prop := View A 1 (l.flatMap i64E) l.length v
def InRow (A : St) (lo : Nat) (l : List Int) (v : Value) : Prop := Row A 3 1 lo (l.flatMap i64E) l.length v
inductive HT where
  | leaf (w : Int) (s : Nat)
  | br (w : Int) (l r : HT)
def HT.wt : HT → Int
  | .leaf w _ => w
  | .br w _ _ => w
def HT.syms : HT → List Nat
  | .leaf _ s => [s]
  | .br _ l r => l.syms ++ r.syms
def leafs : List Int → Nat → List HT
  | [], _ => []
  | f :: fs, i => if 0 < f then .leaf f i :: leafs fs (i + 1) else leafs fs (i + 1)
theorem leafs_app : ∀ (l : List Int) (x : Int) (i : Nat), leafs (l ++ [x]) i = if 0 < x then leafs l i ++ [.leaf x (i + l.length)] else leafs l i
  | [], x, i => by
    by_cases hx : 0 < x <;> simp [leafs, hx]
  | f :: l, x, i => by
    have ih := leafs_app l x (i + 1)
    rw [List.cons_append, leafs, ih, List.length_cons, show i + 1 + l.length = i + (l.length + 1) by omega, leafs]
    by_cases hf : 0 < f <;> by_cases hx : 0 < x <;> simp [hf, hx]
/-- The making of the tree: the two lightest ones become one, till there is one. -/
def huff : Nat → List HT → List HT
  | 0, Q => Q
  | k + 1, a :: b :: Q => huff k (insK HT.wt Q (.br (a.wt + b.wt) a b))
  | _ + 1, Q => Q
theorem huff_small {Q : List HT} (h : Q.length ≤ 1) : ∀ k, huff k Q = Q
  | 0 => rfl
  | k + 1 => by
    match Q, h with
    | [], _ => rfl
    | [a], _ => rfl
theorem huff_len : ∀ (k : Nat) (Q : List HT), Q.length ≤ k + 1 → (huff k Q).length ≤ 1
  | 0, Q, h => h
  | k + 1, Q, h => by
    match Q, h with
    | [], _ => simp [huff]
    | [a], _ => simp [huff]
    | a :: b :: Q, h => exact huff_len k _ (by rw [insK_len]; simp at h; omega)
theorem huff_fuel : ∀ (k : Nat) (Q : List HT), Q.length ≤ k + 1 → ∀ k', k ≤ k' → huff k' Q = huff k Q
  | 0, Q, h, k', _ => by rw [huff_small h k']; rfl
  | k + 1, Q, h, k', hk => by
    obtain ⟨j, rfl⟩ : ∃ j, k' = j + 1 := ⟨k' - 1, by omega⟩
    match Q, h with
    | [], _ => rfl
    | [a], _ => rfl
    | a :: b :: Q, h => exact huff_fuel k _ (by rw [insK_len]; simp at h; omega) j (by omega)
def mx1 (d : Int) : Int := if 1 > d then 1 else d
def deepL : HT → Int → List Int → List Int
  | .leaf _ s, d, l => l.set s (mx1 d)
  | .br _ a b, d, l => deepL b (d + 1) (deepL a (d + 1) l)
theorem deepL_len : ∀ (t : HT) (d : Int) (l : List Int), (deepL t d l).length = l.length
  | .leaf _ s, d, l => List.length_set ..
  | .br _ a b, d, l => by unfold deepL; rw [deepL_len b, deepL_len a]
def deepAll (Q : List HT) (l : List Int) : List Int := Q.foldl (fun l t => deepL t 0 l) l
def hufP (f : List Int) : List HT := huff f.length (srtK HT.wt (leafs f 0))
/-- The lengths by some weights. -/
def grownP (f : List Int) : List Int := deepAll (hufP f) (List.replicate f.length 0)
theorem deepAll_len : ∀ (Q : List HT) (l : List Int), (deepAll Q l).length = l.length
  | [], l => rfl
  | t :: Q, l => by unfold deepAll; rw [List.foldl_cons]; exact (deepAll_len Q _).trans (deepL_len t 0 l)
theorem grownP_len (f : List Int) : (grownP f).length = f.length := by unfold grownP; rw [deepAll_len, List.length_replicate]
theorem leafs_len : ∀ (f : List Int) (i : Nat), (leafs f i).length ≤ f.length
  | [], i => by simp [leafs]
  | x :: f, i => by
    unfold leafs
    have := leafs_len f (i + 1)
    split <;> simp <;> omega
/-- Two rows of trees as one, by weight, the first one's ahead. -/
def mrg : List HT → List HT → List HT
  | [], P => P
  | a :: L, [] => a :: L
  | a :: L, p :: P => if a.wt ≤ p.wt then a :: mrg L (p :: P) else p :: mrg (a :: L) P
termination_by L P => L.length + P.length
theorem mrg_nil (P : List HT) : mrg [] P = P := by rw [mrg]
theorem mrg_nil2 (L : List HT) : mrg L [] = L := by cases L <;> rw [mrg]
theorem mrg_le {a p : HT} {L P : List HT} (h : a.wt ≤ p.wt) : mrg (a :: L) (p :: P) = a :: mrg L (p :: P) := by rw [mrg, if_pos h]
theorem mrg_gt {a p : HT} {L P : List HT} (h : ¬ a.wt ≤ p.wt) : mrg (a :: L) (p :: P) = p :: mrg (a :: L) P := by rw [mrg, if_neg h]
theorem insK_all {α : Type} {k : α → Int} : ∀ {s : List α} {x : α}, (∀ y ∈ s, k y ≤ k x) → insK k s x = s ++ [x]
  | [], x, _ => rfl
  | y :: s, x, h => by rw [insK, if_pos (h y (List.mem_cons_self ..)), insK_all fun z hz => h z (List.mem_cons_of_mem _ hz)]; rfl
theorem mrg_ins (t : HT) : ∀ (L P : List HT), (∀ p ∈ P, p.wt ≤ t.wt) → insK HT.wt (mrg L P) t = mrg L (P ++ [t])
  | [], P, h => by rw [mrg_nil, mrg_nil]; exact insK_all h
  | a :: L, [], h => by
    rw [mrg_nil2, List.nil_append, insK]
    by_cases hat : a.wt ≤ t.wt
    · rw [if_pos hat, mrg_le hat]
      have := mrg_ins t L [] (fun p hp => by cases hp)
      rw [mrg_nil2, List.nil_append] at this
      rw [this]
    · rw [if_neg hat, mrg_gt hat, mrg_nil2]
  | a :: L, p :: P, h => by
    have hp := h p (List.mem_cons_self ..)
    by_cases hap : a.wt ≤ p.wt
    · rw [mrg_le hap, List.cons_append, mrg_le hap, insK, if_pos (by omega)]
      congr 1
      exact mrg_ins t L (p :: P) h
    · rw [mrg_gt hap, List.cons_append, mrg_gt hap, insK, if_pos hp]
      congr 1
      exact mrg_ins t (a :: L) P fun q hq => h q (List.mem_cons_of_mem _ hq)
termination_by L P => L.length + P.length
/-- What holds between the rows of the making: x, y are the last two weights that were taken. -/
structure HInv (L P : List HT) : Prop where
  sl : Srtd HT.wt L
  sp : Srtd HT.wt P
  top : ∃ x y : Int, 0 ≤ x ∧ x ≤ y ∧ (∀ p ∈ P, p.wt ≤ x + y) ∧ (∀ q ∈ L, y ≤ q.wt) ∧ ∀ q ∈ P, y ≤ q.wt
/-- The lightest one, and what is left. -/
def popL : List HT → List HT → Option (HT × List HT × List HT)
  | [], [] => none
  | a :: L, [] => some (a, L, [])
  | [], p :: P => some (p, [], P)
  | a :: L, p :: P => if a.wt ≤ p.wt then some (a, L, p :: P) else some (p, a :: L, P)
theorem popL_cc (a : HT) (L : List HT) (p : HT) (P : List HT) : popL (a :: L) (p :: P) = if a.wt ≤ p.wt then some (a, L, p :: P) else some (p, a :: L, P) := rfl
theorem popL_mrg {L P : List HT} {t : HT} {L' P' : List HT} (h : popL L P = some (t, L', P')) : mrg L P = t :: mrg L' P' := by
  match L, P, h with
  | a :: L, [], h => cases h; rw [mrg_nil2, mrg_nil2]
  | [], p :: P, h => cases h; rw [mrg_nil, mrg_nil]
  | a :: L, p :: P, h =>
    rw [popL_cc] at h
    split at h
    · rename_i hle; cases h; rw [mrg_le hle]
    · rename_i hle; cases h; rw [mrg_gt hle]
theorem popL_some {L P : List HT} (h : 0 < L.length + P.length) : ∃ t L' P', popL L P = some (t, L', P') ∧ L'.length + P'.length + 1 = L.length + P.length := by
  match L, P, h with
  | a :: L, [], _ => exact ⟨_, _, _, rfl, by simp⟩
  | [], p :: P, _ => exact ⟨_, _, _, rfl, by simp⟩
  | a :: L, p :: P, _ =>
    rw [popL_cc]
    by_cases hle : a.wt ≤ p.wt
    · exact ⟨_, _, _, if_pos hle, by simp; omega⟩
    · exact ⟨_, _, _, if_neg hle, by simp; omega⟩
theorem popL_part {L P : List HT} {t : HT} {L' P' : List HT} (h : popL L P = some (t, L', P')) : (∀ q ∈ L', q ∈ L) ∧ (∀ q ∈ P', q ∈ P) ∧ (t ∈ L ∨ t ∈ P) ∧ (Srtd HT.wt L → Srtd HT.wt L') ∧ (Srtd HT.wt P → Srtd HT.wt P') ∧ (Srtd HT.wt L → Srtd HT.wt P → (∀ q ∈ L', t.wt ≤ q.wt) ∧ ∀ q ∈ P', t.wt ≤ q.wt) := by
  unfold Srtd
  match L, P, h with
  | a :: L, [], h =>
    cases h
    refine ⟨fun q hq => List.mem_cons_of_mem _ hq, fun q hq => hq, .inl (List.mem_cons_self ..), fun h => (List.pairwise_cons.1 h).2, fun h => h, fun h _ => ⟨(List.pairwise_cons.1 h).1, fun q hq => by cases hq⟩⟩
  | [], p :: P, h =>
    cases h
    refine ⟨fun q hq => hq, fun q hq => List.mem_cons_of_mem _ hq, .inr (List.mem_cons_self ..), fun h => h, fun h => (List.pairwise_cons.1 h).2, fun _ h => ⟨fun q hq => (by cases hq), (List.pairwise_cons.1 h).1⟩⟩
  | a :: L, p :: P, h =>
    rw [popL_cc] at h
    split at h
    · rename_i hle
      cases h
      refine ⟨fun q hq => List.mem_cons_of_mem _ hq, fun q hq => hq, .inl (List.mem_cons_self ..), fun h => (List.pairwise_cons.1 h).2, fun h => h, fun h1 h2 => ⟨(List.pairwise_cons.1 h1).1, fun q hq => ?_⟩⟩
      rcases List.mem_cons.1 hq with rfl | hq
      · exact hle
      · have := (List.pairwise_cons.1 h2).1 q hq; omega
    · rename_i hle
      cases h
      refine ⟨fun q hq => hq, fun q hq => List.mem_cons_of_mem _ hq, .inr (List.mem_cons_self ..), fun h => h, fun h => (List.pairwise_cons.1 h).2, fun h1 h2 => ⟨fun q hq => ?_, (List.pairwise_cons.1 h2).1⟩⟩
      rcases List.mem_cons.1 hq with rfl | hq
      · omega
      · have := (List.pairwise_cons.1 h1).1 q hq; omega
/-- One step of the making. -/
theorem HInv.step {L P : List HT} (h : HInv L P) {a b : HT} {L1 P1 L2 P2 : List HT} (h1 : popL L P = some (a, L1, P1)) (h2 : popL L1 P1 = some (b, L2, P2)) : HInv L2 (P2 ++ [.br (a.wt + b.wt) a b]) ∧ ∀ k, huff (k + 1) (mrg L P) = huff k (mrg L2 (P2 ++ [.br (a.wt + b.wt) a b])) := by
  obtain ⟨x, y, x0, xy, hp, hl, hq⟩ := h.top
  obtain ⟨a1, a2, a3, a4, a5, a6⟩ := popL_part h1
  obtain ⟨b1, b2, b3, b4, b5, b6⟩ := popL_part h2
  obtain ⟨c1, c2⟩ := a6 h.sl h.sp
  obtain ⟨d1, d2⟩ := b6 (a4 h.sl) (a5 h.sp)
  have ya : y ≤ a.wt := by rcases a3 with h | h; exact hl a h; exact hq a h
  have ab : a.wt ≤ b.wt := by rcases b3 with h | h; exact c1 b h; exact c2 b h
  have hP2 : ∀ p ∈ P2, p.wt ≤ a.wt + b.wt := fun p hp2 => by have := hp p (a2 p (b2 p hp2)); omega
  refine ⟨⟨b4 (a4 h.sl), ?_, a.wt, b.wt, by omega, ab, ?_, d1, ?_⟩, fun k => ?_⟩
  · unfold Srtd
    rw [List.pairwise_append]
    exact ⟨b5 (a5 h.sp), by simp, fun p hp2 q hq2 => by rw [List.mem_singleton.1 hq2]; exact hP2 p hp2⟩
  · intro p hp2
    rcases List.mem_append.1 hp2 with hp2 | hp2
    · exact hP2 p hp2
    · rw [List.mem_singleton.1 hp2]; exact Int.le_refl _
  · intro p hp2
    rcases List.mem_append.1 hp2 with hp2 | hp2
    · exact d2 p hp2
    · rw [List.mem_singleton.1 hp2]; show b.wt ≤ a.wt + b.wt; omega
  · rw [popL_mrg h1, popL_mrg h2]
    show huff k (insK HT.wt (mrg L2 P2) (.br (a.wt + b.wt) a b)) = _
    rw [mrg_ins _ _ _ hP2]
def sumG (g : HT → Int) (l : List HT) : Int := l.foldr (fun t n => g t + n) 0
theorem sumG_cons (g : HT → Int) (t : HT) (l : List HT) : sumG g (t :: l) = g t + sumG g l := rfl
theorem sumG_nil (g : HT → Int) : sumG g [] = 0 := rfl
theorem sumG_app (g : HT → Int) : ∀ (l m : List HT), sumG g (l ++ m) = sumG g l + sumG g m
  | [], m => by rw [List.nil_append, sumG_nil]; omega
  | t :: l, m => by rw [List.cons_append, sumG_cons, sumG_cons, sumG_app g l m]; omega
theorem sumG_pop (g : HT → Int) {L P : List HT} {t : HT} {L' P' : List HT} (h : popL L P = some (t, L', P')) : sumG g L + sumG g P = g t + (sumG g L' + sumG g P') := by
  match L, P, h with
  | a :: L, [], h => cases h; rw [sumG_cons, sumG_nil]; omega
  | [], p :: P, h => cases h; rw [sumG_cons, sumG_nil]; omega
  | a :: L, p :: P, h =>
    rw [popL_cc] at h
    split at h
    · cases h; rw [sumG_cons, sumG_cons]; omega
    · cases h; rw [sumG_cons, sumG_cons]; omega
theorem sumG_nn (g : HT → Int) {l : List HT} (h : ∀ t ∈ l, 0 ≤ g t) : 0 ≤ sumG g l := by
  induction l with
  | nil => exact Int.le_refl _
  | cons t l ih =>
    have h1 := h t (List.mem_cons_self ..)
    have h2 := ih fun q hq => h q (List.mem_cons_of_mem _ hq)
    rw [sumG_cons]; omega
def HT.cnt (t : HT) : Int := (t.syms.length : Nat)
def HT.ht : HT → Nat
  | .leaf _ _ => 0
  | .br _ l r => max l.ht r.ht + 1
theorem ht_cnt : ∀ t : HT, (t.ht : Int) + 1 ≤ t.cnt
  | .leaf _ _ => by unfold HT.ht HT.cnt HT.syms; simp
  | .br _ l r => by
    have h1 := ht_cnt l
    have h2 := ht_cnt r
    unfold HT.cnt at *
    unfold HT.ht HT.syms
    rw [List.length_append]
    omega
/-! How they lie. -/
def nodC (w : Int) (s : Nat) (l r : Value) : Blk := .cells [.int .i64 w, .int .i64 s, l, r] 109 (some 0)
def TrA (A : St) : HT → Value → Prop
  | .leaf w s, v => ∃ k, v = .pointer (some ⟨k, 0, none⟩) ∧ k < A.next ∧ A.get k = some (nodC w s (.pointer none) (.pointer none))
  | .br w l r, v => ∃ k kl kr, v = .pointer (some ⟨k, 0, none⟩) ∧ k < A.next ∧ A.get k = some (nodC w 0 (.pointer (some ⟨kl, 0, none⟩)) (.pointer (some ⟨kr, 0, none⟩))) ∧ TrA A l (.pointer (some ⟨kl, 0, none⟩)) ∧ TrA A r (.pointer (some ⟨kr, 0, none⟩))
/-- Nodes stay. -/
def KpN (A A' : St) : Prop := A.next ≤ A'.next ∧ ∀ k cs m, k < A.next → A.get k = some (.cells cs 109 m) → A'.get k = A.get k
theorem KpN.trans {A B C : St} (h : KpN A B) (h' : KpN B C) : KpN A C := ⟨Nat.le_trans h.1 h'.1, fun k cs m hlt hk => by
  have e := h.2 k cs m hlt hk
  exact (h'.2 k cs m (Nat.lt_of_lt_of_le hlt h.1) (e.trans hk)).trans e⟩
theorem KpN.refl (A : St) : KpN A A := ⟨Nat.le_refl _, fun _ _ _ _ _ => rfl⟩
theorem KpN.over {A A' : St} (o : Over A A') : KpN A A' := ⟨o.next, fun k cs m hlt hk => o.get k hlt⟩
theorem KpN.alloc {A B : St} (h : KpN A B) (X : Blk) : KpN A (B.alloc X) := ⟨Nat.le_trans h.1 (by rw [nx_alloc]; omega), fun k cs m hlt hk => by
  rw [get_alloc_old (Nat.lt_of_lt_of_le hlt h.1)]; exact h.2 k cs m hlt hk⟩
theorem KpN.upd {A B : St} (h : KpN A B) {b : Nat} (hb : ∀ cs m, A.get b ≠ some (.cells cs 109 m)) (X : Option Blk) : KpN A (B.upd b X) := ⟨h.1, fun k cs m hlt hk => by
  rw [get_upd_old (fun e => hb cs m (by rw [← e]; exact hk))]; exact h.2 k cs m hlt hk⟩
theorem TrA.kp {A A' : St} (h : KpN A A') : ∀ {t : HT} {v : Value}, TrA A t v → TrA A' t v
  | .leaf w s, v, ⟨k, e, h1, h2⟩ => ⟨k, e, Nat.lt_of_lt_of_le h1 h.1, (h.2 k _ _ h1 h2).trans h2⟩
  | .br w l r, v, ⟨k, kl, kr, e, h1, h2, h3, h4⟩ => ⟨k, kl, kr, e, Nat.lt_of_lt_of_le h1 h.1, (h.2 k _ _ h1 h2).trans h2, TrA.kp h h3, TrA.kp h h4⟩
theorem TrA.ptr {A : St} {t : HT} {v : Value} (h : TrA A t v) : ∃ k sy l r, v = .pointer (some ⟨k, 0, none⟩) ∧ k < A.next ∧ A.get k = some (nodC t.wt sy l r) := by
  match t, h with
  | .leaf w s, ⟨k, e, h1, h2⟩ => exact ⟨k, s, _, _, e, h1, h2⟩
  | .br w l r, ⟨k, kl, kr, e, h1, h2, _, _⟩ => exact ⟨k, 0, _, _, e, h1, h2⟩
/-- A node's weight. -/
def wtA (A : St) (v : Value) : Int := match v with
  | .pointer (some ⟨k, _, _⟩) => match A.get k with
    | some (.cells (.int _ w :: _) _ _) => w
    | _ => 0
  | _ => 0
theorem TrA.wt {A : St} {t : HT} {v : Value} (h : TrA A t v) : wtA A v = t.wt := by
  obtain ⟨k, sy, l, r, rfl, _, hk⟩ := h.ptr
  unfold nodC at hk
  simp only [wtA, hk]
def DT (A : St) (x : Value) : Prop := ∃ t, TrA A t x ∧ 0 ≤ t.wt ∧ t.wt ≤ 1099511627776
theorem DT.one {A : St} {x : Value} (h : DT A x) : one1 x = true := by
  obtain ⟨t, h, _⟩ := h
  obtain ⟨k, sy, l, r, rfl, _⟩ := h.ptr
  rfl
theorem Try.enters54 : Enters Try.prog 54 := enters_of Try.func54 rfl (by kernel_rfl)
theorem cmp_ok (w0 : World) (A : St) (b : Nat) (hb : ∀ cs m, A.get b ≠ some (.cells cs 109 m)) : CmpOk w0 A b (wtA A) (DT A) := by
  rintro cs x y ⟨t, ht, t0, t1⟩ ⟨u, hu, u0, u1⟩
  rw [ht.wt, hu.wt]
  obtain ⟨k, sy, l, r, rfl, hk1, hk⟩ := ht.ptr
  obtain ⟨k', sy', l', r', rfl, hk1', hk'⟩ := hu.ptr
  have n1 : k ≠ b := fun e => hb _ _ (by rw [← e]; exact hk)
  have n2 : k' ≠ b := fun e => hb _ _ (by rw [← e]; exact hk')
  refine call_E (l := [.pointer (some ⟨k, 0, none⟩), .pointer (some ⟨k', 0, none⟩)]) Try.enters54 Try.func54 rfl (Nat.le_of_ble_eq_true rfl) fun hw hbd => ?_
  have g1 : (A.upd b (nodB cs)).get k = some (nodC t.wt sy l r) := by rw [get_upd_old n1]; exact hk
  have g2 : (A.upd b (nodB cs)).get k' = some (nodC u.wt sy' l' r') := by rw [get_upd_old n2]; exact hk'
  unfold nodC at g1 g2
  simp (maxSteps := 1000000) (disch := first | omega | (simp only [z1, z2, z3, z4, z5, z6, z7] <;> omega) | fail) only [go_sem, Try.ntmps54, Try.results54]
  refine aw_draw (by kernel_rfl) ?_
  simp (maxSteps := 1000000) (disch := first | omega | (simp only [z1, z2, z3, z4, z5, z6, z7] <;> omega) | fail) only [go_sem, g1, g2, Try.results54]
  exact gc_here ⟨rfl, rfl⟩
end Go.Fw

set_option linter.unusedSimpArgs false
set_option linter.unusedVariables false
set_option maxRecDepth 4000
namespace Go.Fw
open Go.Proofs Go.RowKit
/-! Queues of trees; the lightest one; the lengths of a tree. -/
theorem append_ownO {P : Program} {A : St} {sT xT e bs : Nat} {z x : Value} {m sz b len off : Nat} {cs new : List Value} {ux : TypeDesc} (hel : telem P sT = some e) (hx : P.underlying xT = some ux) (hux : ∀ k, ux ≠ .int k) (hsz : tsz P e = some (sz + 1)) (hb : tbytes P e = some bs) (hz : tzero P e = some z) (hzc : z.cells.size = sz + 1)
    (hsrc : srcCells A (sz + 1) x = some (m, new)) (hm : 0 < m) (hlen : (len + m) * bs ≤ 140737488355328) (hcap : len + m ≤ 9223372036854775807) (hA : A.get b = some (.cells cs e (some 0))) (hcs : off + len * (sz + 1) ≤ cs.length) (hnew : new.all cell1 = true) :
    aappend P A sT xT (.slice (some ⟨b, off, some (sz + 1)⟩) len len) x = some (.slice (some ⟨A.next, 0, some (sz + 1)⟩) (len + m) (len + m), (A.upd b none).alloc (.cells ((cs.drop off).take (len * (sz + 1)) ++ new) e (some 0))) := by
  have h1 : ¬ len + m ≤ len := by omega
  have h2 : ¬ (sz + 1 = 0 ∨ z.cells.size ≠ sz + 1) := by omega
  unfold aappend
  cases ux with
  | int k => exact absurd rfl (hux k)
  | _ => simp only [hel, hx, hsz, hb, hz, hsrc, if_neg h2, h1, if_false, hlen, hcap, hA, hcs, hnew, and_self, if_true, Nat.zero_le, Nat.zero_sub, true_and]
/-- A queue of trees. -/
def QR (A : St) (lo : Nat) (L : List HT) (v : Value) : Prop := (L = [] ∧ v = .slice none 0 0) ∨ ∃ b off cells, v = .slice (some ⟨b, off, some 1⟩) L.length L.length ∧ lo ≤ b ∧ b < A.next ∧ A.get b = some (.cells cells 107 (some 0)) ∧ off ≤ cells.length ∧ All2 (TrA A) L (cells.drop off)
theorem QR.nil (A : St) (lo : Nat) : QR A lo [] (.slice none 0 0) := .inl ⟨rfl, rfl⟩
theorem QR.one {A : St} {lo : Nat} {L : List HT} {v : Value} (h : QR A lo L v) : one1 v = true := by
  rcases h with ⟨_, rfl⟩ | ⟨b, off, cells, rfl, _⟩ <;> rfl
theorem QR.rb {A : St} {lo : Nat} {L : List HT} {v : Value} (h : QR A lo L v) : ∀ b, rowB v = some b → lo ≤ b ∧ b < A.next := by
  intro b hb
  rcases h with ⟨_, rfl⟩ | ⟨b', off, cells, rfl, h1, h2, _⟩
  · cases hb
  · cases hb; exact ⟨h1, h2⟩
theorem QR.kp {A A' : St} {lo : Nat} {L : List HT} {v : Value} (h : QR A lo L v) (hk : KpN A A') (hg : ∀ b, rowB v = some b → b < A.next → A'.get b = A.get b) : QR A' lo L v := by
  rcases h with h | ⟨b, off, cells, rfl, h1, h2, h3, h4, h5⟩
  · exact .inl h
  · exact .inr ⟨b, off, cells, rfl, h1, Nat.lt_of_lt_of_le h2 hk.1, (hg b rfl h2).trans h3, h4, h5.imp fun t x ht => ht.kp hk⟩
theorem QR.lenU {A : St} {lo : Nat} {L : List HT} {v : Value} (h : QR A lo L v) (X : St) : lenU X (some (.slice 107)) v = some (.int .i64 L.length, X) := by
  rcases h with ⟨rfl, rfl⟩ | ⟨b, off, cells, rfl, _⟩ <;> rfl
theorem TrA.cell {A : St} {t : HT} {v : Value} (h : TrA A t v) : cell1 v = true := by
  obtain ⟨k, sy, l, r, rfl, _⟩ := h.ptr; rfl
def offZ : Value → Prop
  | .slice (some ⟨_, o, _⟩) _ _ => o = 0
  | _ => True
theorem qr_push {A : St} {lo : Nat} {L : List HT} {v : Value} (h : QR A lo L v) {t : HT} {x : Value} (hx : TrA A t x) (hlo : lo ≤ A.next) (hl : L.length ≤ 1000000) :
    ∃ v' A2, aappend Try.prog (A.alloc (.cells [x] 107 (some 0))) 106 106 v (.slice (some ⟨A.next, 0, none⟩) 1 1) = some (v', A2) ∧ QR A2 lo (L ++ [t]) v' ∧ A2.next = A.next + 2 ∧ rowB v' = some (A.next + 1) ∧ (∀ b, b < A.next → rowB v ≠ some b → A2.get b = A.get b) ∧ KpN A A2 ∧ offZ v' := by
  have hsrc : srcCells (A.alloc (.cells [x] 107 (some 0))) 1 (.slice (some ⟨A.next, 0, none⟩) 1 1) = some (1, [x]) := by
    rw [srcCells_slice (by decide) (get_alloc_same ..) (by simp)]; rfl
  have hxc := hx.cell
  rcases h with ⟨rfl, rfl⟩ | ⟨b, off, cells, rfl, h1, h2, h3, h4, h5⟩
  · have hk : KpN A ((A.alloc (.cells [x] 107 (some 0))).alloc (.cells [x] 107 (some 0))) := ((KpN.refl A).alloc _).alloc _
    refine ⟨_, _, append_nil Try.el106 Try.underlying106 (by intro k; exact TypeDesc.noConfusion) Try.sz107 Try.byt107 Try.zero107 rfl (by decide) hsrc (by decide) (by decide) (by decide), .inr ⟨A.next + 1, 0, [x], rfl, by omega, by simp, get_alloc_same .., by simp, .cons (hx.kp hk) .nil⟩, rfl, rfl, fun b hb _ => ?_, hk, rfl⟩
    rw [get_alloc_old (by rw [nx_alloc]; omega), get_alloc_old hb]
  · have h5l := h5.length
    rw [List.length_drop] at h5l
    have hg : (A.alloc (.cells [x] 107 (some 0))).get b = some (.cells cells 107 (some 0)) := (get_alloc_old h2).trans h3
    have htk : (cells.drop off).take (L.length * (0 + 1)) = cells.drop off := List.take_of_length_le (by rw [List.length_drop]; omega)
    have hap := append_ownO (P := Try.prog) (A := A.alloc (.cells [x] 107 (some 0))) (sT := 106) (xT := 106) (len := L.length) (off := off) (b := b) (x := .slice (some ⟨A.next, 0, none⟩) 1 1) (new := [x]) (m := 1) Try.el106 Try.underlying106 (by intro k; exact TypeDesc.noConfusion) Try.sz107 Try.byt107 Try.zero107 rfl hsrc (by decide) (by omega) (by omega) hg (by omega) (by simp [hxc])
    rw [htk] at hap
    have hk : KpN A (((A.alloc (.cells [x] 107 (some 0))).upd b none).alloc (.cells (cells.drop off ++ [x]) 107 (some 0))) := by
      refine ((((KpN.refl A).alloc _).upd (fun cs m e => ?_) _).alloc _)
      rw [h3] at e; injection e with e; injection e with _ e; exact absurd e (by decide)
    refine ⟨_, _, hap, .inr ⟨A.next + 1, 0, _, by rw [List.length_append, List.length_singleton]; rfl, by omega, by simp, get_alloc_same .., by simp, ?_⟩, rfl, rfl, fun c hc hcb => ?_, hk, rfl⟩
    · rw [List.drop_zero]
      exact All2.app (h5.imp fun t x ht => ht.kp hk) (.cons (hx.kp hk) .nil)
    · rw [get_alloc_old (by rw [nx_upd, nx_alloc]; omega), get_upd_old (fun e => hcb (by rw [e]; rfl)), get_alloc_old hc]
/-- The first of a queue. -/
theorem QR.cons {A : St} {lo : Nat} {t : HT} {L : List HT} {v : Value} (h : QR A lo (t :: L) v) : ∃ b off cells x v', (∀ kk : IntKind, indexAddrU Try.prog (some (.slice 107)) v (.int kk 0) = some (.pointer (some ⟨b, off, none⟩))) ∧ rowB v = some b ∧ lo ≤ b ∧ b < A.next ∧ A.get b = some (.cells cells 107 (some 0)) ∧ cells[off]? = some x ∧ TrA A t x ∧
    sliceU (some (.slice 107)) (tsz Try.prog) v (some (.int .i64 1)) none none = some v' ∧ QR A lo L v' ∧ rowB v' = some b := by
  rcases h with ⟨h, _⟩ | ⟨b, off, cells, rfl, h1, h2, h3, h4, h5⟩
  · cases h
  · have hd := h5.length
    rw [List.length_drop, List.length_cons] at hd
    obtain ⟨x, hx⟩ : ∃ x, cells[off]? = some x := ⟨cells[off]'(by omega), List.getElem?_eq_getElem (by omega)⟩
    have hdr : cells.drop off = x :: cells.drop (off + 1) := by
      rw [List.drop_eq_getElem_cons (by omega)]
      congr 1
      have := List.getElem?_eq_getElem (l := cells) (i := off) (by omega)
      rw [hx] at this; injection this with this; exact this.symm
    rw [hdr] at h5
    cases h5 with
    | cons hx1 hx2 =>
    refine ⟨b, off, cells, x, .slice (some ⟨b, off + 1 * 1, some 1⟩) ((t :: L).length - 1) ((t :: L).length - 1), fun kk => ?_, rfl, h1, h2, h3, hx, hx1, ?_, ?_, rfl⟩
    · refine (indexAddr_slice Try.prog kk 107 b off (some 1) (t :: L).length (t :: L).length 0 (by omega) (by simp)).trans ?_
      rw [Try.sz107]; simp
    · have hb : abounds (t :: L).length (t :: L).length (some (.int .i64 1)) none none = some (1, (t :: L).length, (t :: L).length) := by
        have : (1 : Int) ≤ ((t :: L).length : Nat) := by simp; omega
        simp [abounds, abound1]
        omega
      rw [sliceU_slice, Try.sz107, Option.bind_some, sliceL_eq, hb]
      rw [show (none : Option Value).isSome = false from rfl, boundsL_own]
    · exact .inr ⟨b, off + 1, cells, by rw [Nat.mul_one, List.length_cons, Nat.add_sub_cancel], h1, h2, h3, by omega, hx2⟩
theorem Try.enters55 : Enters Try.prog 55 := enters_of Try.func55 rfl (by kernel_rfl)
theorem Try.enters56 : Enters Try.prog 56 := enters_of Try.func56 rfl (by kernel_rfl)
set_option maxHeartbeats 4000000 in
/-- The lightest one is taken. -/
theorem lightest_ok (w0 : World) (A : St) (c1 c2 lo : Nat) (L P : List HT) (v u : Value) (h12 : c1 ≠ c2) (hc1 : c1 < lo) (hc2 : c2 < lo) (hlo : lo ≤ A.next) (g1 : A.get c1 = some (.cells [v] 106 (some 0))) (g2 : A.get c2 = some (.cells [u] 106 (some 0))) (hv : QR A lo L v) (hu : QR A lo P u) {t : HT} {L' P' : List HT} (hp : popL L P = some (t, L', P')) (hL : L.length ≤ 1000000) (hP : P.length ≤ 1000000) :
    ∃ x v' u' A', ACalls Try.prog w0 55 #[.pointer (some ⟨c2, 0, none⟩), .pointer (some ⟨c1, 0, none⟩)] A (fin x A') ∧ TrA A' t x ∧ A'.next = A.next ∧ (∀ b, b ≠ c1 → b ≠ c2 → A'.get b = A.get b) ∧ A'.get c1 = some (.cells [v'] 106 (some 0)) ∧ A'.get c2 = some (.cells [u'] 106 (some 0)) ∧ QR A' lo L' v' ∧ QR A' lo P' u' ∧ (∀ b, rowB v' = some b → rowB v = some b) ∧ (∀ b, rowB u' = some b → rowB u = some b) ∧ KpN A A' := by
  have kpc : ∀ (c : Nat) (w : Value) (X : Option Blk), A.get c = some (.cells [w] 106 (some 0)) → KpN A (A.upd c X) := fun c w X hc => (KpN.refl A).upd (fun cs m e => by rw [hc] at e; injection e with e; injection e with _ e; exact absurd e (by decide)) _
  have lv := hv.lenU
  have lu := hu.lenU
  -- out of the leaves
  have fromL : ∀ (a : HT) (L0 : List HT), L = a :: L0 → (P = [] ∨ ∃ p P0, P = p :: P0 ∧ a.wt ≤ p.wt) → ∃ x v', ACalls Try.prog w0 55 #[.pointer (some ⟨c2, 0, none⟩), .pointer (some ⟨c1, 0, none⟩)] A (fin x (A.upd c1 (some (.cells [v'] 106 (some 0))))) ∧ TrA A a x ∧ QR A lo L0 v' ∧ (∀ b, rowB v' = some b → rowB v = some b) := by
    rintro a L0 rfl hcase
    obtain ⟨b, off, cells, x, v', q1, q2, q3, q4, q5, q6, q7, q8, q9, q10⟩ := hv.cons
    refine ⟨x, v', ?_, q7, q9, fun b' hb' => by rw [q10] at hb'; cases hb'; exact q2⟩
    obtain ⟨k, sy, l, r, rfl, k1, k2⟩ := q7.ptr
    unfold nodC at k2
    have hne0 : ¬ (((a :: L0).length : Nat) : Int) = 0 := by simp; omega
    have hgt0 : (0 : Int) < (((a :: L0).length : Nat) : Int) := by simp
    refine call_E (l := [.pointer (some ⟨c2, 0, none⟩), .pointer (some ⟨c1, 0, none⟩)]) Try.enters55 Try.func55 rfl (Nat.le_of_ble_eq_true rfl) fun hw hbd => ?_
    generalize (((a :: L0).length : Nat) : Int) = NL at lv hne0 hgt0
    rcases hcase with hP0 | ⟨p, P0, rfl, hle⟩
    · rw [hP0] at lu
      simp (maxSteps := 1000000) (disch := first | omega | (simp only [z1, z2, z3, z4, z5, z6, z7] <;> omega) | fail) only [go_sem, Try.ntmps55, Try.results55]
      refine aw_draw (by kernel_rfl) ?_
      simp (maxSteps := 1000000) (disch := first | omega | (simp only [z1, z2, z3, z4, z5, z6, z7] <;> omega) | fail) only [go_sem, g1, g2, lu]
      refine aw_draw2 [⟨false, [], [0]⟩, ⟨false, [0], [0]⟩, ⟨false, [0, 1], [0]⟩, ⟨false, [], [0]⟩, ⟨false, [3], [0]⟩, ⟨false, [0, 1, 2], [0]⟩, ⟨true, [0, 1, 2, 3, 4, 5], [0]⟩] [A, A.upd c1 (some (.cells [v'] 106 (some 0)))] 1 (by kernel_rfl) (by kernel_rfl) rfl ?_
      simp (maxSteps := 1000000) (disch := first | omega | (simp only [z1, z2, z3, z4, z5, z6, z7] <;> omega) | fail) only [go_sem, g1, g2, q1, q5, q6, q8, storeC_val (off := 0) (k := 0) (cs := [v]) (e := 106) q9.one (Nat.le_refl _) (Nat.le_refl _), Try.results55]
      exact gc_here ⟨rfl, rfl⟩
    · obtain ⟨b', off', cells', x', u', y1, y2, y3, y4, y5, y6, y7, y8, y9, y10⟩ := hu.cons
      obtain ⟨k', sy', l', r', rfl, k1', k2'⟩ := y7.ptr
      unfold nodC at k2'
      have hneP : ¬ (((p :: P0).length : Nat) : Int) = 0 := by simp; omega
      generalize (((p :: P0).length : Nat) : Int) = NP at lu hneP
      simp (maxSteps := 1000000) (disch := first | omega | (simp only [z1, z2, z3, z4, z5, z6, z7] <;> omega) | fail) only [go_sem, Try.ntmps55, Try.results55]
      refine aw_draw (by kernel_rfl) ?_
      simp (maxSteps := 1000000) (disch := first | omega | (simp only [z1, z2, z3, z4, z5, z6, z7] <;> omega) | fail) only [go_sem, g1, g2, lu, lv, q1, q5, q6, k2, y1, y5, y6, k2', hle]
      refine aw_draw2 [⟨false, [], [0]⟩, ⟨false, [0], [0]⟩, ⟨false, [0, 1], [0]⟩, ⟨false, [], [0]⟩, ⟨false, [3], [0]⟩, ⟨false, [0, 1, 2], [0]⟩, ⟨true, [0, 1, 2, 3, 4, 5], [0]⟩] [A, A.upd c1 (some (.cells [v'] 106 (some 0)))] 1 (by kernel_rfl) (by kernel_rfl) rfl ?_
      simp (maxSteps := 1000000) (disch := first | omega | (simp only [z1, z2, z3, z4, z5, z6, z7] <;> omega) | fail) only [go_sem, g1, g2, q1, q5, q6, q8, storeC_val (off := 0) (k := 0) (cs := [v]) (e := 106) q9.one (Nat.le_refl _) (Nat.le_refl _), Try.results55]
      exact gc_here ⟨rfl, rfl⟩
  have fromP : ∀ (p : HT) (P0 : List HT), P = p :: P0 → (L = [] ∨ ∃ a L0, L = a :: L0 ∧ ¬ a.wt ≤ p.wt) → ∃ x u', ACalls Try.prog w0 55 #[.pointer (some ⟨c2, 0, none⟩), .pointer (some ⟨c1, 0, none⟩)] A (fin x (A.upd c2 (some (.cells [u'] 106 (some 0))))) ∧ TrA A p x ∧ QR A lo P0 u' ∧ (∀ b, rowB u' = some b → rowB u = some b) := by
    rintro p P0 rfl hcase
    obtain ⟨b, off, cells, x, u', q1, q2, q3, q4, q5, q6, q7, q8, q9, q10⟩ := hu.cons
    refine ⟨x, u', ?_, q7, q9, fun b' hb' => by rw [q10] at hb'; cases hb'; exact q2⟩
    obtain ⟨k, sy, l, r, rfl, k1, k2⟩ := q7.ptr
    unfold nodC at k2
    have hneP : ¬ (((p :: P0).length : Nat) : Int) = 0 := by simp; omega
    refine call_E (l := [.pointer (some ⟨c2, 0, none⟩), .pointer (some ⟨c1, 0, none⟩)]) Try.enters55 Try.func55 rfl (Nat.le_of_ble_eq_true rfl) fun hw hbd => ?_
    generalize (((p :: P0).length : Nat) : Int) = NP at lu hneP
    rcases hcase with hL0 | ⟨a, L0, rfl, hle⟩
    · rw [hL0] at lv
      simp (maxSteps := 1000000) (disch := first | omega | (simp only [z1, z2, z3, z4, z5, z6, z7] <;> omega) | fail) only [go_sem, Try.ntmps55, Try.results55]
      refine aw_draw (by kernel_rfl) ?_
      simp (maxSteps := 1000000) (disch := first | omega | (simp only [z1, z2, z3, z4, z5, z6, z7] <;> omega) | fail) only [go_sem, g1, g2, lu, lv]
      refine aw_draw2 [⟨false, [], [0]⟩, ⟨false, [0], [0]⟩, ⟨false, [0, 1], [0]⟩, ⟨false, [], [0]⟩, ⟨false, [3], [0]⟩, ⟨false, [0, 1, 2], [0]⟩, ⟨true, [0, 1, 2, 3, 4, 5], [0]⟩] [A, A.upd c2 (some (.cells [u'] 106 (some 0)))] 1 (by kernel_rfl) (by kernel_rfl) rfl ?_
      simp (maxSteps := 1000000) (disch := first | omega | (simp only [z1, z2, z3, z4, z5, z6, z7] <;> omega) | fail) only [go_sem, g1, g2, q1, q5, q6, q8, storeC_val (off := 0) (k := 0) (cs := [u]) (e := 106) q9.one (Nat.le_refl _) (Nat.le_refl _), Try.results55]
      exact gc_here ⟨rfl, rfl⟩
    · obtain ⟨b', off', cells', x', v', y1, y2, y3, y4, y5, y6, y7, y8, y9, y10⟩ := hv.cons
      obtain ⟨k', sy', l', r', rfl, k1', k2'⟩ := y7.ptr
      unfold nodC at k2'
      have hgt0 : (0 : Int) < (((a :: L0).length : Nat) : Int) := by simp
      generalize (((a :: L0).length : Nat) : Int) = NL at lv hgt0
      simp (maxSteps := 1000000) (disch := first | omega | (simp only [z1, z2, z3, z4, z5, z6, z7] <;> omega) | fail) only [go_sem, Try.ntmps55, Try.results55]
      refine aw_draw (by kernel_rfl) ?_
      simp (maxSteps := 1000000) (disch := first | omega | (simp only [z1, z2, z3, z4, z5, z6, z7] <;> omega) | fail) only [go_sem, g1, g2, lu, lv, q1, q5, q6, k2, y1, y5, y6, k2', hle]
      refine aw_draw2 [⟨false, [], [0]⟩, ⟨false, [0], [0]⟩, ⟨false, [0, 1], [0]⟩, ⟨false, [], [0]⟩, ⟨false, [3], [0]⟩, ⟨false, [0, 1, 2], [0]⟩, ⟨true, [0, 1, 2, 3, 4, 5], [0]⟩] [A, A.upd c2 (some (.cells [u'] 106 (some 0)))] 1 (by kernel_rfl) (by kernel_rfl) rfl ?_
      simp (maxSteps := 1000000) (disch := first | omega | (simp only [z1, z2, z3, z4, z5, z6, z7] <;> omega) | fail) only [go_sem, g1, g2, q1, q5, q6, q8, storeC_val (off := 0) (k := 0) (cs := [u]) (e := 106) q9.one (Nat.le_refl _) (Nat.le_refl _), Try.results55]
      exact gc_here ⟨rfl, rfl⟩
  have doneL : ∀ (a : HT) (L0 : List HT), L = a :: L0 → (P = [] ∨ ∃ p P0, P = p :: P0 ∧ a.wt ≤ p.wt) → (t, L', P') = (a, L0, P) → ∃ x v' u' A', ACalls Try.prog w0 55 #[.pointer (some ⟨c2, 0, none⟩), .pointer (some ⟨c1, 0, none⟩)] A (fin x A') ∧ TrA A' t x ∧ A'.next = A.next ∧ (∀ b, b ≠ c1 → b ≠ c2 → A'.get b = A.get b) ∧ A'.get c1 = some (.cells [v'] 106 (some 0)) ∧ A'.get c2 = some (.cells [u'] 106 (some 0)) ∧ QR A' lo L' v' ∧ QR A' lo P' u' ∧ (∀ b, rowB v' = some b → rowB v = some b) ∧ (∀ b, rowB u' = some b → rowB u = some b) ∧ KpN A A' := fun a L0 e1 e2 e3 => by
    obtain ⟨x, v', k1, k2, k3, k4⟩ := fromL a L0 e1 e2
    injection e3 with e3 e4
    injection e4 with e4 e5
    subst e3 e4 e5
    have kk := kpc c1 v (some (.cells [v'] 106 (some 0))) g1
    exact ⟨x, v', u, _, k1, k2.kp kk, rfl, fun b hb _ => get_upd_old hb, get_upd_same .., (get_upd_old (fun e => h12 e.symm)).trans g2, k3.kp kk (fun b hb hlt => get_upd_old (by have := (k3.rb b hb).1; omega)), hu.kp kk (fun b hb hlt => get_upd_old (by have := (hu.rb b hb).1; omega)), k4, fun b hb => hb, kk⟩
  have doneP : ∀ (p : HT) (P0 : List HT), P = p :: P0 → (L = [] ∨ ∃ a L0, L = a :: L0 ∧ ¬ a.wt ≤ p.wt) → (t, L', P') = (p, L, P0) → ∃ x v' u' A', ACalls Try.prog w0 55 #[.pointer (some ⟨c2, 0, none⟩), .pointer (some ⟨c1, 0, none⟩)] A (fin x A') ∧ TrA A' t x ∧ A'.next = A.next ∧ (∀ b, b ≠ c1 → b ≠ c2 → A'.get b = A.get b) ∧ A'.get c1 = some (.cells [v'] 106 (some 0)) ∧ A'.get c2 = some (.cells [u'] 106 (some 0)) ∧ QR A' lo L' v' ∧ QR A' lo P' u' ∧ (∀ b, rowB v' = some b → rowB v = some b) ∧ (∀ b, rowB u' = some b → rowB u = some b) ∧ KpN A A' := fun p P0 e1 e2 e3 => by
    obtain ⟨x, u', k1, k2, k3, k4⟩ := fromP p P0 e1 e2
    injection e3 with e3 e4
    injection e4 with e4 e5
    subst e3 e4 e5
    have kk := kpc c2 u (some (.cells [u'] 106 (some 0))) g2
    exact ⟨x, v, u', _, k1, k2.kp kk, rfl, fun b _ hb => get_upd_old hb, (get_upd_old h12).trans g1, get_upd_same .., hv.kp kk (fun b hb hlt => get_upd_old (by have := (hv.rb b hb).1; omega)), k3.kp kk (fun b hb hlt => get_upd_old (by have := (k3.rb b hb).1; omega)), fun b hb => hb, k4, kk⟩
  match L, P, hp with
  | a :: L0, [], hp => injection hp with hp; exact doneL a L0 rfl (.inl rfl) hp.symm
  | [], p :: P0, hp => injection hp with hp; exact doneP p P0 rfl (.inl rfl) hp.symm
  | a :: L0, p :: P0, hp =>
    rw [popL_cc] at hp
    by_cases hle : a.wt ≤ p.wt
    · rw [if_pos hle] at hp; injection hp with hp; exact doneL a L0 rfl (.inr ⟨p, P0, rfl, hle⟩) hp.symm
    · rw [if_neg hle] at hp; injection hp with hp; exact doneP p P0 rfl (.inr ⟨a, L0, rfl, hle⟩) hp.symm
abbrev intB (ls : List Int) : Option Blk := some (.cells (ls.map (Value.int .i64 ·)) 3 (some 0))
theorem map_set (ls : List Int) (i : Nat) (x : Int) : (ls.map (Value.int .i64 ·)).set i (.int .i64 x) = (ls.set i x).map (Value.int .i64 ·) := by rw [List.map_set]
set_option maxHeartbeats 4000000 in
theorem deepen_ok (w0 : World) (b : Nat) : ∀ (t : HT) (A : St) (x : Value) (ls : List Int) (d : Int), TrA A t x → A.get b = intB ls → (∀ s ∈ t.syms, s < ls.length) → 0 ≤ d → d + t.ht ≤ 1000000 → ls.length ≤ 1000000 →
    ACalls Try.prog w0 56 #[x, .slice (some ⟨b, 0, none⟩) ls.length ls.length, .int .i64 d] A (fin (.tuple #[]) (A.upd b (intB (deepL t d ls)))) := by
  intro t
  induction t with
  | leaf w s =>
    intro A x ls d hx hb hs hd0 hd hl
    obtain ⟨k, rfl, k1, k2⟩ := hx
    have hsl := hs s (by simp [HT.syms])
    unfold nodC at k2
    refine call_E (l := [.pointer (some ⟨k, 0, none⟩), .slice (some ⟨b, 0, none⟩) ls.length ls.length, .int .i64 d]) Try.enters56 Try.func56 rfl (Nat.le_of_ble_eq_true rfl) fun hw hbd => ?_
    have ix : indexAddrU Try.prog (some (.slice 3)) (.slice (some ⟨b, 0, none⟩) ls.length ls.length) (.int .i64 (s : Int)) = some (.pointer (some ⟨b, s, none⟩)) := by
      refine (indexAddr_slice Try.prog .i64 3 b 0 none ls.length ls.length (s : Int) (by omega) (by omega)).trans ?_
      rw [Try.sz3]; simp
    have hb' := hb
    unfold intB at hb'
    have hm := map_set ls s (mx1 d)
    unfold mx1 at hm
    by_cases h1 : d < 1
    · have h1' : 1 > d := h1
      rw [if_pos h1'] at hm
      simp (maxSteps := 1000000) (disch := first | omega | (simp only [z1, z2, z3, z4, z5, z6, z7] <;> omega) | fail) only [go_sem, Try.ntmps56, k2, ix, hb', hm, h1, Try.results56]
      refine gc_here ⟨rfl, ?_⟩
      unfold deepL mx1
      rw [if_pos h1']
    · have h1' : ¬ 1 > d := h1
      rw [if_neg h1'] at hm
      simp (maxSteps := 1000000) (disch := first | omega | (simp only [z1, z2, z3, z4, z5, z6, z7] <;> omega) | fail) only [go_sem, Try.ntmps56, k2, ix, hb', hm, h1, Try.results56]
      refine gc_here ⟨rfl, ?_⟩
      unfold deepL mx1
      rw [if_neg h1']
  | br w l r ihl ihr =>
    intro A x ls d hx hb hs hd0 hd hl
    obtain ⟨k, kl, kr, rfl, k1, k2, k3, k4⟩ := hx
    unfold nodC at k2
    unfold HT.ht at hd
    have hbn : ∀ cs m, A.get b ≠ some (.cells cs 109 m) := fun cs m e => by
      rw [hb] at e; injection e with e; injection e with _ e; exact absurd e (by decide)
    have kk : KpN A (A.upd b (intB (deepL l (d + 1) ls))) := (KpN.refl A).upd hbn _
    have hkb : k ≠ b := fun e => hbn _ _ (by rw [← e]; exact k2)
    have dl := deepL_len l (d + 1) ls
    have c1 := ihl A _ ls (d + 1) k3 hb (fun s hs' => hs s (by simp [HT.syms, hs'])) (by omega) (by omega) hl
    have c2 := ihr (A.upd b (intB (deepL l (d + 1) ls))) _ (deepL l (d + 1) ls) (d + 1) (k4.kp kk) (get_upd_same ..) (fun s hs' => by rw [dl]; exact hs s (by simp [HT.syms, hs'])) (by omega) (by omega) (by rw [dl]; exact hl)
    rw [dl, upd_upd] at c2
    have k2' : (A.upd b (intB (deepL l (d + 1) ls))).get k = _ := (get_upd_old hkb).trans k2
    refine call_E (l := [.pointer (some ⟨k, 0, none⟩), .slice (some ⟨b, 0, none⟩) ls.length ls.length, .int .i64 d]) Try.enters56 Try.func56 rfl (Nat.le_of_ble_eq_true rfl) fun hw hbd => ?_
    simp (maxSteps := 1000000) (disch := first | omega | (simp only [z1, z2, z3, z4, z5, z6, z7] <;> omega) | fail) only [go_sem, Try.ntmps56, k2]
    refine call1 c1 ?_
    simp (maxSteps := 1000000) (disch := first | omega | (simp only [z1, z2, z3, z4, z5, z6, z7] <;> omega) | fail) only [go_sem, k2']
    refine call1 c2 ?_
    simp (maxSteps := 1000000) (disch := first | omega | (simp only [z1, z2, z3, z4, z5, z6, z7] <;> omega) | fail) only [go_sem, Try.results56]
    exact gc_here ⟨rfl, rfl⟩
end Go.Fw

set_option linter.unusedSimpArgs false
set_option linter.unusedVariables false
set_option maxRecDepth 4000
namespace Go.Fw
open Go.Proofs Go.RowKit
/-! What the making of a tree does to the heap. -/
theorem upd_id {A : St} {b : Nat} {X : Option Blk} (h : A.get b = X) : A.upd b X = A := St.ext (fun m => by rw [St.get_upd]; split <;> simp_all) rfl
theorem flat_i64 (l : List Int) : l.flatMap i64E = l.map (Value.int .i64 ·) := by
  induction l with
  | nil => rfl
  | cons x l ih => rw [List.flatMap_cons, ih]; rfl
theorem makeSlice_ints {P : Program} {A : St} {t e bs : Nat} {k k' : IntKind} {n : Nat} (hel : telem P t = some e) (hsz : tsz P e = some 1) (hb : tbytes P e = some bs) (hz : tzero P e = some (.int .i64 0)) (hbs : bs ≤ 8) (hn : n ≤ 1000000) :
    amakeSlice P A t (.int k n) (.int k' n) = some (.slice (some ⟨A.next, 0, none⟩) n n, A.alloc (.cells (List.replicate n (.int .i64 0)) e (some 0))) := by
  have h8 : (bs : Int) * n ≤ 8 * n := Int.mul_le_mul_of_nonneg_right (by omega) (by omega)
  unfold amakeSlice
  simp only [hel, hsz, hb, hz]
  rw [if_pos ⟨by omega, Int.le_refl _, by omega, by omega, Nat.one_pos⟩, Nat.mul_one, zeros_one _ rfl]
  rfl
theorem insK_all2 {α β : Type} {R : α → β → Prop} {k : α → Int} {k' : β → Int} (hk : ∀ x y, R x y → k x = k' y) {x : α} {y : β} (hxy : R x y) : ∀ {l : List α} {m : List β}, All2 R l m → All2 R (insK k l x) (insK k' m y)
  | _, _, .nil => .cons hxy .nil
  | _, _, .cons (a := a) (b := b) h t => by
    rw [insK, insK, hk _ _ h, hk _ _ hxy]
    split
    · exact .cons h (insK_all2 hk hxy t)
    · exact .cons hxy (.cons h t)
theorem foldl_all2 {α β : Type} {R : α → β → Prop} {k : α → Int} {k' : β → Int} (hk : ∀ x y, R x y → k x = k' y) : ∀ {l : List α} {m : List β}, All2 R l m → ∀ {s : List α} {u : List β}, All2 R s u → All2 R (l.foldl (insK k) s) (m.foldl (insK k') u)
  | _, _, .nil, _, _, hs => hs
  | _, _, .cons h t, _, _, hs => foldl_all2 hk t (insK_all2 hk h hs)
theorem srtK_all2 {α β : Type} {R : α → β → Prop} {k : α → Int} {k' : β → Int} (hk : ∀ x y, R x y → k x = k' y) {l : List α} {m : List β} (h : All2 R l m) : All2 R (srtK k l) (srtK k' m) := foldl_all2 hk h .nil
theorem All2.mem_r {α β : Type} {R : α → β → Prop} {l : List α} {m : List β} (h : All2 R l m) : ∀ y ∈ m, ∃ x ∈ l, R x y := by
  induction h with
  | nil => intro y hy; cases hy
  | cons h t ih =>
    intro y hy
    rcases List.mem_cons.1 hy with rfl | hy
    · exact ⟨_, List.mem_cons_self .., h⟩
    · obtain ⟨x, hx, hr⟩ := ih y hy
      exact ⟨x, List.mem_cons_of_mem _ hx, hr⟩
theorem QR.at {A : St} {lo : Nat} {L : List HT} {v : Value} (h : QR A lo L v) {i : Nat} {t : HT} (hi : L[i]? = some t) : ∃ b off cells x, (∀ kk : IntKind, indexAddrU Try.prog (some (.slice 107)) v (.int kk i) = some (.pointer (some ⟨b, off, none⟩))) ∧ rowB v = some b ∧ lo ≤ b ∧ b < A.next ∧ A.get b = some (.cells cells 107 (some 0)) ∧ cells[off]? = some x ∧ TrA A t x := by
  have hlt : i < L.length := (List.getElem?_eq_some_iff.1 hi).1
  rcases h with ⟨rfl, _⟩ | ⟨b, off, cells, rfl, h1, h2, h3, h4, h5⟩
  · cases hi
  · obtain ⟨x, hx, hr⟩ := h5.get hi
    rw [List.getElem?_drop] at hx
    refine ⟨b, off + i, cells, x, fun kk => ?_, rfl, h1, h2, h3, hx, hr⟩
    refine (indexAddr_slice Try.prog kk 107 b off (some 1) L.length L.length i (by omega) (by omega)).trans ?_
    rw [Try.sz107]; simp
theorem qr_app {A : St} {lo : Nat} {L P : List HT} {v u : Value} (hv : QR A lo L v) (hu : QR A lo P u) (hl : L.length + P.length ≤ 1) (hlo : lo ≤ A.next) :
    ∃ v' A2, aappend Try.prog A 106 106 v u = some (v', A2) ∧ QR A2 lo (L ++ P) v' ∧ A.next ≤ A2.next ∧ ∀ b, b < lo → A2.get b = A.get b := by
  match P, hl with
  | [], hl =>
    have hsrc : srcCells A (0 + 1) u = some (0, []) := by
      rcases hu with ⟨_, rfl⟩ | ⟨b, off, cells, rfl, _⟩ <;> rfl
    rcases hv with ⟨rfl, rfl⟩ | ⟨b, off, cells, rfl, h1, h2, h3, h4, h5⟩
    · refine ⟨.slice none 0 0, A, ?_, .nil A lo, Nat.le_refl _, fun b _ => rfl⟩
      unfold aappend
      simp only [Try.el106, Try.underlying106, Try.sz107, Try.byt107, Try.zero107]
      rw [hsrc]
      rfl
    · refine ⟨.slice (some ⟨b, off, some 1⟩) L.length L.length, A, ?_, .inr ⟨b, off, cells, by rw [List.append_nil], h1, h2, h3, h4, by rw [List.append_nil]; exact h5⟩, Nat.le_refl _, fun b _ => rfl⟩
      unfold aappend
      simp only [Try.el106, Try.underlying106, Try.sz107, Try.byt107, Try.zero107]
      rw [hsrc]
      simp [Value.cells]
  | [t], hl =>
    have hl0 : L = [] := by
      cases L with
      | nil => rfl
      | cons _ _ => simp at hl
    subst hl0
    obtain ⟨b, off, cells, x, _, q1, q2, q3, q4, q5, q6, q7, _⟩ := hu.cons
    have hsrc : srcCells A (0 + 1) u = some (1, [x]) := by
      rcases hu with ⟨e, _⟩ | ⟨b', off', cells', rfl, h1, h2, h3, h4, h5⟩
      · cases e
      · cases q2
        rw [q5] at h3
        injection h3 with h3
        injection h3 with h3
        subst h3
        have e0 := q1 .i64
        have e1 := indexAddr_slice Try.prog .i64 107 b off' (some 1) 1 1 0 (by omega) (by omega)
        have e2 := e0.symm.trans e1
        rw [Try.sz107] at e2
        simp at e2
        subst e2
        have hlt := (List.getElem?_eq_some_iff.1 q6).1
        rw [show [t].length = 1 from rfl, srcCells_slice (by decide) q5 (by omega), Nat.zero_add, Nat.one_mul]
        have hd : cells.drop off = x :: cells.drop (off + 1) := by
          rw [List.drop_eq_getElem_cons hlt]
          congr 1
          exact (List.getElem?_eq_some_iff.1 q6).2
        rw [hd]; rfl
    have hxc := q7.cell
    have hk : KpN A (A.alloc (.cells [x] 107 (some 0))) := (KpN.refl A).alloc _
    rcases hv with ⟨_, rfl⟩ | ⟨b1, off1, cells1, rfl, h1, h2, h3, h4, h5⟩
    · refine ⟨_, _, append_nil Try.el106 Try.underlying106 (by intro k; exact TypeDesc.noConfusion) Try.sz107 Try.byt107 Try.zero107 rfl (by decide) hsrc (by decide) (by decide) (by decide), .inr ⟨A.next, 0, [x], rfl, hlo, by simp, get_alloc_same .., by simp, .cons (q7.kp hk) .nil⟩, by rw [nx_alloc]; omega, fun b' hb' => get_alloc_old (by omega)⟩
    · have hap := append_ownO (P := Try.prog) (A := A) (sT := 106) (xT := 106) (len := 0) (off := off1) (b := b1) (x := u) (new := [x]) (m := 1) Try.el106 Try.underlying106 (by intro k; exact TypeDesc.noConfusion) Try.sz107 Try.byt107 Try.zero107 rfl hsrc (by decide) (by decide) (by decide) h3 (by omega) (by simp [hxc])
      rw [Nat.zero_mul, List.take_zero, List.nil_append] at hap
      have hk2 : KpN A ((A.upd b1 none).alloc (.cells [x] 107 (some 0))) := by
        refine (((KpN.refl A).upd (fun cs m e => ?_) _).alloc _)
        rw [h3] at e; injection e with e; injection e with _ e; exact absurd e (by decide)
      exact ⟨_, _, hap, .inr ⟨A.next, 0, [x], rfl, hlo, by simp, get_alloc_same .., by simp, .cons (q7.kp hk2) .nil⟩, by rw [nx_alloc]; exact Nat.le_succ _, fun b' hb' => by rw [get_alloc_old (by rw [nx_upd]; omega), get_upd_old (by omega)]⟩
/-- The heap while the tree is made. -/
structure GInv (A : St) (n : Nat) (A' : St) (L P : List HT) (lv pv : Value) : Prop where
  nx : A.next + 3 ≤ A'.next
  ov : ∀ b, b < A.next → A'.get b = A.get b
  gl : A'.get A.next = intB (List.replicate n 0)
  g1 : A'.get (A.next + 1) = some (.cells [lv] 106 (some 0))
  g2 : A'.get (A.next + 2) = some (.cells [pv] 106 (some 0))
  ql : QR A' (A.next + 3) L lv
  qp : QR A' (A.next + 3) P pv
  ne : ∀ b, rowB lv = some b → rowB pv ≠ some b
theorem GInv.node {A A' : St} {n : Nat} {L P : List HT} {lv pv : Value} (h : GInv A n A' L P lv pv) (X : Blk) : GInv A n (A'.alloc X) L P lv pv := by
  have hk : KpN A' (A'.alloc X) := (KpN.refl A').alloc X
  have := h.nx
  exact ⟨by rw [nx_alloc]; omega, fun b hb => (get_alloc_old (by omega)).trans (h.ov b hb), (get_alloc_old (by omega)).trans h.gl, (get_alloc_old (by omega)).trans h.g1, (get_alloc_old (by omega)).trans h.g2,
    h.ql.kp hk fun b _ hb => get_alloc_old hb, h.qp.kp hk fun b _ hb => get_alloc_old hb, h.ne⟩
/-- One more leaf. -/
theorem GInv.leaf {A A' : St} {n : Nat} {L P : List HT} {lv pv : Value} (h : GInv A n A' L P lv pv) {t : HT} {x : Value} (hx : TrA A' t x) (hl : L.length ≤ 1000000) :
    ∃ v' A2, aappend Try.prog (A'.alloc (.cells [x] 107 (some 0))) 106 106 lv (.slice (some ⟨A'.next, 0, none⟩) 1 1) = some (v', A2) ∧ A2.get (A.next + 1) = some (.cells [lv] 106 (some 0)) ∧ one1 v' = true ∧ offZ v' ∧ GInv A n (A2.upd (A.next + 1) (some (.cells [v'] 106 (some 0)))) (L ++ [t]) P v' pv ∧ KpN A' (A2.upd (A.next + 1) (some (.cells [v'] 106 (some 0)))) := by
  obtain ⟨v', A2, h1, h2, h3, h4, h5, h6, h7⟩ := qr_push h.ql hx h.nx hl
  have hn := h.nx
  have nel : ∀ b, b < A.next + 3 → rowB lv ≠ some b := fun b hb e => by have := (h.ql.rb b e).1; omega
  have nep : ∀ b, rowB pv = some b → A.next + 3 ≤ b ∧ b < A'.next := h.qp.rb
  have g : ∀ b, b < A.next + 3 → A2.get b = A'.get b := fun b hb => h5 b (by omega) (nel b hb)
  have k : KpN A' (A2.upd (A.next + 1) (some (.cells [v'] 106 (some 0)))) := h6.upd (fun cs m e => by rw [h.g1] at e; injection e with e; injection e with _ e; exact absurd e (by decide)) _
  have k2 : KpN A2 (A2.upd (A.next + 1) (some (.cells [v'] 106 (some 0)))) := (KpN.refl A2).upd (fun cs m e => by rw [g _ (by omega), h.g1] at e; injection e with e; injection e with _ e; exact absurd e (by decide)) _
  refine ⟨v', A2, h1, (g _ (by omega)).trans h.g1, h2.one, h7, ⟨by rw [nx_upd]; omega, fun b hb => ?_, ?_, get_upd_same .., ?_, ?_, ?_, fun b hb hb' => ?_⟩, k⟩
  · rw [get_upd_old (by omega), g b (by omega)]; exact h.ov b hb
  · rw [get_upd_old (by omega), g _ (by omega)]; exact h.gl
  · rw [get_upd_old (by omega), g _ (by omega)]; exact h.g2
  · exact h2.kp k2 fun b hb hlt => get_upd_old (by rw [h4] at hb; cases hb; omega)
  · exact h.qp.kp k fun b hb hlt => by rw [get_upd_old (by have := nep b hb; omega)]; exact h5 b hlt fun e => h.ne b e hb
  · rw [h4] at hb; cases hb; have := nep _ hb'; omega
/-- One more pair. -/
theorem GInv.pair {A A' : St} {n : Nat} {L P : List HT} {lv pv : Value} (h : GInv A n A' L P lv pv) {t : HT} {x : Value} (hx : TrA A' t x) (hl : P.length ≤ 1000000) :
    ∃ v' A2, aappend Try.prog (A'.alloc (.cells [x] 107 (some 0))) 106 106 pv (.slice (some ⟨A'.next, 0, none⟩) 1 1) = some (v', A2) ∧ A2.get (A.next + 2) = some (.cells [pv] 106 (some 0)) ∧ one1 v' = true ∧ GInv A n (A2.upd (A.next + 2) (some (.cells [v'] 106 (some 0)))) L (P ++ [t]) lv v' ∧ KpN A' (A2.upd (A.next + 2) (some (.cells [v'] 106 (some 0)))) := by
  obtain ⟨v', A2, h1, h2, h3, h4, h5, h6, h7⟩ := qr_push h.qp hx h.nx hl
  have hn := h.nx
  have nep : ∀ b, b < A.next + 3 → rowB pv ≠ some b := fun b hb e => by have := (h.qp.rb b e).1; omega
  have nel : ∀ b, rowB lv = some b → A.next + 3 ≤ b ∧ b < A'.next := h.ql.rb
  have g : ∀ b, b < A.next + 3 → A2.get b = A'.get b := fun b hb => h5 b (by omega) (nep b hb)
  have k : KpN A' (A2.upd (A.next + 2) (some (.cells [v'] 106 (some 0)))) := h6.upd (fun cs m e => by rw [h.g2] at e; injection e with e; injection e with _ e; exact absurd e (by decide)) _
  have k2 : KpN A2 (A2.upd (A.next + 2) (some (.cells [v'] 106 (some 0)))) := (KpN.refl A2).upd (fun cs m e => by rw [g _ (by omega), h.g2] at e; injection e with e; injection e with _ e; exact absurd e (by decide)) _
  refine ⟨v', A2, h1, (g _ (by omega)).trans h.g2, h2.one, ⟨by rw [nx_upd]; omega, fun b hb => ?_, ?_, ?_, get_upd_same .., ?_, ?_, fun b hb hb' => ?_⟩, k⟩
  · rw [get_upd_old (by omega), g b (by omega)]; exact h.ov b hb
  · rw [get_upd_old (by omega), g _ (by omega)]; exact h.gl
  · rw [get_upd_old (by omega), g _ (by omega)]; exact h.g1
  · exact h.ql.kp k fun b hb hlt => by rw [get_upd_old (by have := nel b hb; omega)]; exact h5 b hlt (h.ne b hb)
  · exact h2.kp k2 fun b hb hlt => get_upd_old (by rw [h4] at hb; cases hb; omega)
  · rw [h4] at hb'; cases hb'; have := nel _ hb; omega
/-- The lightest one is taken: the heap behind it. -/
theorem GInv.light {A A' : St} {n : Nat} {L P : List HT} {lv pv : Value} (h : GInv A n A' L P lv pv) (w0 : World) {t : HT} {L' P' : List HT} (hp : popL L P = some (t, L', P')) (hL : L.length ≤ 1000000) (hP : P.length ≤ 1000000) :
    ∃ x v' u' A2, ACalls Try.prog w0 55 #[.pointer (some ⟨A.next + 2, 0, none⟩), .pointer (some ⟨A.next + 1, 0, none⟩)] A' (fin x A2) ∧ TrA A2 t x ∧ GInv A n A2 L' P' v' u' ∧ KpN A' A2 := by
  obtain ⟨x, v', u', A2, h1, h2, h3, h4, h5, h6, h7, h8, h9, h10, h11⟩ := lightest_ok w0 A' (A.next + 1) (A.next + 2) (A.next + 3) L P lv pv (by omega) (by omega) (by omega) h.nx h.g1 h.g2 h.ql h.qp hp hL hP
  exact ⟨x, v', u', A2, h1, h2, ⟨by rw [h3]; exact h.nx, fun b hb => (h4 b (by omega) (by omega)).trans (h.ov b hb), (h4 _ (by omega) (by omega)).trans h.gl, h5, h6, h7, h8, fun b hb hb' => h.ne b (h9 b hb) (h10 b hb')⟩, h11⟩
set_option maxHeartbeats 1000000 in
theorem insnil_ok (w0 : World) (A : St) : ACalls Try.prog w0 69 #[.slice none 0 0, .int .i64 0, .int .i64 0, cmpV] A (fin (.tuple #[]) A) := by
  refine call_E (l := [.slice none 0 0, .int .i64 0, .int .i64 0, cmpV]) Try.enters69 Try.func69 rfl (Nat.le_of_ble_eq_true rfl) fun hw hbd => ?_
  simp (maxSteps := 1000000) (disch := first | omega | (simp only [z1, z2, z3, z4, z5, z6, z7] <;> omega) | fail) only [go_sem, Try.ntmps69, Try.results69]
  refine aw_loop (fun m a A' => ∃ ρ : Nat → Value, a = E 53 ρ [] ∧ A' = A ∧ ρ 2 = .int .i64 0 ∧ ρ 8 = .int .i64 1) 0 ⟨_, rfl, rfl, rfl, rfl⟩ ?_
  rintro m a A' ⟨ρ, rfl, rfl, r2, r8⟩
  refine aw_of ?_
  simp (maxSteps := 1000000) (disch := first | omega | (simp only [z1, z2, z3, z4, z5, z6, z7] <;> omega) | fail) only [go_sem, r2, r8, Try.results69]
  exact gc_here ⟨rfl, rfl⟩
set_option maxHeartbeats 1000000 in
theorem stablenil_ok (w0 : World) (A : St) : ACalls Try.prog w0 67 #[.slice none 0 0, .int .i64 0, cmpV] A (fin (.tuple #[]) A) := by
  refine call_E (l := [.slice none 0 0, .int .i64 0, cmpV]) Try.enters67 Try.func67 rfl (Nat.le_of_ble_eq_true rfl) fun hw hbd => ?_
  simp (maxSteps := 1000000) (disch := first | omega | (simp only [z1, z2, z3, z4, z5, z6, z7] <;> omega) | fail) only [go_sem, Try.ntmps67, Try.results67]
  refine aw_loop (fun m a A' => ∃ ρ : Nat → Value, a = E 63 ρ [] ∧ A' = A ∧ ρ 0 = .slice none 0 0 ∧ ρ 1 = .int .i64 0 ∧ ρ 2 = cmpV ∧ ρ 6 = .int .i64 20 ∧ ρ 7 = .int .i64 0 ∧ ρ 8 = .int .i64 20) 0 ⟨_, rfl, rfl, rfl, rfl, rfl, rfl, rfl, rfl⟩ ?_
  rintro m a A' ⟨ρ, rfl, rfl, r0, r1, r2, r6, r7, r8⟩
  refine aw_of ?_
  simp (maxSteps := 1000000) (disch := first | omega | (simp only [z1, z2, z3, z4, z5, z6, z7] <;> omega) | fail) only [go_sem, r0, r1, r2, r6, r7, r8]
  refine call1 (insnil_ok w0 _) ?_
  simp (maxSteps := 1000000) (disch := first | omega | (simp only [z1, z2, z3, z4, z5, z6, z7] <;> omega) | fail) only [go_sem]
  refine aw_loop (fun m a A'' => ∃ ρ : Nat → Value, a = E 63 ρ [] ∧ A'' = A' ∧ ρ 1 = .int .i64 0 ∧ ρ 6 = .int .i64 20) 0 ⟨_, rfl, rfl, by first | rfl | exact r1, by first | rfl | exact r6⟩ ?_
  clear r0 r1 r2 r6 r7 r8
  rintro m a A' ⟨ρ, rfl, rfl, r1, r6⟩
  refine aw_of ?_
  simp (maxSteps := 1000000) (disch := first | omega | (simp only [z1, z2, z3, z4, z5, z6, z7] <;> omega) | fail) only [go_sem, r1, r6, Try.results67]
  exact gc_here ⟨rfl, rfl⟩
theorem sortnil_ok (w0 : World) (A : St) : ACalls Try.prog w0 53 #[.slice none 0 0, cmpV] A (fin (.tuple #[]) A) := by
  refine call_E (l := [.slice none 0 0, cmpV]) Try.enters53 Try.func53 rfl (Nat.le_of_ble_eq_true rfl) fun hw hbd => ?_
  simp (maxSteps := 1000000) (disch := first | omega | (simp only [z1, z2, z3, z4, z5, z6, z7] <;> omega) | fail) only [go_sem, Try.ntmps53, Try.results53]
  refine call1 (stablenil_ok w0 _) ?_
  simp (maxSteps := 1000000) (disch := first | omega | (simp only [z1, z2, z3, z4, z5, z6, z7] <;> omega) | fail) only [go_sem, Try.results53]
  exact gc_here ⟨rfl, rfl⟩
/-- The leaves are sorted. -/
theorem GInv.sort {A A' : St} {n : Nat} {L P : List HT} {lv pv : Value} (h : GInv A n A' L P lv pv) (w0 : World) (hz : offZ lv) (hL : L.length ≤ 1000000) (hw : ∀ t ∈ L, 0 ≤ t.wt ∧ t.wt ≤ 1099511627776) :
    ∃ A2, ACalls Try.prog w0 53 #[lv, cmpV] A' (fin (.tuple #[]) A2) ∧ GInv A n A2 (srtK HT.wt L) P lv pv := by
  have hql := h.ql
  rcases hql with ⟨rfl, rfl⟩ | ⟨b, off, cells, rfl, h1, h2, h3, h4, h5⟩
  · exact ⟨A', sortnil_ok w0 A', h⟩
  · have hz' : off = 0 := hz
    subst hz'
    rw [List.drop_zero] at h5
    have hbn : ∀ cs m, A'.get b ≠ some (.cells cs 109 m) := fun cs m e => by
      rw [h3] at e; injection e with e; injection e with _ e; exact absurd e (by decide)
    have hD : ∀ x ∈ cells, DT A' x := fun x hx => by
      obtain ⟨t, ht, hr⟩ := h5.mem_r x hx
      exact ⟨t, hr, hw t ht⟩
    have hrv : RowV (.slice (some ⟨b, 0, some 1⟩) L.length L.length) b L.length := fun kk i hi => by
      refine (indexAddr_slice Try.prog kk 107 b 0 (some 1) L.length L.length i (by omega) (by omega)).trans ?_
      rw [Try.sz107]; simp
    have c := sortstable_ok (w0 := w0) (A := A') (wt := wtA A') (D := DT A') hrv (fun X => rfl) hL (cmp_ok w0 A' b hbn) (fun x hx => hx.one) cells h5.length.symm hD
    rw [upd_id h3] at c
    have hk : KpN A' (A'.upd b (nodB (srtK (wtA A') cells))) := (KpN.refl A').upd hbn _
    have := h.nx
    refine ⟨_, c, ⟨h.nx, fun b' hb' => (get_upd_old (by omega)).trans (h.ov b' hb'), (get_upd_old (by omega)).trans h.gl, (get_upd_old (by omega)).trans h.g1, (get_upd_old (by omega)).trans h.g2, .inr ⟨b, 0, _, by rw [srtK_len], h1, h2, get_upd_same .., Nat.zero_le _, ?_⟩, h.qp.kp hk fun b' hb' _ => get_upd_old fun e => h.ne b rfl (by rw [← e]; exact hb'), h.ne⟩⟩
    rw [List.drop_zero]
    exact (srtK_all2 (R := TrA A') (fun t x ht => ht.wt.symm) h5).imp fun t x ht => ht.kp hk
end Go.Fw

set_option linter.unusedSimpArgs false
set_option linter.unusedVariables false
set_option maxRecDepth 4000
namespace Go.Fw
open Go.Proofs Go.RowKit
/-! grown: what it answers. -/
theorem Try.enters34 : Enters Try.prog 34 := enters_of Try.func34 rfl (by kernel_rfl)
theorem leafs_mem : ∀ {f : List Int} {i : Nat} {t : HT}, t ∈ leafs f i → ∃ x j, t = .leaf x j ∧ 0 < x ∧ x ∈ f ∧ i ≤ j ∧ j < i + f.length
  | x :: f, i, t, h => by
    unfold leafs at h
    split at h
    · rename_i hx
      rcases List.mem_cons.1 h with rfl | h
      · exact ⟨x, i, rfl, hx, List.mem_cons_self .., Nat.le_refl _, by simp⟩
      · obtain ⟨y, j, rfl, h1, h2, h3, h4⟩ := leafs_mem h
        exact ⟨y, j, rfl, h1, List.mem_cons_of_mem _ h2, by omega, by rw [List.length_cons]; omega⟩
    · obtain ⟨y, j, rfl, h1, h2, h3, h4⟩ := leafs_mem h
      exact ⟨y, j, rfl, h1, List.mem_cons_of_mem _ h2, by omega, by rw [List.length_cons]; omega⟩
theorem sumG_le (g : HT → Int) (M : Int) : ∀ {l : List HT}, (∀ t ∈ l, g t ≤ M) → sumG g l ≤ M * (l.length : Nat)
  | [], _ => by rw [sumG_nil]; simp
  | t :: l, h => by
    have h1 := h t (List.mem_cons_self ..)
    have h2 := sumG_le g M fun q hq => h q (List.mem_cons_of_mem _ hq)
    rw [sumG_cons, List.length_cons, Int.natCast_add, Int.mul_add]
    omega
theorem sumG_srtK (g : HT → Int) (k : HT → Int) (l : List HT) : sumG g (srtK k l) = sumG g l := by
  have ins : ∀ (s : List HT) (x : HT), sumG g (insK k s x) = g x + sumG g s := by
    intro s
    induction s with
    | nil => intro x; rfl
    | cons y s ih =>
      intro x
      rw [insK]
      split
      · rw [sumG_cons, ih, sumG_cons]; omega
      · rfl
  have : ∀ (l s : List HT), sumG g (l.foldl (insK k) s) = sumG g l + sumG g s := by
    intro l
    induction l with
    | nil => intro s; rw [List.foldl_nil, sumG_nil]; omega
    | cons y l ih => intro s; rw [List.foldl_cons, ih, ins, sumG_cons]; omega
  have := this l []
  rw [sumG_nil] at this
  unfold srtK
  omega
/-- What is kept of the numbers. -/
structure QOk (n : Nat) (L P : List HT) : Prop where
  nn : ∀ t, t ∈ L ∨ t ∈ P → 0 ≤ t.wt ∧ ∀ s ∈ t.syms, s < n
  wt : sumG HT.wt L + sumG HT.wt P ≤ 1099511627776
  cnt : sumG HT.cnt L + sumG HT.cnt P ≤ 1000
theorem cnt_pos (t : HT) : 1 ≤ t.cnt := by have := ht_cnt t; omega
theorem len_cnt (l : List HT) : (l.length : Int) ≤ sumG HT.cnt l := by
  induction l with
  | nil => exact Int.le_refl _
  | cons t l ih => have := cnt_pos t; rw [sumG_cons, List.length_cons]; omega
theorem QOk.len {n : Nat} {L P : List HT} (h : QOk n L P) : L.length + P.length ≤ 1000 := by
  have := len_cnt L
  have := len_cnt P
  have := h.cnt
  omega
theorem QOk.pop {n : Nat} {L P L' P' : List HT} {t : HT} (h : QOk n L P) (hp : popL L P = some (t, L', P')) : QOk n L' P' ∧ 0 ≤ t.wt ∧ (∀ s ∈ t.syms, s < n) ∧ t.wt + (sumG HT.wt L' + sumG HT.wt P') ≤ 1099511627776 ∧ t.cnt + (sumG HT.cnt L' + sumG HT.cnt P') ≤ 1000 := by
  have e1 := sumG_pop HT.wt hp
  have e2 := sumG_pop HT.cnt hp
  obtain ⟨a1, a2, a3, _⟩ := popL_part hp
  have ht := h.nn t a3
  have hc := cnt_pos t
  have := h.wt
  have := h.cnt
  refine ⟨⟨fun q hq => h.nn q (hq.imp (a1 q) (a2 q)), by omega, by omega⟩, ht.1, ht.2, by omega, by omega⟩
theorem QOk.push {n : Nat} {L P : List HT} {a b : HT} (h : QOk n L P) (ha : 0 ≤ a.wt ∧ ∀ s ∈ a.syms, s < n) (hb : 0 ≤ b.wt ∧ ∀ s ∈ b.syms, s < n) (hw : a.wt + (b.wt + (sumG HT.wt L + sumG HT.wt P)) ≤ 1099511627776) (hc : a.cnt + (b.cnt + (sumG HT.cnt L + sumG HT.cnt P)) ≤ 1000) : QOk n L (P ++ [.br (a.wt + b.wt) a b]) := by
  refine ⟨fun t ht => ?_, ?_, ?_⟩
  · rcases ht with ht | ht
    · exact h.nn t (.inl ht)
    · rcases List.mem_append.1 ht with ht | ht
      · exact h.nn t (.inr ht)
      · rw [List.mem_singleton.1 ht]
        refine ⟨by show 0 ≤ a.wt + b.wt; omega, fun s hs => ?_⟩
        rcases List.mem_append.1 hs with hs | hs
        · exact ha.2 s hs
        · exact hb.2 s hs
  · rw [sumG_app, sumG_cons, sumG_nil]; show _ + (_ + (a.wt + b.wt + 0)) ≤ _; omega
  · have hcc : (HT.br (a.wt + b.wt) a b).cnt = a.cnt + b.cnt := by unfold HT.cnt; rw [HT.syms, List.length_append]; omega
    rw [sumG_app, sumG_cons, sumG_nil, hcc]; omega
theorem QOk.init {f : List Int} (hf : ∀ x ∈ f, x ≤ 1048576) (hn : f.length ≤ 1000) : QOk f.length (srtK HT.wt (leafs f 0)) [] := by
  have hl := leafs_len f 0
  have hm : ∀ t ∈ leafs f 0, t.wt ≤ 1048576 := fun t ht => by
    obtain ⟨x, j, rfl, _, h2, _⟩ := leafs_mem ht; exact hf x h2
  have hc : ∀ t ∈ leafs f 0, t.cnt ≤ 1 := fun t ht => by
    obtain ⟨x, j, rfl, _⟩ := leafs_mem ht; exact Int.le_refl _
  have h1 := sumG_le HT.wt 1048576 hm
  have h2 := sumG_le HT.cnt 1 hc
  refine ⟨fun t ht => ?_, by rw [sumG_srtK, sumG_nil]; omega, by rw [sumG_srtK, sumG_nil]; omega⟩
  rcases ht with ht | ht
  · obtain ⟨x, j, rfl, h1, _, _, h4⟩ := leafs_mem (((srtK_same (k := HT.wt) (leafs f 0)).mem t).2 ht)
    exact ⟨by show 0 ≤ x; omega, fun s hs => by rw [List.mem_singleton.1 hs]; omega⟩
  · cases ht
theorem HInv.init (f : List Int) : HInv (srtK HT.wt (leafs f 0)) [] := by
  refine ⟨srtK_srtd _, .nil, 0, 0, Int.le_refl _, Int.le_refl _, fun p hp => by (cases hp), fun q hq => ?_, fun q hq => by cases hq⟩
  obtain ⟨x, j, rfl, h1, _⟩ := leafs_mem (((srtK_same (k := HT.wt) (leafs f 0)).mem q).2 hq)
  show 0 ≤ x
  omega
theorem View.lenX {A : St} {sz e : Nat} {cs : List Value} {len : Nat} {v : Value} (h : View A sz cs len v) (X : St) : Go.Fw.lenU X (some (.slice e)) v = some (.int .i64 len, X) := by
  rcases h.2 with ⟨rfl, _, _, rfl⟩ | ⟨b, off, sp, c, cells, e, m, rfl, h1, h2, h3⟩ <;> rfl
def RowPost (A : St) (l : List Int) (e : Ending) (A' : St) : Prop := ∃ v, e = .returned v ∧ Over A A' ∧ InRow A' A.next l v
theorem deepAll_snoc (l : List HT) (t : HT) (ls : List Int) : deepAll (l ++ [t]) ls = deepL t 0 (deepAll l ls) := by unfold deepAll; rw [List.foldl_append]; rfl
set_option maxHeartbeats 8000000 in
theorem grown_ok (w0 : World) (A : St) (f : List Int) (v : Value) (hv : InView A f v) (hf : ∀ x ∈ f, 0 ≤ x ∧ x ≤ 1048576) (hn : f.length ≤ 1000) :
    ACalls Try.prog w0 34 #[v] A (RowPost A (grownP f)) := by
  refine call_E (l := [v]) Try.enters34 Try.func34 rfl (Nat.le_of_ble_eq_true rfl) fun hw hbd => ?_
  have hlen : ∀ X, lenU X (some (.slice 3)) v = some (.int .i64 f.length, X) := View.lenX hv
  have hms := makeSlice_ints (P := Try.prog) (A := A) (t := 35) (k := .i64) (k' := .i64) (n := f.length) Try.el35 Try.sz3 Try.byt3 Try.zero3 (by decide) (by omega)
  simp (maxSteps := 1000000) (disch := first | omega | (simp only [z1, z2, z3, z4, z5, z6, z7] <;> omega) | fail) only [go_sem, Try.ntmps34, Try.results34, hlen, hms]
  have hvx : ∀ A' : St, A.next ≤ A'.next → (∀ b, b < A.next → A'.get b = A.get b) → InView A' f v := fun A' h1 h2 => View.over hv ⟨h1, h2⟩
  have g0 : GInv A f.length (((A.alloc (.cells (List.replicate f.length (.int .i64 0)) 3 (some 0))).alloc (.cells [.slice none 0 0] 106 (some 0))).alloc (.cells [.slice none 0 0] 106 (some 0))) [] [] (.slice none 0 0) (.slice none 0 0) :=
    ⟨by simp only [nx_alloc]; omega, fun b hb => by rw [get_alloc_old (by simp only [nx_alloc]; omega), get_alloc_old (by simp only [nx_alloc]; omega), get_alloc_old hb], by rw [get_alloc_old (by simp only [nx_alloc]; omega), get_alloc_old (by simp only [nx_alloc]; omega), get_alloc_same]; unfold intB; rw [List.map_replicate], by rw [get_alloc_old (by simp only [nx_alloc]; omega)]; exact get_alloc_same .., get_alloc_same .., .nil .., .nil .., fun b hb => by cases hb⟩
  generalize ((A.alloc (.cells (List.replicate f.length (.int .i64 0)) 3 (some 0))).alloc (.cells [.slice none 0 0] 106 (some 0))).alloc (.cells [.slice none 0 0] 106 (some 0)) = A0 at g0 ⊢
  refine aw_loop (fun m x A' => ∃ (ρ : Nat → Value) (i : Nat) (lv : Value), x = E 75 ρ [] ∧ m = f.length - i ∧ i ≤ f.length ∧ GInv A f.length A' (leafs (f.take i) 0) [] lv (.slice none 0 0) ∧ offZ lv ∧ ρ 3 = .slice (some ⟨A.next, 0, none⟩) f.length f.length ∧ ρ 4 = .pointer (some ⟨A.next + 1, 0, none⟩) ∧ ρ 5 = .pointer (some ⟨A.next + 2, 0, none⟩) ∧
      ρ 16 = v ∧ ρ 17 = .int .i64 f.length ∧ ρ 18 = .int .i64 i) f.length
    ⟨_, 0, .slice none 0 0, rfl, rfl, Nat.zero_le _, by exact g0, True.intro, rfl, rfl, rfl, rfl, rfl, rfl⟩ ?_
  clear g0
  rintro m x A' ⟨ρ, i, lv, rfl, hm, hi, g, hz, r3, r4, r5, r16, r17, r18⟩
  refine aw_of ?_
  have hlf := leafs_len (f.take i) 0
  have htk : (f.take i).length ≤ i := List.length_take_le ..
  by_cases hend : i = f.length
  rotate_left
  · have e1 : (i : Int) < (f.length : Int) := by omega
    obtain ⟨n, hx⟩ : ∃ x, f[i]? = some x := ⟨_, List.getElem?_eq_getElem (by omega)⟩
    obtain ⟨pb, po, hb1, hb2, hb3, cells, e', md, hb4, hb5⟩ := View.at1 (P := Try.prog) (e := 3) (hvx A' (by have := g.nx; omega) g.ov) Try.sz3 (i64E_at _ i n hx)
    have htl : (f.take i).length = i := List.length_take_of_le hi
    have hlx : leafs (f.take (i + 1)) 0 = if 0 < n then leafs (f.take i) 0 ++ [.leaf n i] else leafs (f.take i) 0 := by
      rw [List.take_add_one, hx]; show leafs (f.take i ++ [n]) 0 = _
      rw [leafs_app, htl, Nat.zero_add]
    simp (maxSteps := 1000000) (disch := first | omega | (simp only [z1, z2, z3, z4, z5, z6, z7] <;> omega) | fail) only [go_sem, r16, r17, r18, hb3, hb4, hb5]
    by_cases h0 : n > 0
    · rw [if_pos h0] at hlx
      have gn := g.node (.cells [.int .i64 n, .int .i64 i, .pointer none, .pointer none] 109 (some 0))
      have ht : TrA (A'.alloc (.cells [.int .i64 n, .int .i64 i, .pointer none, .pointer none] 109 (some 0))) (.leaf n i) (.pointer (some ⟨A'.next, 0, none⟩)) := ⟨A'.next, rfl, by rw [nx_alloc]; omega, get_alloc_same ..⟩
      obtain ⟨v', A2, k1, k2, k3, k4, k5, k6⟩ := gn.leaf ht (by omega)
      rw [nx_alloc] at k1
      simp (maxSteps := 1000000) (disch := first | omega | (simp only [z1, z2, z3, z4, z5, z6, z7] <;> omega) | fail) only [go_sem, r4, r18, h0, g.g1, k1, k2, storeC_val (off := 0) (k := 0) (cs := [lv]) (e := 106) k3 (Nat.le_refl _) (Nat.le_refl _)]
      refine ⟨m - 1, by omega, _, i + 1, v', rfl, by omega, by omega, by rw [hlx]; exact k5, k4, ?_, ?_, ?_, ?_, ?_, ?_⟩
      · simp (maxSteps := 1000000) (disch := first | omega | (simp only [z1, z2, z3, z4, z5, z6, z7] <;> omega) | fail) only [go_sem, r3]
      · simp (maxSteps := 1000000) (disch := first | omega | (simp only [z1, z2, z3, z4, z5, z6, z7] <;> omega) | fail) only [go_sem, r4]
      · simp (maxSteps := 1000000) (disch := first | omega | (simp only [z1, z2, z3, z4, z5, z6, z7] <;> omega) | fail) only [go_sem, r5]
      · simp (maxSteps := 1000000) (disch := first | omega | (simp only [z1, z2, z3, z4, z5, z6, z7] <;> omega) | fail) only [go_sem, r16]
      · simp (maxSteps := 1000000) (disch := first | omega | (simp only [z1, z2, z3, z4, z5, z6, z7] <;> omega) | fail) only [go_sem, r17]
      · simp (maxSteps := 1000000) (disch := first | omega | (simp only [z1, z2, z3, z4, z5, z6, z7] <;> omega) | fail) only [go_sem]
        rfl
    · rw [if_neg h0] at hlx
      simp (maxSteps := 1000000) (disch := first | omega | (simp only [z1, z2, z3, z4, z5, z6, z7] <;> omega) | fail) only [go_sem, h0, r18]
      refine ⟨m - 1, by omega, _, i + 1, lv, rfl, by omega, by omega, by rw [hlx]; exact g, hz, ?_, ?_, ?_, ?_, ?_, ?_⟩
      · simp (maxSteps := 1000000) (disch := first | omega | (simp only [z1, z2, z3, z4, z5, z6, z7] <;> omega) | fail) only [go_sem, r3]
      · simp (maxSteps := 1000000) (disch := first | omega | (simp only [z1, z2, z3, z4, z5, z6, z7] <;> omega) | fail) only [go_sem, r4]
      · simp (maxSteps := 1000000) (disch := first | omega | (simp only [z1, z2, z3, z4, z5, z6, z7] <;> omega) | fail) only [go_sem, r5]
      · simp (maxSteps := 1000000) (disch := first | omega | (simp only [z1, z2, z3, z4, z5, z6, z7] <;> omega) | fail) only [go_sem, r16]
      · simp (maxSteps := 1000000) (disch := first | omega | (simp only [z1, z2, z3, z4, z5, z6, z7] <;> omega) | fail) only [go_sem, r17]
      · simp (maxSteps := 1000000) (disch := first | omega | (simp only [z1, z2, z3, z4, z5, z6, z7] <;> omega) | fail) only [go_sem]
        rfl
  have e1 : ¬ ((i : Int) < (f.length : Int)) := by omega
  rw [hend, List.take_length] at g
  rw [hend, List.take_length] at hlf
  obtain ⟨A1, hc1, g1⟩ := g.sort w0 hz (by omega) (fun t ht => by
    obtain ⟨x, j, rfl, h1, h2, _⟩ := leafs_mem ht
    have := hf x h2
    exact ⟨this.1, by show x ≤ _; omega⟩)
  simp (maxSteps := 1000000) (disch := first | omega | (simp only [z1, z2, z3, z4, z5, z6, z7] <;> omega) | fail) only [go_sem, r4, r5, r17, r18, e1, g.g1]
  refine call1 hc1 ?_
  simp (maxSteps := 1000000) (disch := first | omega | (simp only [z1, z2, z3, z4, z5, z6, z7] <;> omega) | fail) only [go_sem, r4, r5]
  have hq1 := QOk.init (fun x hx => (hf x hx).2) hn
  have hi1 := HInv.init f
  refine aw_loop (fun m x A' => ∃ (ρ : Nat → Value) (L P : List HT) (lv pv : Value), x = E 75 ρ [] ∧ m = L.length + P.length ∧ L.length + P.length ≤ f.length ∧ GInv A f.length A' L P lv pv ∧ HInv L P ∧ QOk f.length L P ∧ (∀ k, L.length + P.length ≤ k + 1 → huff k (mrg L P) = hufP f) ∧ ρ 3 = .slice (some ⟨A.next, 0, none⟩) f.length f.length ∧ ρ 4 = .pointer (some ⟨A.next + 1, 0, none⟩) ∧ ρ 5 = .pointer (some ⟨A.next + 2, 0, none⟩) ∧
      ρ 8 = .func (.func 55) #[] #[.pointer (some ⟨A.next + 2, 0, none⟩), .pointer (some ⟨A.next + 1, 0, none⟩)]) (srtK HT.wt (leafs f 0)).length
    ⟨_, _, [], _, _, rfl, by simp, by rw [srtK_len]; simpa using hlf, g1, hi1, hq1, fun k hk => ?_, by first | rfl | exact r3, by first | rfl | exact r4, by first | rfl | exact r5, by first | rfl | simp only [r4, r5]⟩ ?_
  · rw [mrg_nil2]
    unfold hufP
    rw [List.length_nil, Nat.add_zero] at hk
    rcases Nat.le_total k f.length with h | h
    · exact (huff_fuel k _ hk _ h).symm
    · exact huff_fuel f.length _ (by rw [srtK_len]; omega) _ h
  clear r3 r4 r5 r16 r17 r18 g1 hi1 hq1 hc1 g
  rintro m x A' ⟨ρ, L, P, lv, pv, rfl, hm, hml, g, hinv, hq, hhf, r3, r4, r5, r8⟩
  refine aw_of ?_
  have hql := hq.len
  have ll := g.ql.lenU
  have lp := g.qp.lenU
  have hcast : ((L.length : Nat) : Int) + ((P.length : Nat) : Int) = ((L.length + P.length : Nat) : Int) := by omega
  by_cases hgt : 1 < L.length + P.length
  · have hgt' : ((L.length + P.length : Nat) : Int) > 1 := by omega
    obtain ⟨a, L1, P1, p1, n1⟩ := popL_some (L := L) (P := P) (by omega)
    obtain ⟨b, L2, P2, p2, n2⟩ := popL_some (L := L1) (P := P1) (by omega)
    obtain ⟨x1, v1, u1, A1, c1, t1, g1, k1⟩ := g.light w0 p1 (by omega) (by omega)
    obtain ⟨x2, v2, u2, A2, c2, t2, g2, k2⟩ := g1.light w0 p2 (by omega) (by omega)
    have t1' := t1.kp k2
    obtain ⟨q1, w1, s1, _, _⟩ := hq.pop p1
    obtain ⟨q2, w2, s2, o2, o3⟩ := q1.pop p2
    have e1 := sumG_pop HT.wt p1
    have e2 := sumG_pop HT.cnt p1
    have e3 := sumG_pop HT.wt p2
    have e4 := sumG_pop HT.cnt p2
    have hwt := hq.wt
    have hct := hq.cnt
    have q3 := q2.push ⟨w1, s1⟩ ⟨w2, s2⟩ (by omega) (by omega)
    obtain ⟨hi3, hh3⟩ := hinv.step p1 p2
    obtain ⟨ka, sya, la, ra, rfl, hka1, hka⟩ := t1'.ptr
    obtain ⟨kb, syb, lb, rb, rfl, hkb1, hkb⟩ := t2.ptr
    have nb1 : 0 ≤ sumG HT.wt L2 := sumG_nn _ fun t ht => (q2.nn t (.inl ht)).1
    have nb2 : 0 ≤ sumG HT.wt P2 := sumG_nn _ fun t ht => (q2.nn t (.inr ht)).1
    have gn := g2.node (.cells [.int .i64 (a.wt + b.wt), .int .i64 0, .pointer (some ⟨ka, 0, none⟩), .pointer (some ⟨kb, 0, none⟩)] 109 (some 0))
    have kn := (KpN.refl A2).alloc (.cells [.int .i64 (a.wt + b.wt), .int .i64 0, .pointer (some ⟨ka, 0, none⟩), .pointer (some ⟨kb, 0, none⟩)] 109 (some 0))
    have ht : TrA (A2.alloc (.cells [.int .i64 (a.wt + b.wt), .int .i64 0, .pointer (some ⟨ka, 0, none⟩), .pointer (some ⟨kb, 0, none⟩)] 109 (some 0))) (.br (a.wt + b.wt) a b) (.pointer (some ⟨A2.next, 0, none⟩)) := ⟨A2.next, ka, kb, rfl, by rw [nx_alloc]; omega, get_alloc_same .., t1'.kp kn, t2.kp kn⟩
    obtain ⟨v', A3, y1, y2, y3, y4, y5⟩ := gn.pair ht (by omega)
    rw [nx_alloc] at y1
    unfold nodC at hka hkb
    simp (maxSteps := 1000000) (disch := first | omega | (simp only [z1, z2, z3, z4, z5, z6, z7] <;> omega) | fail) only [go_sem, r3, r4, r5, r8, g.g1, g.g2, ll, lp, hcast, hgt']
    refine call1 c1 ?_
    simp (maxSteps := 1000000) (disch := first | omega | (simp only [z1, z2, z3, z4, z5, z6, z7] <;> omega) | fail) only [go_sem, r8]
    refine call1 c2 ?_
    simp (maxSteps := 1000000) (disch := first | omega | (simp only [z1, z2, z3, z4, z5, z6, z7] <;> omega) | fail) only [go_sem, r5]
    have gn2 := (gn.node (.cells [.pointer (some ⟨A2.next, 0, none⟩)] 107 (some 0))).g2
    refine aw_draw2 [⟨false, [], [0, 1, 2]⟩, ⟨false, [], [0]⟩, ⟨false, [1], [0]⟩, ⟨false, [1, 2], [0]⟩, ⟨false, [1, 2, 3], [0]⟩, ⟨false, [], [0]⟩, ⟨false, [5], [0]⟩, ⟨false, [5, 6], [0]⟩, ⟨false, [5, 6, 7], [0]⟩, ⟨false, [1, 2, 3, 4, 5, 6, 7, 8], [0]⟩, ⟨false, [], [0]⟩, ⟨false, [], [0]⟩, ⟨false, [1, 2, 3, 4, 5, 6, 7, 8, 9, 10, 11], [0]⟩, ⟨true, [1, 2, 3, 4, 5, 6, 7, 8, 9, 10, 11, 12], [0]⟩, ⟨true, [1, 2, 3, 4, 5, 6, 7, 8, 9, 10, 11, 12, 13], [1]⟩, ⟨true, [0, 1, 2, 3, 4, 5, 6, 7, 8, 9, 10, 11, 12, 13, 14], [2]⟩, ⟨true, [0, 1, 2, 3, 4, 5, 6, 7, 8, 9, 10, 11, 12, 13, 14, 15], [3]⟩] [A2, A2.alloc (.cells [.int .i64 (a.wt + b.wt), .int .i64 0, .pointer (some ⟨ka, 0, none⟩), .pointer (some ⟨kb, 0, none⟩)] 109 (some 0)), (A2.alloc (.cells [.int .i64 (a.wt + b.wt), .int .i64 0, .pointer (some ⟨ka, 0, none⟩), .pointer (some ⟨kb, 0, none⟩)] 109 (some 0))).alloc (.cells [.pointer (some ⟨A2.next, 0, none⟩)] 107 (some 0)), A3, A3.upd (A.next + 2) (some (.cells [v'] 106 (some 0)))] 4 (by kernel_rfl) (by kernel_rfl) rfl ?_
    simp (maxSteps := 1000000) (disch := first | omega | (simp only [z1, z2, z3, z4, z5, z6, z7] <;> omega) | fail) only [go_sem, r5, g2.g2, gn.g2, gn2, hka, hkb, y1, y2, storeC_val (off := 0) (k := 0) (cs := [u2]) (e := 106) y3 (Nat.le_refl _) (Nat.le_refl _)]
    refine ⟨m - 1, by omega, _, L2, P2 ++ [.br (a.wt + b.wt) a b], v2, v', rfl, by simp; omega, by simp; omega, y4, hi3, q3, fun k hk => ?_, ?_, ?_, ?_, ?_⟩
    · rw [← hh3 k]
      exact hhf (k + 1) (by simp at hk; omega)
    · simp (maxSteps := 1000000) (disch := first | omega | (simp only [z1, z2, z3, z4, z5, z6, z7] <;> omega) | fail) only [go_sem, r3]
    · simp (maxSteps := 1000000) (disch := first | omega | (simp only [z1, z2, z3, z4, z5, z6, z7] <;> omega) | fail) only [go_sem, r4]
    · simp (maxSteps := 1000000) (disch := first | omega | (simp only [z1, z2, z3, z4, z5, z6, z7] <;> omega) | fail) only [go_sem, r5]
    · simp (maxSteps := 1000000) (disch := first | omega | (simp only [z1, z2, z3, z4, z5, z6, z7] <;> omega) | fail) only [go_sem, r8]
  have hgt' : ¬ ((L.length + P.length : Nat) : Int) > 1 := by omega
  obtain ⟨v', A2, y1, y2, y3, y4⟩ := qr_app g.ql g.qp (by omega) g.nx
  have hfin : hufP f = mrg L P := (hhf 0 (by omega)).symm
  have happ : mrg L P = L ++ P := by
    match L, P, hgt with
    | [], P, _ => rw [mrg_nil]; rfl
    | a :: L, [], _ => rw [mrg_nil2, List.append_nil]
    | a :: L, b :: P, h => simp at h; omega
  rw [happ] at hfin
  have hnn : ∀ t ∈ L ++ P, ∀ s ∈ t.syms, s < f.length := fun t ht => (hq.nn t (List.mem_append.1 ht)).2
  have hht : ∀ t ∈ L ++ P, t.ht ≤ 1000 := fun t ht => by
    have h1 := ht_cnt t
    have hs : ∀ l : List HT, t ∈ l → t.cnt ≤ sumG HT.cnt l := fun l => by
      induction l with
      | nil => intro h; cases h
      | cons q l ih =>
        intro h
        have := len_cnt l
        have := cnt_pos q
        rw [sumG_cons]
        rcases List.mem_cons.1 h with rfl | h
        · omega
        · have := ih h; omega
    have h2 := hs _ ht
    rw [sumG_app] at h2
    have := hq.cnt
    omega
  have l2 := y2.lenU
  rw [← hfin] at y2 l2 hnn hht
  have hfl : (hufP f).length ≤ 1 := by rw [hfin, List.length_append]; omega
  simp (maxSteps := 1000000) (disch := first | omega | (simp only [z1, z2, z3, z4, z5, z6, z7] <;> omega) | fail) only [go_sem, r3, r4, r5, r8, g.g1, g.g2, ll, lp, hcast, hgt', y1, l2]
  refine aw_loop (fun m x A' => ∃ (ρ : Nat → Value) (i : Nat), x = E 75 ρ [] ∧ m = (hufP f).length - i ∧ i ≤ (hufP f).length ∧ A2.next ≤ A'.next ∧ (∀ b, b ≠ A.next → b < A2.next → A'.get b = A2.get b) ∧ A'.get A.next = intB (deepAll ((hufP f).take i) (List.replicate f.length 0)) ∧ ρ 3 = .slice (some ⟨A.next, 0, none⟩) f.length f.length ∧ ρ 64 = v' ∧ ρ 65 = .int .i64 (hufP f).length ∧ ρ 66 = .int .i64 i) (hufP f).length
    ⟨_, 0, rfl, rfl, Nat.zero_le _, Nat.le_refl _, fun b _ _ => rfl, (y4 _ (by omega)).trans g.gl, by first | rfl | exact r3, rfl, rfl, rfl⟩ ?_
  clear r3 r4 r5 r8
  rintro m x A' ⟨ρ, i, rfl, hm, hi, n1, ov, gl, r3, r64, r65, r66⟩
  refine aw_of ?_
  have gnx := g.nx
  by_cases hend : i = (hufP f).length
  · have e1 : ¬ ((i : Int) < ((hufP f).length : Nat)) := by omega
    rw [hend, List.take_length] at gl
    simp (maxSteps := 1000000) (disch := first | omega | (simp only [z1, z2, z3, z4, z5, z6, z7] <;> omega) | fail) only [go_sem, r3, r64, r65, r66, e1, Try.results34]
    refine gc_here ⟨_, rfl, ⟨by omega, fun b hb => ?_⟩, ?_⟩
    · rw [ov b (by omega) (by omega), y4 b (by omega)]; exact g.ov b hb
    · have gl' : A'.get A.next = intB (grownP f) := gl
      refine ⟨by rw [flat_i64, List.length_map, Nat.mul_one], .inr ⟨A.next, none, by rw [grownP_len], .inl rfl, Nat.le_refl _, by omega, ?_⟩⟩
      rw [flat_i64]; exact gl'
  have e1 : (i : Int) < ((hufP f).length : Nat) := by omega
  obtain ⟨t, ht⟩ : ∃ t, (hufP f)[i]? = some t := ⟨_, List.getElem?_eq_getElem (by omega)⟩
  have htm := List.mem_of_getElem? ht
  have kk : KpN A2 A' := ⟨n1, fun k cs m hk hkk => ov k (fun e => by rw [e, y4 _ (by omega), g.gl] at hkk; injection hkk with e; injection e with _ e; exact absurd e (by decide)) hk⟩
  have y2' : QR A' (A.next + 3) (hufP f) v' := y2.kp kk fun b hb hlt => ov b (by have := (y2.rb b hb).1; omega) hlt
  obtain ⟨b, off, cells, x, z1, z2, z3, z4, z5, z6, z7⟩ := y2'.at ht
  have dl := deepAll_len ((hufP f).take i) (List.replicate f.length 0)
  rw [List.length_replicate] at dl
  have c := deepen_ok w0 A.next t A' x _ 0 z7 gl (fun s hs => by rw [dl]; exact hnn t htm s hs) (Int.le_refl _) (by have := hht t htm; omega) (by omega)
  rw [dl] at c
  simp (maxSteps := 1000000) (disch := first | omega | (simp only [z1, z2, z3, z4, z5, z6, z7] <;> omega) | fail) only [go_sem, r3, r64, r65, r66, e1, z1, z5, z6]
  refine call1 c ?_
  simp (maxSteps := 1000000) (disch := first | omega | (simp only [z1, z2, z3, z4, z5, z6, z7] <;> omega) | fail) only [go_sem, r66]
  refine ⟨m - 1, by omega, _, i + 1, rfl, by omega, by omega, n1, fun b h1 h2 => by rw [get_upd_old h1]; exact ov b h1 h2, ?_, ?_, ?_, ?_, ?_⟩
  · rw [List.take_add_one, ht]
    show _ = intB (deepAll (_ ++ [t]) _)
    rw [deepAll_snoc]
  · simp (maxSteps := 1000000) (disch := first | omega | (simp only [z1, z2, z3, z4, z5, z6, z7] <;> omega) | fail) only [go_sem, r3]
  · simp (maxSteps := 1000000) (disch := first | omega | (simp only [z1, z2, z3, z4, z5, z6, z7] <;> omega) | fail) only [go_sem, r64]
  · simp (maxSteps := 1000000) (disch := first | omega | (simp only [z1, z2, z3, z4, z5, z6, z7] <;> omega) | fail) only [go_sem, r65]
  · simp (maxSteps := 1000000) (disch := first | omega | (simp only [z1, z2, z3, z4, z5, z6, z7] <;> omega) | fail) only [go_sem]
    rfl
end Go.Fw

set_option linter.unusedSimpArgs false
set_option linter.unusedVariables false
set_option maxRecDepth 4000
namespace Go.Fw
open Go.Proofs Go.RowKit
/-! The tree by the list: which symbol lies how deep. -/
theorem srtK_split {l1 l2 : List HT} {x : HT} (h1 : ∀ y ∈ l1, x.wt < y.wt) (h2 : ∀ y ∈ l2, x.wt ≤ y.wt) : srtK HT.wt (l1 ++ x :: l2) = x :: srtK HT.wt (l1 ++ l2) := by
  symm
  refine srtK_of ?_ fun c => ?_
  · unfold Srtd
    rw [List.pairwise_cons]
    refine ⟨fun y hy => ?_, srtK_srtd _⟩
    rcases List.mem_append.1 (((srtK_same (k := HT.wt) (l1 ++ l2)).mem y).2 hy) with h | h
    · have := h1 y h; omega
    · exact h2 y h
  · have e := srtK_same (k := HT.wt) (l1 ++ l2) c
    rw [List.filter_append] at e
    rw [List.filter_append, List.filter_cons, List.filter_cons]
    by_cases hc : x.wt = c
    · have e1 : l1.filter (fun x => decide (x.wt = c)) = [] := List.filter_eq_nil_iff.2 fun y hy => by have := h1 y hy; simp; omega
      rw [if_pos (by simpa using hc), if_pos (by simpa using hc), ← e, e1]; rfl
    · rw [if_neg (by simpa using hc), if_neg (by simpa using hc), ← e]
def cntS (s : Nat) : HT → Int
  | .leaf _ j => if j = s then 1 else 0
  | .br _ a b => cntS s a + cntS s b
def dpt (s : Nat) : HT → Int
  | .leaf _ _ => 0
  | .br _ a b => (dpt s a + cntS s a) + (dpt s b + cntS s b)
theorem cntS_nn (s : Nat) : ∀ t : HT, 0 ≤ cntS s t
  | .leaf _ j => by unfold cntS; split <;> omega
  | .br _ a b => by have := cntS_nn s a; have := cntS_nn s b; unfold cntS; omega
theorem dpt_nn (s : Nat) : ∀ t : HT, 0 ≤ dpt s t
  | .leaf _ j => Int.le_refl _
  | .br _ a b => by have := cntS_nn s a; have := cntS_nn s b; have := dpt_nn s a; have := dpt_nn s b; unfold dpt; omega
theorem dpt_none (s : Nat) : ∀ t : HT, cntS s t = 0 → dpt s t = 0
  | .leaf _ j, _ => rfl
  | .br _ a b, h => by
    unfold cntS at h
    have := cntS_nn s a
    have := cntS_nn s b
    have := dpt_none s a (by omega)
    have := dpt_none s b (by omega)
    unfold dpt; omega
theorem dpt_ht (s : Nat) : ∀ t : HT, cntS s t ≤ 1 → dpt s t ≤ t.ht
  | .leaf _ j, _ => by unfold dpt HT.ht; omega
  | .br _ a b, h => by
    unfold cntS at h
    have h1 := cntS_nn s a
    have h2 := cntS_nn s b
    have i1 := dpt_ht s a (by omega)
    have i2 := dpt_ht s b (by omega)
    unfold dpt HT.ht
    by_cases ha : cntS s a = 0
    · have := dpt_none s a ha; omega
    · have := dpt_none s b (by omega); omega
theorem mem_syms_cnt (s : Nat) : ∀ t : HT, s ∈ t.syms ↔ 1 ≤ cntS s t
  | .leaf _ j => by
    unfold HT.syms cntS
    rw [List.mem_singleton]
    by_cases h : j = s
    · simp [h]
    · rw [if_neg h]; constructor
      · intro e; exact absurd e.symm h
      · intro e; omega
  | .br _ a b => by
    have := cntS_nn s a
    have := cntS_nn s b
    unfold HT.syms cntS
    rw [List.mem_append, mem_syms_cnt s a, mem_syms_cnt s b]
    omega
theorem deepL_at : ∀ (t : HT) (d : Int) (l : List Int) (s : Nat), cntS s t ≤ 1 → s < l.length → (deepL t d l)[s]? = if cntS s t = 1 then some (mx1 (d + dpt s t)) else l[s]?
  | .leaf w j, d, l, s, h, hs => by
    unfold deepL cntS dpt
    by_cases hj : j = s
    · subst hj
      simp [hs]
    · rw [if_neg hj, List.getElem?_set_ne hj]; simp
  | .br w a b, d, l, s, h, hs => by
    have h1 := cntS_nn s a
    have h2 := cntS_nn s b
    unfold cntS at h
    unfold deepL
    rw [deepL_at b (d + 1) _ s (by omega) (by rw [deepL_len]; exact hs), deepL_at a (d + 1) l s (by omega) hs]
    rw [show cntS s (.br w a b) = cntS s a + cntS s b from rfl, show dpt s (.br w a b) = (dpt s a + cntS s a) + (dpt s b + cntS s b) from rfl]
    by_cases hb : cntS s b = 1
    · have := dpt_none s a (by omega)
      rw [if_pos hb, if_pos (by omega)]
      congr 2; omega
    · rw [if_neg hb]
      by_cases ha : cntS s a = 1
      · have := dpt_none s b (by omega)
        rw [if_pos ha, if_pos (by omega)]
        congr 2; omega
      · rw [if_neg ha, if_neg (by omega)]
theorem sumG_insK (g : HT → Int) (k : HT → Int) : ∀ (s : List HT) (x : HT), sumG g (insK k s x) = g x + sumG g s
  | [], x => rfl
  | y :: s, x => by
    rw [insK]
    split
    · rw [sumG_cons, sumG_insK g k s x, sumG_cons]; omega
    · rfl
theorem sumG_huff (g : HT → Int) (hg : ∀ a b : HT, g (.br (a.wt + b.wt) a b) = g a + g b) : ∀ (k : Nat) (Q : List HT), sumG g (huff k Q) = sumG g Q
  | 0, Q => rfl
  | k + 1, [] => rfl
  | k + 1, [a] => rfl
  | k + 1, a :: b :: Q => by
    show sumG g (huff k _) = _
    rw [sumG_huff g hg k, sumG_insK, hg, sumG_cons, sumG_cons]; omega
/-- A symbol is one leaf, or none. -/
theorem leafs_cnt (s : Nat) : ∀ (f : List Int) (i : Nat), sumG (cntS s) (leafs f i) = if i ≤ s ∧ (∃ x, f[s - i]? = some x ∧ 0 < x) then 1 else 0
  | [], i => by
    rw [leafs, sumG_nil, if_neg]
    rintro ⟨_, x, h, _⟩
    cases h
  | y :: f, i => by
    have ih := leafs_cnt s f (i + 1)
    rw [leafs]
    by_cases his : i = s
    · subst his
      rw [if_neg (by omega)] at ih
      by_cases hy : 0 < y
      · rw [if_pos hy, sumG_cons, ih, if_pos ⟨Nat.le_refl _, y, by simp, hy⟩]
        simp [cntS]
      · rw [if_neg hy, ih, if_neg]
        rintro ⟨_, x, h, hx⟩
        simp at h
        subst h
        exact hy hx
    · have e : sumG (cntS s) (if 0 < y then .leaf y i :: leafs f (i + 1) else leafs f (i + 1)) = sumG (cntS s) (leafs f (i + 1)) := by
        split
        · rw [sumG_cons]; simp [cntS, his]
        · rfl
      rw [e, ih]
      by_cases hle : i ≤ s
      · obtain ⟨d, rfl⟩ : ∃ d, s = i + (d + 1) := ⟨s - i - 1, by omega⟩
        rw [show i + (d + 1) - (i + 1) = d by omega, show i + (d + 1) - i = d + 1 by omega, List.getElem?_cons_succ]
        by_cases hx : ∃ x, f[d]? = some x ∧ 0 < x
        · rw [if_pos ⟨by omega, hx⟩, if_pos ⟨by omega, hx⟩]
        · rw [if_neg (fun h => hx h.2), if_neg (fun h => hx h.2)]
      · rw [if_neg (by omega), if_neg (by omega)]
def usedP (f : List Int) (s : Nat) : Prop := ∃ x, f[s]? = some x ∧ 0 < x
theorem hufP_cnt (f : List Int) (s : Nat) : sumG (cntS s) (hufP f) = sumG (cntS s) (leafs f 0) := by
  unfold hufP; rw [sumG_huff _ (fun _ _ => rfl), sumG_srtK]
theorem hufP_used {f : List Int} {s : Nat} (h : usedP f s) : sumG (cntS s) (hufP f) = 1 := by
  rw [hufP_cnt, leafs_cnt, if_pos ⟨Nat.zero_le _, h⟩]
theorem hufP_unused {f : List Int} {s : Nat} (h : ¬ usedP f s) : sumG (cntS s) (hufP f) = 0 := by
  rw [hufP_cnt, leafs_cnt, if_neg fun e => h e.2]
theorem hufP_le1 (f : List Int) : (hufP f).length ≤ 1 := by
  unfold hufP
  exact huff_len _ _ (by rw [srtK_len]; have := leafs_len f 0; omega)
/-- No tree, or one. -/
theorem huff_ne : ∀ (k : Nat) (Q : List HT), Q ≠ [] → huff k Q ≠ []
  | 0, Q, h => h
  | k + 1, [], h => absurd rfl h
  | k + 1, [a], h => by rw [huff_small (by simp)]; simp
  | k + 1, a :: b :: Q, h => by
    show huff k _ ≠ []
    refine huff_ne k _ fun e => ?_
    have := congrArg List.length e
    rw [insK_len] at this
    simp at this
theorem hufP_none {f : List Int} (h : leafs f 0 = []) : hufP f = [] := by
  unfold hufP
  rw [h]
  exact huff_small (by rw [srtK_len]; simp) _
theorem hufP_one {f : List Int} {t : HT} (h : leafs f 0 = [t]) : hufP f = [t] := by
  unfold hufP
  rw [h]
  exact huff_small (by rw [srtK_len]; simp) _
theorem huff_br : ∀ (k : Nat) (Q : List HT), (∀ t ∈ Q, ∃ w a b, t = .br w a b) ∨ 2 ≤ Q.length → Q.length ≤ k + 1 → ∀ t ∈ huff k Q, ∃ w a b, t = .br w a b
  | 0, Q, h, hl => by
    rcases h with h | h
    · exact h
    · omega
  | k + 1, [], h, hl => by intro t ht; rw [huff_small (by simp)] at ht; cases ht
  | k + 1, [a], h, hl => by
    rw [huff_small (by simp)]
    rcases h with h | h
    · exact h
    · simp at h
  | k + 1, a :: b :: Q, h, hl => by
    show ∀ t ∈ huff k _, _
    refine huff_br k _ ?_ (by rw [insK_len]; simp at hl; omega)
    cases Q with
    | nil => exact .inl fun t ht => ⟨_, a, b, List.mem_singleton.1 ht⟩
    | cons c Q => exact .inr (by rw [insK_len]; simp)
theorem hufP_some {f : List Int} (h : leafs f 0 ≠ []) : ∃ t, hufP f = [t] := by
  have h1 := hufP_le1 f
  have h2 : hufP f ≠ [] := huff_ne _ _ fun e => h (List.length_eq_zero_iff.1 (by rw [← srtK_len (k := HT.wt), e]; rfl))
  match hq : hufP f, h1, h2 with
  | [t], _, _ => exact ⟨t, rfl⟩
  | [], _, h2 => exact absurd rfl h2
  | _ :: _ :: _, h1, _ => simp at h1
theorem hufP_br {f : List Int} (h : 2 ≤ (leafs f 0).length) : ∃ w a b, hufP f = [.br w a b] := by
  obtain ⟨t, ht⟩ := hufP_some (f := f) (fun e => by rw [e] at h; simp at h)
  have hm : t ∈ hufP f := by rw [ht]; exact List.mem_singleton.2 rfl
  obtain ⟨w, a, b, rfl⟩ := huff_br f.length (srtK HT.wt (leafs f 0)) (.inr (by rw [srtK_len]; exact h)) (by rw [srtK_len]; have := leafs_len f 0; omega) t hm
  exact ⟨w, a, b, ht⟩
theorem grownP_tree {f : List Int} {t : HT} (h : hufP f = [t]) : grownP f = deepL t 0 (List.replicate f.length 0) := by unfold grownP; rw [h]; rfl
theorem grownP_none {f : List Int} (h : hufP f = []) : grownP f = List.replicate f.length 0 := by unfold grownP; rw [h]; rfl
theorem hufP_cnt1 {f : List Int} {t : HT} (h : hufP f = [t]) (s : Nat) : cntS s t ≤ 1 ∧ (cntS s t = 1 ↔ usedP f s) := by
  by_cases hu : usedP f s
  · have := hufP_used hu
    rw [h, sumG_cons, sumG_nil] at this
    exact ⟨by omega, fun _ => hu, fun _ => by omega⟩
  · have := hufP_unused hu
    rw [h, sumG_cons, sumG_nil] at this
    exact ⟨by omega, fun h => by omega, fun h => absurd h hu⟩
/-- By two leaves or more the lengths are the depths. -/
theorem out_grown {f o : List Int} (h : (leafs f 0).length ≠ 1) (hl : o.length = f.length) (ho : ∀ s, s < f.length → o[s]? = some (sumG (dpt s) (hufP f))) : o = grownP f := by
  refine List.ext_getElem? fun s => ?_
  by_cases hs : s < f.length
  · rw [ho s hs]
    by_cases h0 : leafs f 0 = []
    · rw [grownP_none (hufP_none h0), hufP_none h0, sumG_nil, List.getElem?_replicate, if_pos hs]
    · have h2 : 2 ≤ (leafs f 0).length := by
        cases hq : leafs f 0 with
        | nil => exact absurd hq h0
        | cons a l =>
          cases l with
          | nil => rw [hq] at h; simp at h
          | cons b l => simp
      obtain ⟨w, a, b, ht⟩ := hufP_br h2
      have hc := (hufP_cnt1 ht s).1
      rw [grownP_tree ht, deepL_at _ _ _ _ hc (by rw [List.length_replicate]; exact hs), ht, sumG_cons, sumG_nil, List.getElem?_replicate, if_pos hs, Int.zero_add, Int.add_zero]
      by_cases hc1 : cntS s (.br w a b) = 1
      · rw [if_pos hc1]
        have h1 : 1 ≤ dpt s (.br w a b) := by
          have := dpt_nn s a
          have := dpt_nn s b
          unfold cntS at hc1
          unfold dpt; omega
        unfold mx1
        split
        · congr 1; omega
        · rfl
      · rw [if_neg hc1, dpt_none s _ (by have := cntS_nn s (.br w a b); omega)]
  · rw [List.getElem?_eq_none (by omega), List.getElem?_eq_none (by rw [grownP_len]; omega)]
theorem one_grown {f : List Int} {w : Int} {j : Nat} (h : leafs f 0 = [.leaf w j]) : grownP f = (List.replicate f.length 0).set j 1 := by
  rw [grownP_tree (hufP_one h)]; rfl
end Go.Fw
