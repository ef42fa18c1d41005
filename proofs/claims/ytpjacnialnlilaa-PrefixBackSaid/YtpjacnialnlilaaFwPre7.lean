import Derived.Test.YtpjacnialnlilaaFwPre6
set_option linter.unusedSimpArgs false
set_option linter.unusedVariables false
set_option maxRecDepth 4000
namespace Go.Fw
open Go.Proofs Go.RowKit
/-! Trees of symbols: what their making comes to; how they lie. -/
def InView (A : St) (l : List Int) (v : Value) : Prop := View A 1 (l.flatMap i64E) l.length v
def InRow (A : St) (lo : Nat) (l : List Int) (v : Value) : Prop := Row A 3 1 lo (l.flatMap i64E) l.length v
inductive HT where
  | leaf (w : Int) (s : Nat)
  | br (w : Int) (l r : HT)
def HT.wt : HT → Int
  | .leaf w _ => w
  | .br w _ _ => w
def HT.syms : HT → List Nat
  | .leaf _ s => [s]
  | .br _ l r => l.syms ++ r.syms
def leafs : List Int → Nat → List HT
  | [], _ => []
  | f :: fs, i => if 0 < f then .leaf f i :: leafs fs (i + 1) else leafs fs (i + 1)
theorem leafs_app : ∀ (l : List Int) (x : Int) (i : Nat), leafs (l ++ [x]) i = if 0 < x then leafs l i ++ [.leaf x (i + l.length)] else leafs l i
  | [], x, i => by
    by_cases hx : 0 < x <;> simp [leafs, hx]
  | f :: l, x, i => by
    have ih := leafs_app l x (i + 1)
    rw [List.cons_append, leafs, ih, List.length_cons, show i + 1 + l.length = i + (l.length + 1) by omega, leafs]
    by_cases hf : 0 < f <;> by_cases hx : 0 < x <;> simp [hf, hx]
/-- The making of the tree: the two lightest ones become one, till there is one. -/
def huff : Nat → List HT → List HT
  | 0, Q => Q
  | k + 1, a :: b :: Q => huff k (insK HT.wt Q (.br (a.wt + b.wt) a b))
  | _ + 1, Q => Q
theorem huff_small {Q : List HT} (h : Q.length ≤ 1) : ∀ k, huff k Q = Q
  | 0 => rfl
  | k + 1 => by
    match Q, h with
    | [], _ => rfl
    | [a], _ => rfl
theorem huff_len : ∀ (k : Nat) (Q : List HT), Q.length ≤ k + 1 → (huff k Q).length ≤ 1
  | 0, Q, h => h
  | k + 1, Q, h => by
    match Q, h with
    | [], _ => simp [huff]
    | [a], _ => simp [huff]
    | a :: b :: Q, h => exact huff_len k _ (by rw [insK_len]; simp at h; omega)
theorem huff_fuel : ∀ (k : Nat) (Q : List HT), Q.length ≤ k + 1 → ∀ k', k ≤ k' → huff k' Q = huff k Q
  | 0, Q, h, k', _ => by rw [huff_small h k']; rfl
  | k + 1, Q, h, k', hk => by
    obtain ⟨j, rfl⟩ : ∃ j, k' = j + 1 := ⟨k' - 1, by omega⟩
    match Q, h with
    | [], _ => rfl
    | [a], _ => rfl
    | a :: b :: Q, h => exact huff_fuel k _ (by rw [insK_len]; simp at h; omega) j (by omega)
def mx1 (d : Int) : Int := if 1 > d then 1 else d
def deepL : HT → Int → List Int → List Int
  | .leaf _ s, d, l => l.set s (mx1 d)
  | .br _ a b, d, l => deepL b (d + 1) (deepL a (d + 1) l)
theorem deepL_len : ∀ (t : HT) (d : Int) (l : List Int), (deepL t d l).length = l.length
  | .leaf _ s, d, l => List.length_set ..
  | .br _ a b, d, l => by unfold deepL; rw [deepL_len b, deepL_len a]
def deepAll (Q : List HT) (l : List Int) : List Int := Q.foldl (fun l t => deepL t 0 l) l
def hufP (f : List Int) : List HT := huff f.length (srtK HT.wt (leafs f 0))
/-- The lengths by some weights. -/
def grownP (f : List Int) : List Int := deepAll (hufP f) (List.replicate f.length 0)
theorem deepAll_len : ∀ (Q : List HT) (l : List Int), (deepAll Q l).length = l.length
  | [], l => rfl
  | t :: Q, l => by unfold deepAll; rw [List.foldl_cons]; exact (deepAll_len Q _).trans (deepL_len t 0 l)
theorem grownP_len (f : List Int) : (grownP f).length = f.length := by unfold grownP; rw [deepAll_len, List.length_replicate]
theorem leafs_len : ∀ (f : List Int) (i : Nat), (leafs f i).length ≤ f.length
  | [], i => by simp [leafs]
  | x :: f, i => by
    unfold leafs
    have := leafs_len f (i + 1)
    split <;> simp <;> omega
/-- Two rows of trees as one, by weight, the first one's ahead. -/
def mrg : List HT → List HT → List HT
  | [], P => P
  | a :: L, [] => a :: L
  | a :: L, p :: P => if a.wt ≤ p.wt then a :: mrg L (p :: P) else p :: mrg (a :: L) P
termination_by L P => L.length + P.length
theorem mrg_nil (P : List HT) : mrg [] P = P := by rw [mrg]
theorem mrg_nil2 (L : List HT) : mrg L [] = L := by cases L <;> rw [mrg]
theorem mrg_le {a p : HT} {L P : List HT} (h : a.wt ≤ p.wt) : mrg (a :: L) (p :: P) = a :: mrg L (p :: P) := by rw [mrg, if_pos h]
theorem mrg_gt {a p : HT} {L P : List HT} (h : ¬ a.wt ≤ p.wt) : mrg (a :: L) (p :: P) = p :: mrg (a :: L) P := by rw [mrg, if_neg h]
theorem insK_all {α : Type} {k : α → Int} : ∀ {s : List α} {x : α}, (∀ y ∈ s, k y ≤ k x) → insK k s x = s ++ [x]
  | [], x, _ => rfl
  | y :: s, x, h => by rw [insK, if_pos (h y (List.mem_cons_self ..)), insK_all fun z hz => h z (List.mem_cons_of_mem _ hz)]; rfl
theorem mrg_ins (t : HT) : ∀ (L P : List HT), (∀ p ∈ P, p.wt ≤ t.wt) → insK HT.wt (mrg L P) t = mrg L (P ++ [t])
  | [], P, h => by rw [mrg_nil, mrg_nil]; exact insK_all h
  | a :: L, [], h => by
    rw [mrg_nil2, List.nil_append, insK]
    by_cases hat : a.wt ≤ t.wt
    · rw [if_pos hat, mrg_le hat]
      have := mrg_ins t L [] (fun p hp => by cases hp)
      rw [mrg_nil2, List.nil_append] at this
      rw [this]
    · rw [if_neg hat, mrg_gt hat, mrg_nil2]
  | a :: L, p :: P, h => by
    have hp := h p (List.mem_cons_self ..)
    by_cases hap : a.wt ≤ p.wt
    · rw [mrg_le hap, List.cons_append, mrg_le hap, insK, if_pos (by omega)]
      congr 1
      exact mrg_ins t L (p :: P) h
    · rw [mrg_gt hap, List.cons_append, mrg_gt hap, insK, if_pos hp]
      congr 1
      exact mrg_ins t (a :: L) P fun q hq => h q (List.mem_cons_of_mem _ hq)
termination_by L P => L.length + P.length
/-- What holds between the rows of the making: x, y are the last two weights that were taken. -/
structure HInv (L P : List HT) : Prop where
  sl : Srtd HT.wt L
  sp : Srtd HT.wt P
  top : ∃ x y : Int, 0 ≤ x ∧ x ≤ y ∧ (∀ p ∈ P, p.wt ≤ x + y) ∧ (∀ q ∈ L, y ≤ q.wt) ∧ ∀ q ∈ P, y ≤ q.wt
/-- The lightest one, and what is left. -/
def popL : List HT → List HT → Option (HT × List HT × List HT)
  | [], [] => none
  | a :: L, [] => some (a, L, [])
  | [], p :: P => some (p, [], P)
  | a :: L, p :: P => if a.wt ≤ p.wt then some (a, L, p :: P) else some (p, a :: L, P)
theorem popL_cc (a : HT) (L : List HT) (p : HT) (P : List HT) : popL (a :: L) (p :: P) = if a.wt ≤ p.wt then some (a, L, p :: P) else some (p, a :: L, P) := rfl
theorem popL_mrg {L P : List HT} {t : HT} {L' P' : List HT} (h : popL L P = some (t, L', P')) : mrg L P = t :: mrg L' P' := by
  match L, P, h with
  | a :: L, [], h => cases h; rw [mrg_nil2, mrg_nil2]
  | [], p :: P, h => cases h; rw [mrg_nil, mrg_nil]
  | a :: L, p :: P, h =>
    rw [popL_cc] at h
    split at h
    · rename_i hle; cases h; rw [mrg_le hle]
    · rename_i hle; cases h; rw [mrg_gt hle]
theorem popL_some {L P : List HT} (h : 0 < L.length + P.length) : ∃ t L' P', popL L P = some (t, L', P') ∧ L'.length + P'.length + 1 = L.length + P.length := by
  match L, P, h with
  | a :: L, [], _ => exact ⟨_, _, _, rfl, by simp⟩
  | [], p :: P, _ => exact ⟨_, _, _, rfl, by simp⟩
  | a :: L, p :: P, _ =>
    rw [popL_cc]
    by_cases hle : a.wt ≤ p.wt
    · exact ⟨_, _, _, if_pos hle, by simp; omega⟩
    · exact ⟨_, _, _, if_neg hle, by simp; omega⟩
theorem popL_part {L P : List HT} {t : HT} {L' P' : List HT} (h : popL L P = some (t, L', P')) : (∀ q ∈ L', q ∈ L) ∧ (∀ q ∈ P', q ∈ P) ∧ (t ∈ L ∨ t ∈ P) ∧ (Srtd HT.wt L → Srtd HT.wt L') ∧ (Srtd HT.wt P → Srtd HT.wt P') ∧ (Srtd HT.wt L → Srtd HT.wt P → (∀ q ∈ L', t.wt ≤ q.wt) ∧ ∀ q ∈ P', t.wt ≤ q.wt) := by
  unfold Srtd
  match L, P, h with
  | a :: L, [], h =>
    cases h
    refine ⟨fun q hq => List.mem_cons_of_mem _ hq, fun q hq => hq, .inl (List.mem_cons_self ..), fun h => (List.pairwise_cons.1 h).2, fun h => h, fun h _ => ⟨(List.pairwise_cons.1 h).1, fun q hq => by cases hq⟩⟩
  | [], p :: P, h =>
    cases h
    refine ⟨fun q hq => hq, fun q hq => List.mem_cons_of_mem _ hq, .inr (List.mem_cons_self ..), fun h => h, fun h => (List.pairwise_cons.1 h).2, fun _ h => ⟨fun q hq => (by cases hq), (List.pairwise_cons.1 h).1⟩⟩
  | a :: L, p :: P, h =>
    rw [popL_cc] at h
    split at h
    · rename_i hle
      cases h
      refine ⟨fun q hq => List.mem_cons_of_mem _ hq, fun q hq => hq, .inl (List.mem_cons_self ..), fun h => (List.pairwise_cons.1 h).2, fun h => h, fun h1 h2 => ⟨(List.pairwise_cons.1 h1).1, fun q hq => ?_⟩⟩
      rcases List.mem_cons.1 hq with rfl | hq
      · exact hle
      · have := (List.pairwise_cons.1 h2).1 q hq; omega
    · rename_i hle
      cases h
      refine ⟨fun q hq => hq, fun q hq => List.mem_cons_of_mem _ hq, .inr (List.mem_cons_self ..), fun h => h, fun h => (List.pairwise_cons.1 h).2, fun h1 h2 => ⟨fun q hq => ?_, (List.pairwise_cons.1 h2).1⟩⟩
      rcases List.mem_cons.1 hq with rfl | hq
      · omega
      · have := (List.pairwise_cons.1 h1).1 q hq; omega
/-- One step of the making. -/
theorem HInv.step {L P : List HT} (h : HInv L P) {a b : HT} {L1 P1 L2 P2 : List HT} (h1 : popL L P = some (a, L1, P1)) (h2 : popL L1 P1 = some (b, L2, P2)) : HInv L2 (P2 ++ [.br (a.wt + b.wt) a b]) ∧ ∀ k, huff (k + 1) (mrg L P) = huff k (mrg L2 (P2 ++ [.br (a.wt + b.wt) a b])) := by
  obtain ⟨x, y, x0, xy, hp, hl, hq⟩ := h.top
  obtain ⟨a1, a2, a3, a4, a5, a6⟩ := popL_part h1
  obtain ⟨b1, b2, b3, b4, b5, b6⟩ := popL_part h2
  obtain ⟨c1, c2⟩ := a6 h.sl h.sp
  obtain ⟨d1, d2⟩ := b6 (a4 h.sl) (a5 h.sp)
  have ya : y ≤ a.wt := by rcases a3 with h | h; exact hl a h; exact hq a h
  have ab : a.wt ≤ b.wt := by rcases b3 with h | h; exact c1 b h; exact c2 b h
  have hP2 : ∀ p ∈ P2, p.wt ≤ a.wt + b.wt := fun p hp2 => by have := hp p (a2 p (b2 p hp2)); omega
  refine ⟨⟨b4 (a4 h.sl), ?_, a.wt, b.wt, by omega, ab, ?_, d1, ?_⟩, fun k => ?_⟩
  · unfold Srtd
    rw [List.pairwise_append]
    exact ⟨b5 (a5 h.sp), by simp, fun p hp2 q hq2 => by rw [List.mem_singleton.1 hq2]; exact hP2 p hp2⟩
  · intro p hp2
    rcases List.mem_append.1 hp2 with hp2 | hp2
    · exact hP2 p hp2
    · rw [List.mem_singleton.1 hp2]; exact Int.le_refl _
  · intro p hp2
    rcases List.mem_append.1 hp2 with hp2 | hp2
    · exact d2 p hp2
    · rw [List.mem_singleton.1 hp2]; show b.wt ≤ a.wt + b.wt; omega
  · rw [popL_mrg h1, popL_mrg h2]
    show huff k (insK HT.wt (mrg L2 P2) (.br (a.wt + b.wt) a b)) = _
    rw [mrg_ins _ _ _ hP2]
def sumG (g : HT → Int) (l : List HT) : Int := l.foldr (fun t n => g t + n) 0
theorem sumG_cons (g : HT → Int) (t : HT) (l : List HT) : sumG g (t :: l) = g t + sumG g l := rfl
theorem sumG_nil (g : HT → Int) : sumG g [] = 0 := rfl
theorem sumG_app (g : HT → Int) : ∀ (l m : List HT), sumG g (l ++ m) = sumG g l + sumG g m
  | [], m => by rw [List.nil_append, sumG_nil]; omega
  | t :: l, m => by rw [List.cons_append, sumG_cons, sumG_cons, sumG_app g l m]; omega
theorem sumG_pop (g : HT → Int) {L P : List HT} {t : HT} {L' P' : List HT} (h : popL L P = some (t, L', P')) : sumG g L + sumG g P = g t + (sumG g L' + sumG g P') := by
  match L, P, h with
  | a :: L, [], h => cases h; rw [sumG_cons, sumG_nil]; omega
  | [], p :: P, h => cases h; rw [sumG_cons, sumG_nil]; omega
  | a :: L, p :: P, h =>
    rw [popL_cc] at h
    split at h
    · cases h; rw [sumG_cons, sumG_cons]; omega
    · cases h; rw [sumG_cons, sumG_cons]; omega
theorem sumG_nn (g : HT → Int) {l : List HT} (h : ∀ t ∈ l, 0 ≤ g t) : 0 ≤ sumG g l := by
  induction l with
  | nil => exact Int.le_refl _
  | cons t l ih =>
    have h1 := h t (List.mem_cons_self ..)
    have h2 := ih fun q hq => h q (List.mem_cons_of_mem _ hq)
    rw [sumG_cons]; omega
def HT.cnt (t : HT) : Int := (t.syms.length : Nat)
def HT.ht : HT → Nat
  | .leaf _ _ => 0
  | .br _ l r => max l.ht r.ht + 1
theorem ht_cnt : ∀ t : HT, (t.ht : Int) + 1 ≤ t.cnt
  | .leaf _ _ => by unfold HT.ht HT.cnt HT.syms; simp
  | .br _ l r => by
    have h1 := ht_cnt l
    have h2 := ht_cnt r
    unfold HT.cnt at *
    unfold HT.ht HT.syms
    rw [List.length_append]
    omega
/-! How they lie. -/
def nodC (w : Int) (s : Nat) (l r : Value) : Blk := .cells [.int .i64 w, .int .i64 s, l, r] 82 (some 0)
def TrA (A : St) : HT → Value → Prop
  | .leaf w s, v => ∃ k, v = .pointer (some ⟨k, 0, none⟩) ∧ k < A.next ∧ A.get k = some (nodC w s (.pointer none) (.pointer none))
  | .br w l r, v => ∃ k kl kr, v = .pointer (some ⟨k, 0, none⟩) ∧ k < A.next ∧ A.get k = some (nodC w 0 (.pointer (some ⟨kl, 0, none⟩)) (.pointer (some ⟨kr, 0, none⟩))) ∧ TrA A l (.pointer (some ⟨kl, 0, none⟩)) ∧ TrA A r (.pointer (some ⟨kr, 0, none⟩))
/-- Nodes stay. -/
def KpN (A A' : St) : Prop := A.next ≤ A'.next ∧ ∀ k cs m, k < A.next → A.get k = some (.cells cs 82 m) → A'.get k = A.get k
theorem KpN.trans {A B C : St} (h : KpN A B) (h' : KpN B C) : KpN A C := ⟨Nat.le_trans h.1 h'.1, fun k cs m hlt hk => by
  have e := h.2 k cs m hlt hk
  exact (h'.2 k cs m (Nat.lt_of_lt_of_le hlt h.1) (e.trans hk)).trans e⟩
theorem KpN.refl (A : St) : KpN A A := ⟨Nat.le_refl _, fun _ _ _ _ _ => rfl⟩
theorem KpN.over {A A' : St} (o : Over A A') : KpN A A' := ⟨o.next, fun k cs m hlt hk => o.get k hlt⟩
theorem KpN.alloc {A B : St} (h : KpN A B) (X : Blk) : KpN A (B.alloc X) := ⟨Nat.le_trans h.1 (by rw [nx_alloc]; omega), fun k cs m hlt hk => by
  rw [get_alloc_old (Nat.lt_of_lt_of_le hlt h.1)]; exact h.2 k cs m hlt hk⟩
theorem KpN.upd {A B : St} (h : KpN A B) {b : Nat} (hb : ∀ cs m, A.get b ≠ some (.cells cs 82 m)) (X : Option Blk) : KpN A (B.upd b X) := ⟨h.1, fun k cs m hlt hk => by
  rw [get_upd_old (fun e => hb cs m (by rw [← e]; exact hk))]; exact h.2 k cs m hlt hk⟩
theorem TrA.kp {A A' : St} (h : KpN A A') : ∀ {t : HT} {v : Value}, TrA A t v → TrA A' t v
  | .leaf w s, v, ⟨k, e, h1, h2⟩ => ⟨k, e, Nat.lt_of_lt_of_le h1 h.1, (h.2 k _ _ h1 h2).trans h2⟩
  | .br w l r, v, ⟨k, kl, kr, e, h1, h2, h3, h4⟩ => ⟨k, kl, kr, e, Nat.lt_of_lt_of_le h1 h.1, (h.2 k _ _ h1 h2).trans h2, TrA.kp h h3, TrA.kp h h4⟩
theorem TrA.ptr {A : St} {t : HT} {v : Value} (h : TrA A t v) : ∃ k sy l r, v = .pointer (some ⟨k, 0, none⟩) ∧ k < A.next ∧ A.get k = some (nodC t.wt sy l r) := by
  match t, h with
  | .leaf w s, ⟨k, e, h1, h2⟩ => exact ⟨k, s, _, _, e, h1, h2⟩
  | .br w l r, ⟨k, kl, kr, e, h1, h2, _, _⟩ => exact ⟨k, 0, _, _, e, h1, h2⟩
/-- A node's weight. -/
def wtA (A : St) (v : Value) : Int := match v with
  | .pointer (some ⟨k, _, _⟩) => match A.get k with
    | some (.cells (.int _ w :: _) _ _) => w
    | _ => 0
  | _ => 0
theorem TrA.wt {A : St} {t : HT} {v : Value} (h : TrA A t v) : wtA A v = t.wt := by
  obtain ⟨k, sy, l, r, rfl, _, hk⟩ := h.ptr
  unfold nodC at hk
  simp only [wtA, hk]
def DT (A : St) (x : Value) : Prop := ∃ t, TrA A t x ∧ 0 ≤ t.wt ∧ t.wt ≤ 1099511627776
theorem DT.one {A : St} {x : Value} (h : DT A x) : one1 x = true := by
  obtain ⟨t, h, _⟩ := h
  obtain ⟨k, sy, l, r, rfl, _⟩ := h.ptr
  rfl
theorem Try.enters40 : Enters Try.prog 40 := enters_of Try.func40 rfl (by kernel_rfl)
theorem cmp_ok (w0 : World) (A : St) (b : Nat) (hb : ∀ cs m, A.get b ≠ some (.cells cs 82 m)) : CmpOk w0 A b (wtA A) (DT A) := by
  rintro cs x y ⟨t, ht, t0, t1⟩ ⟨u, hu, u0, u1⟩
  rw [ht.wt, hu.wt]
  obtain ⟨k, sy, l, r, rfl, hk1, hk⟩ := ht.ptr
  obtain ⟨k', sy', l', r', rfl, hk1', hk'⟩ := hu.ptr
  have n1 : k ≠ b := fun e => hb _ _ (by rw [← e]; exact hk)
  have n2 : k' ≠ b := fun e => hb _ _ (by rw [← e]; exact hk')
  refine call_E (l := [.pointer (some ⟨k, 0, none⟩), .pointer (some ⟨k', 0, none⟩)]) Try.enters40 Try.func40 rfl (Nat.le_of_ble_eq_true rfl) fun hw hbd => ?_
  have g1 : (A.upd b (nodB cs)).get k = some (nodC t.wt sy l r) := by rw [get_upd_old n1]; exact hk
  have g2 : (A.upd b (nodB cs)).get k' = some (nodC u.wt sy' l' r') := by rw [get_upd_old n2]; exact hk'
  unfold nodC at g1 g2
  simp (maxSteps := 1000000) (disch := (first | omega | (simp only [nx_alloc, nx_upd, len_cons, len_nil, List.length_set, List.length_map, List.length_append] <;> omega) | fail)) only [go_sem, Try.ntmps40, Try.results40]
  refine aw_draw (by kernel_rfl) ?_
  simp (maxSteps := 1000000) (disch := (first | omega | (simp only [nx_alloc, nx_upd, len_cons, len_nil, List.length_set, List.length_map, List.length_append] <;> omega) | fail)) only [go_sem, g1, g2, Try.results40]
  exact gc_here ⟨rfl, rfl⟩
end Go.Fw
