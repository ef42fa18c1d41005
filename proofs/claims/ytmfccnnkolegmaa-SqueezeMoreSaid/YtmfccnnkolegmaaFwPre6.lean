import Derived.Test.YtmfccnnkolegmaaFwFacts
import Derived.Test.YtmfccnnkolegmaaFw39
set_option linter.unusedSimpArgs false
set_option linter.unusedVariables false
set_option maxRecDepth 4000
namespace Go.Fw
open Go.Proofs Go.RowKit
/-! Sorting of rows: what a stable sort is, and slices.insertionSortCmpFunc. -/
theorem upd_upd (A : St) (b : Nat) (X Y : Option Blk) : (A.upd b X).upd b Y = A.upd b Y := by
  refine St.ext (fun m => ?_) rfl
  simp only [St.get_upd]
  split <;> rfl
section
variable {α : Type} (k : α → Int)
def Srtd (l : List α) : Prop := l.Pairwise fun x y => k x ≤ k y
/-- The same things of each key, in the same order. -/
def SameF (l m : List α) : Prop := ∀ c : Int, l.filter (fun x => decide (k x = c)) = m.filter (fun x => decide (k x = c))
theorem SameF.refl (l : List α) : SameF k l l := fun _ => rfl
variable {k}
theorem SameF.symm {l m : List α} (h : SameF k l m) : SameF k m l := fun c => (h c).symm
theorem SameF.trans {l m n : List α} (h : SameF k l m) (h' : SameF k m n) : SameF k l n := fun c => (h c).trans (h' c)
theorem SameF.app {a a' b b' : List α} (h : SameF k a a') (h' : SameF k b b') : SameF k (a ++ b) (a' ++ b') := fun c => by rw [List.filter_append, List.filter_append, h c, h' c]
theorem SameF.swap {u v : List α} (h : ∀ x ∈ u, ∀ y ∈ v, k x ≠ k y) : SameF k (u ++ v) (v ++ u) := fun c => by
  rw [List.filter_append, List.filter_append]
  by_cases hu : ∃ x ∈ u, k x = c
  · obtain ⟨x, hx, rfl⟩ := hu
    have : v.filter (fun y => decide (k y = k x)) = [] := List.filter_eq_nil_iff.2 fun y hy => by simp; exact fun e => h x hx y hy e.symm
    rw [this, List.append_nil, List.nil_append]
  · have : u.filter (fun y => decide (k y = c)) = [] := List.filter_eq_nil_iff.2 fun y hy => by simp; exact fun e => hu ⟨y, hy, e⟩
    rw [this, List.append_nil, List.nil_append]
theorem SameF.mem {l m : List α} (h : SameF k l m) (x : α) : x ∈ l ↔ x ∈ m := by
  have := congrArg (x ∈ ·) (h (k x))
  simpa using this
theorem SameF.nil {l : List α} (h : SameF k l []) : l = [] := by
  cases l with
  | nil => rfl
  | cons x l => exact absurd ((h.mem x).1 (List.mem_cons_self ..)) (by simp)
theorem srtd_unique : ∀ {l m : List α}, Srtd k l → Srtd k m → SameF k l m → l = m
  | [], m, _, _, h => h.symm.nil.symm
  | x :: l, [], _, _, h => h.nil
  | x :: l, y :: m, hl, hm, h => by
    unfold Srtd at hl hm
    rw [List.pairwise_cons] at hl hm
    have hxy : k x = k y := by
      have hx := (h.mem x).1 (List.mem_cons_self ..)
      have hy := (h.mem y).2 (List.mem_cons_self ..)
      rcases List.mem_cons.1 hx with rfl | hx
      · rfl
      · rcases List.mem_cons.1 hy with rfl | hy
        · rfl
        · have := hm.1 x hx; have := hl.1 y hy; omega
    have he := h (k x)
    rw [List.filter_cons_of_pos (by simp), List.filter_cons_of_pos (by simp [hxy])] at he
    injection he with he1 he2
    subst he1
    rw [srtd_unique hl.2 hm.2 fun c => ?_]
    by_cases hc : k x = c
    · subst hc; exact he2
    · have := h c
      rw [List.filter_cons_of_neg (by simp [hc]), List.filter_cons_of_neg (by simp [hc])] at this
      exact this
variable (k)
/-- Put behind all that are no more. -/
def insK : List α → α → List α
  | [], x => [x]
  | y :: s, x => if k y ≤ k x then y :: insK s x else x :: y :: s
def srtK (l : List α) : List α := l.foldl (insK k) []
variable {k}
theorem insK_mem : ∀ (s : List α) (x z : α), z ∈ insK k s x ↔ z = x ∨ z ∈ s
  | [], x, z => by simp [insK]
  | y :: s, x, z => by
    unfold insK
    split
    · rw [List.mem_cons, insK_mem s x z, List.mem_cons]
      constructor
      · rintro (h | h | h)
        · exact .inr (.inl h)
        · exact .inl h
        · exact .inr (.inr h)
      · rintro (h | h | h)
        · exact .inr (.inl h)
        · exact .inl h
        · exact .inr (.inr h)
    · rw [List.mem_cons]
theorem insK_len : ∀ (s : List α) (x : α), (insK k s x).length = s.length + 1
  | [], x => rfl
  | y :: s, x => by
    unfold insK
    split
    · rw [List.length_cons, insK_len s x, List.length_cons]
    · rfl
theorem insK_srtd : ∀ {s : List α} (x : α), Srtd k s → Srtd k (insK k s x)
  | [], x, _ => by unfold insK Srtd; simp
  | y :: s, x, h => by
    unfold Srtd at h
    rw [List.pairwise_cons] at h
    unfold insK
    split
    · rename_i hyx
      unfold Srtd
      rw [List.pairwise_cons]
      refine ⟨fun z hz => ?_, insK_srtd x h.2⟩
      rcases (insK_mem s x z).1 hz with rfl | hz
      · exact hyx
      · exact h.1 z hz
    · rename_i hyx
      unfold Srtd
      rw [List.pairwise_cons, List.pairwise_cons]
      refine ⟨fun z hz => ?_, h⟩
      rcases List.mem_cons.1 hz with rfl | hz
      · omega
      · have := h.1 z hz; omega
theorem insK_same : ∀ {s : List α} (x : α), Srtd k s → SameF k (s ++ [x]) (insK k s x)
  | [], x, _ => SameF.refl k _
  | y :: s, x, h => by
    have h' := h
    unfold Srtd at h
    rw [List.pairwise_cons] at h
    unfold insK
    split
    · exact SameF.app (a := [y]) (SameF.refl k _) (insK_same x h.2)
    · rename_i hyx
      exact SameF.swap (u := y :: s) (v := [x]) fun a ha b hb => by
        rw [List.mem_singleton.1 hb]
        rcases List.mem_cons.1 ha with rfl | ha
        · omega
        · have := h.1 a ha; omega
theorem insK_split : ∀ {s1 s2 : List α} {x : α}, Srtd k (s1 ++ s2) → (∀ y ∈ s2, k x < k y) → (∀ y ∈ s1, k y ≤ k x) → insK k (s1 ++ s2) x = s1 ++ x :: s2
  | [], [], x, _, _, _ => rfl
  | [], y :: s2, x, _, h2, _ => by
    have := h2 y (List.mem_cons_self ..)
    rw [List.nil_append, insK, if_neg (by omega)]; rfl
  | y :: s1, s2, x, h, h2, h1 => by
    unfold Srtd at h
    rw [List.cons_append, List.pairwise_cons] at h
    rw [List.cons_append, insK, if_pos (h1 y (List.mem_cons_self ..)), insK_split h.2 h2 fun z hz => h1 z (List.mem_cons_of_mem _ hz)]; rfl
theorem foldl_ins (l : List α) : ∀ {s : List α}, Srtd k s → Srtd k (l.foldl (insK k) s) ∧ SameF k (s ++ l) (l.foldl (insK k) s) ∧ (l.foldl (insK k) s).length = s.length + l.length := by
  induction l with
  | nil => intro s h; exact ⟨h, by rw [List.append_nil]; exact SameF.refl k _, rfl⟩
  | cons x l ih =>
    intro s h
    obtain ⟨h1, h2, h3⟩ := ih (insK_srtd x h)
    refine ⟨h1, ?_, ?_⟩
    · rw [show s ++ x :: l = (s ++ [x]) ++ l by simp]
      exact (SameF.app (insK_same x h) (SameF.refl k l)).trans h2
    · rw [List.foldl_cons, h3, insK_len, List.length_cons]; omega
theorem srtK_srtd (l : List α) : Srtd k (srtK k l) := (foldl_ins l (s := []) .nil).1
theorem srtK_same (l : List α) : SameF k l (srtK k l) := (foldl_ins l (s := []) .nil).2.1
theorem srtK_len (l : List α) : (srtK k l).length = l.length := by have := (foldl_ins (k := k) l (s := []) .nil).2.2; simpa [srtK] using this
theorem srtK_app (l : List α) (x : α) : srtK k (l ++ [x]) = insK k (srtK k l) x := by unfold srtK; rw [List.foldl_append]; rfl
theorem srtK_of {l m : List α} (h1 : Srtd k m) (h2 : SameF k l m) : m = srtK k l := srtd_unique h1 (srtK_srtd l) (h2.symm.trans (srtK_same l))
end
theorem at_app {α : Type} (p : List α) (x : α) (q : List α) : (p ++ x :: q)[p.length]? = some x := by rw [List.getElem?_append_right (Nat.le_refl _), Nat.sub_self]; rfl
theorem at_app1 {α : Type} (p : List α) (y x : α) (q : List α) : (p ++ y :: x :: q)[p.length + 1]? = some x := by rw [List.getElem?_append_right (by omega), show p.length + 1 - p.length = 1 by omega]; rfl
theorem set_app {α : Type} (p : List α) (x z : α) (q : List α) : (p ++ x :: q).set p.length z = p ++ z :: q := by rw [List.set_append_right _ _ (Nat.le_refl _), Nat.sub_self]; rfl
theorem set_app1 {α : Type} (p : List α) (y x z : α) (q : List α) : (p ++ y :: x :: q).set (p.length + 1) z = p ++ y :: z :: q := by rw [List.set_append_right _ _ (by omega), show p.length + 1 - p.length = 1 by omega]; rfl
/-- The row that is sorted. -/
abbrev nodB (cs : List Value) : Option Blk := some (.cells cs 107 (some 0))
def RowV (v : Value) (b n : Nat) : Prop := ∀ (kk : IntKind) (i : Nat), i < n → indexAddrU Try.prog (some (.slice 107)) v (.int kk i) = some (.pointer (some ⟨b, i, none⟩))
abbrev cmpV : Value := .func (.func 54) #[] #[]
def CmpOk (w0 : World) (A : St) (b : Nat) (wt : Value → Int) (D : Value → Prop) : Prop := ∀ (cs : List Value) (x y : Value), D x → D y → ACalls Try.prog w0 54 #[x, y] (A.upd b (nodB cs)) (fin (.int .i64 (wt x - wt y)) (A.upd b (nodB cs)))
theorem Try.enters69 : Enters Try.prog 69 := enters_of Try.func69 rfl (by kernel_rfl)
set_option maxHeartbeats 8000000 in
theorem inssort_ok (w0 : World) (A : St) (b n : Nat) (v : Value) (wt : Value → Int) (D : Value → Prop) (hv : RowV v b n) (hn63 : n ≤ 1000000) (hc : CmpOk w0 A b wt D) (hD1 : ∀ x, D x → one1 x = true) (pre mid post : List Value) (hlen : pre.length + (mid.length + post.length) = n) (hD : ∀ x ∈ mid, D x) :
    ACalls Try.prog w0 69 #[v, .int .i64 pre.length, .int .i64 ((pre.length + mid.length : Nat) : Int), cmpV] (A.upd b (nodB (pre ++ (mid ++ post)))) (fin (.tuple #[]) (A.upd b (nodB (pre ++ (srtK wt mid ++ post))))) := by
  refine call_E (l := [v, .int .i64 pre.length, .int .i64 ((pre.length + mid.length : Nat) : Int), cmpV]) Try.enters69 Try.func69 rfl (Nat.le_of_ble_eq_true rfl) fun hw hbd => ?_
  by_cases hm0 : mid = []
  · subst hm0
    simp (maxSteps := 1000000) (disch := first | omega | (simp only [z1, z2, z3, z4, z5, z6, z7] <;> omega) | fail) only [go_sem, Try.ntmps69, Try.results69]
    refine aw_loop (fun m a A' => ∃ ρ : Nat → Value, a = E 53 ρ [] ∧ A' = A.upd b (nodB (pre ++ ([] ++ post))) ∧ ρ 2 = .int .i64 pre.length ∧ ρ 8 = .int .i64 (pre.length + 1 : Int)) 0 ⟨_, rfl, rfl, rfl, rfl⟩ ?_
    rintro m a A' ⟨ρ, rfl, rfl, r2, r8⟩
    refine aw_of ?_
    have e1 : ¬ ((pre.length : Int) + 1 < pre.length) := by omega
    simp (maxSteps := 1000000) (disch := first | omega | (simp only [z1, z2, z3, z4, z5, z6, z7] <;> omega) | fail) only [go_sem, r2, r8, e1, Try.results69]
    exact gc_here ⟨rfl, rfl⟩
  obtain ⟨x0, mid', rfl⟩ : ∃ x0 m', mid = x0 :: m' := by
    cases mid with
    | nil => exact absurd rfl hm0
    | cons x m => exact ⟨x, m, rfl⟩
  rw [List.length_cons] at hlen
  generalize hN : pre.length + (x0 :: mid').length = N
  rw [List.length_cons] at hN
  simp (maxSteps := 1000000) (disch := first | omega | (simp only [z1, z2, z3, z4, z5, z6, z7] <;> omega) | fail) only [go_sem, Try.ntmps69, Try.results69]
  refine aw_loop (fun m a A' => ∃ (ρ : Nat → Value) (m1 r : List Value), a = E 53 ρ [] ∧ x0 :: mid' = m1 ++ r ∧ m1 ≠ [] ∧ m = r.length ∧ A' = A.upd b (nodB (pre ++ (srtK wt m1 ++ (r ++ post)))) ∧ ρ 0 = v ∧ ρ 1 = .int .i64 pre.length ∧ ρ 2 = .int .i64 N ∧ ρ 3 = cmpV ∧ ρ 8 = .int .i64 ((pre.length + m1.length : Nat) : Int)) mid'.length
    ⟨_, [x0], mid', rfl, rfl, by simp, rfl, rfl, rfl, rfl, rfl, rfl, rfl⟩ ?_
  rintro m a A' ⟨ρ, m1, r, rfl, hmr, hm1, rfl, rfl, r0, r1, r2, r3, r8⟩
  refine aw_of ?_
  have hml := congrArg List.length hmr
  rw [List.length_cons, List.length_append] at hml
  have hsl := srtK_len (k := wt) m1
  cases r with
  | nil =>
    have e1 : ¬ (((pre.length + m1.length : Nat) : Int) < N) := by simp at hml; omega
    rw [List.append_nil] at hmr
    simp (maxSteps := 1000000) (disch := first | omega | (simp only [z1, z2, z3, z4, z5, z6, z7] <;> omega) | fail) only [go_sem, r0, r1, r2, r3, r8, Try.results69]
    rw [hmr]
    exact gc_here ⟨rfl, rfl⟩
  | cons x r =>
    rw [List.length_cons] at hml
    have e1 : (((pre.length + m1.length : Nat) : Int) < N) := by omega
    have hDx : D x := hD x (by rw [hmr]; simp)
    have hDm : ∀ y ∈ srtK wt m1, D y := fun y hy => hD y (by rw [hmr]; exact List.mem_append_left _ (((srtK_same (k := wt) m1).mem y).2 hy))
    simp (maxSteps := 1000000) (disch := first | omega | (simp only [z1, z2, z3, z4, z5, z6, z7] <;> omega) | fail) only [go_sem, r0, r1, r2, r3, r8]
    refine aw_loop (fun m a A' => ∃ (ρ : Nat → Value) (s1 s2 : List Value), a = E 53 ρ [] ∧ srtK wt m1 = s1 ++ s2 ∧ (∀ y ∈ s2, wt x < wt y) ∧ m = s1.length ∧ A' = A.upd b (nodB (pre ++ (s1 ++ x :: (s2 ++ (r ++ post))))) ∧ ρ 0 = v ∧ ρ 1 = .int .i64 pre.length ∧ ρ 2 = .int .i64 N ∧ ρ 3 = cmpV ∧ ρ 8 = .int .i64 ((pre.length + m1.length : Nat) : Int) ∧ ρ 9 = .int .i64 ((pre.length + s1.length : Nat) : Int)) m1.length
      ⟨_, srtK wt m1, [], rfl, by simp, (fun y hy => by cases hy), hsl.symm, rfl, by first | rfl | exact r0, by first | rfl | exact r1, by first | rfl | exact r2, by first | rfl | exact r3, by first | rfl | exact r8, by rw [hsl]; rfl⟩ ?_
    clear r0 r1 r2 r3 r8
    rintro m a A' ⟨ρ, s1, s2, rfl, hs, hgt, rfl, rfl, r0, r1, r2, r3, r8, r9⟩
    refine aw_of ?_
    have hss := congrArg List.length hs
    rw [List.length_append, hsl] at hss
    have hsr := srtK_srtd (k := wt) m1
    rw [hs] at hsr
    have stop : ∀ (s1 : List Value), srtK wt m1 = s1 ++ s2 → (∀ y ∈ s1, wt y ≤ wt x) → srtK wt (m1 ++ [x]) = s1 ++ x :: s2 := fun s1 hs hle => by
      rw [srtK_app, hs]
      have := srtK_srtd (k := wt) m1
      rw [hs] at this
      exact insK_split this hgt hle
    rcases List.eq_nil_or_concat s1 with rfl | ⟨s1', y, rfl⟩
    · refine aw_draw (by kernel_rfl) ?_
      have e2 : ¬ (pre.length < pre.length) := by omega
      simp (maxSteps := 1000000) (disch := first | omega | (simp only [z1, z2, z3, z4, z5, z6, z7] <;> omega) | fail) only [go_sem, r0, r1, r2, r3, r8, r9]
      refine ⟨r.length, by simp, _, m1 ++ [x], r, rfl, by rw [hmr]; simp, by simp, rfl, ?_, ?_, ?_, ?_, ?_, ?_⟩
      · rw [stop [] hs (fun y hy => by cases hy)]; simp
      · simp (maxSteps := 1000000) (disch := first | omega | (simp only [z1, z2, z3, z4, z5, z6, z7] <;> omega) | fail) only [go_sem, r0]
      · simp (maxSteps := 1000000) (disch := first | omega | (simp only [z1, z2, z3, z4, z5, z6, z7] <;> omega) | fail) only [go_sem, r1]
      · simp (maxSteps := 1000000) (disch := first | omega | (simp only [z1, z2, z3, z4, z5, z6, z7] <;> omega) | fail) only [go_sem, r2]
      · simp (maxSteps := 1000000) (disch := first | omega | (simp only [z1, z2, z3, z4, z5, z6, z7] <;> omega) | fail) only [go_sem, r3]
      · simp (maxSteps := 1000000) (disch := first | omega | (simp only [z1, z2, z3, z4, z5, z6, z7] <;> omega) | fail) only [go_sem, r8]
        simp only [List.length_append, List.length_singleton]
        congr 1
    rw [List.concat_eq_append] at *
    have hy : D y := hDm y (by rw [hs]; simp)
    have hdat : pre ++ (s1' ++ [y] ++ x :: (s2 ++ (r ++ post))) = (pre ++ s1') ++ y :: x :: (s2 ++ (r ++ post)) := by simp
    obtain ⟨jm, hjm⟩ : ∃ jm, jm = pre.length + s1'.length := ⟨_, rfl⟩
    have hpl : (pre ++ s1').length = jm := by rw [List.length_append, hjm]
    have i1 := hv .i64 (jm + 1) (by rw [List.length_append] at hss; simp at hss; omega)
    have i0 := hv .i64 jm (by rw [List.length_append] at hss; simp at hss; omega)
    have hj : ((pre.length + (s1' ++ [y]).length : Nat) : Int) = ((jm + 1 : Nat) : Int) := by rw [hjm]; simp [Nat.add_assoc]
    rw [hj] at r9
    have hj1 : (((jm + 1 : Nat) : Int) - 1) = ((jm : Nat) : Int) := by omega
    have hgj : ((pre.length : Int) < ((jm + 1 : Nat) : Int)) := by omega
    have c1 := at_app1 (pre ++ s1') y x (s2 ++ (r ++ post))
    have c0 := at_app (pre ++ s1') y (x :: (s2 ++ (r ++ post)))
    rw [hpl] at c1 c0
    have hg := get_upd_same (A := A) b (nodB ((pre ++ s1') ++ y :: x :: (s2 ++ (r ++ post))))
    have hcc := hc ((pre ++ s1') ++ y :: x :: (s2 ++ (r ++ post))) x y hDx hy
    rw [hdat]
    refine aw_draw (by kernel_rfl) ?_
    simp (maxSteps := 1000000) (disch := first | omega | (simp only [z1, z2, z3, z4, z5, z6, z7] <;> omega) | fail) only [go_sem, r0, r1, r2, r3, r8, r9, i1, i0, hj1, c1, c0, hg]
    refine ⟨_, hcc, ?_⟩
    by_cases hlt : wt x - wt y < 0
    rotate_left
    · simp (maxSteps := 1000000) (disch := first | omega | (simp only [z1, z2, z3, z4, z5, z6, z7] <;> omega) | fail) only [go_sem, hlt, r8]
      refine ⟨r.length, by simp, _, m1 ++ [x], r, rfl, by rw [hmr]; simp, by simp, rfl, ?_, ?_, ?_, ?_, ?_, ?_⟩
      · rw [stop (s1' ++ [y]) hs fun z hz => ?_]
        · simp
        · unfold Srtd at hsr
          rw [List.append_assoc, List.pairwise_append] at hsr
          rcases List.mem_append.1 hz with hz | hz
          · have := hsr.2.2 z hz y (by simp); omega
          · rw [List.mem_singleton.1 hz]; omega
      · simp (maxSteps := 1000000) (disch := first | omega | (simp only [z1, z2, z3, z4, z5, z6, z7] <;> omega) | fail) only [go_sem, r0]
      · simp (maxSteps := 1000000) (disch := first | omega | (simp only [z1, z2, z3, z4, z5, z6, z7] <;> omega) | fail) only [go_sem, r1]
      · simp (maxSteps := 1000000) (disch := first | omega | (simp only [z1, z2, z3, z4, z5, z6, z7] <;> omega) | fail) only [go_sem, r2]
      · simp (maxSteps := 1000000) (disch := first | omega | (simp only [z1, z2, z3, z4, z5, z6, z7] <;> omega) | fail) only [go_sem, r3]
      · simp (maxSteps := 1000000) (disch := first | omega | (simp only [z1, z2, z3, z4, z5, z6, z7] <;> omega) | fail) only [go_sem, r8]
        simp only [List.length_append, List.length_singleton]
        congr 1
    have ho := hD1 y hy
    have hox := hD1 x hDx
    have q1 := set_app1 (pre ++ s1') y x y (s2 ++ (r ++ post))
    have q0 := set_app (pre ++ s1') y x (y :: (s2 ++ (r ++ post)))
    rw [hpl] at q1 q0
    have hl2 : ((pre ++ s1') ++ y :: x :: (s2 ++ (r ++ post))).length = n := by simp only [List.length_append, List.length_cons] at *; omega
    have hl3 : ((pre ++ s1') ++ y :: y :: (s2 ++ (r ++ post))).length = n := by simp only [List.length_append, List.length_cons] at *; omega
    have hin : jm + 1 < n := by rw [List.length_append] at hss; simp at hss; omega
    have st1 := storeC_val (A := A.upd b (nodB ((pre ++ s1') ++ y :: x :: (s2 ++ (r ++ post))))) (b := b) (off := jm + 1) (k := 0) (cs := (pre ++ s1') ++ y :: x :: (s2 ++ (r ++ post))) (e := 107) ho (Nat.zero_le _) (by omega)
    have st0 := storeC_val (A := A.upd b (nodB ((pre ++ s1') ++ y :: y :: (s2 ++ (r ++ post))))) (b := b) (off := jm) (k := 0) (cs := (pre ++ s1') ++ y :: y :: (s2 ++ (r ++ post))) (e := 107) hox (Nat.zero_le _) (by omega)
    rw [q1, upd_upd] at st1
    rw [q0, upd_upd] at st0
    have hg1 := get_upd_same (A := A) b (nodB ((pre ++ s1') ++ y :: y :: (s2 ++ (r ++ post))))
    simp (maxSteps := 1000000) (disch := first | omega | (simp only [z1, z2, z3, z4, z5, z6, z7] <;> omega) | fail) only [go_sem, hlt]
    refine aw_draw2 [⟨false, [], [0]⟩, ⟨false, [], [0]⟩, ⟨false, [], [0, 1]⟩, ⟨false, [], [0, 1]⟩, ⟨false, [3], [0, 1]⟩, ⟨false, [], [0]⟩, ⟨false, [], [0]⟩, ⟨false, [6], [0]⟩, ⟨false, [5, 6, 7], [0]⟩, ⟨false, [5, 6, 7, 8], [0]⟩, ⟨false, [], [0]⟩, ⟨false, [], [0]⟩, ⟨false, [10, 11], [0]⟩, ⟨false, [10, 11, 12], [0]⟩, ⟨false, [0, 1, 5, 6, 7, 8, 9, 10, 11, 12, 13], [0]⟩, ⟨true, [0, 1, 5, 6, 7, 8, 9, 10, 11, 12, 13, 14], [0]⟩, ⟨false, [0, 1, 2, 3, 4, 5, 6, 7, 8, 9, 10, 11, 12, 13, 14, 15], [1]⟩, ⟨true, [0, 1, 2, 3, 4, 5, 6, 7, 8, 9, 10, 11, 12, 13, 14, 15, 16], [1]⟩] [A.upd b (nodB ((pre ++ s1') ++ y :: x :: (s2 ++ (r ++ post)))), A.upd b (nodB ((pre ++ s1') ++ y :: y :: (s2 ++ (r ++ post)))), A.upd b (nodB ((pre ++ s1') ++ x :: y :: (s2 ++ (r ++ post))))] 2 (by kernel_rfl) (by kernel_rfl) rfl ?_
    simp (maxSteps := 1000000) (disch := first | omega | (simp only [z1, z2, z3, z4, z5, z6, z7] <;> omega) | fail) only [go_sem, r0, r9, i1, i0, hj1, c1, c0, hg, hg1, st1, st0]
    refine ⟨s1'.length, by simp, _, s1', y :: s2, rfl, by rw [hs]; simp, ?_, rfl, by simp, ?_, ?_, ?_, ?_, ?_, ?_⟩
    · intro z hz
      rcases List.mem_cons.1 hz with rfl | hz
      · omega
      · exact hgt z hz
    · simp (maxSteps := 1000000) (disch := first | omega | (simp only [z1, z2, z3, z4, z5, z6, z7] <;> omega) | fail) only [go_sem, r0]
    · simp (maxSteps := 1000000) (disch := first | omega | (simp only [z1, z2, z3, z4, z5, z6, z7] <;> omega) | fail) only [go_sem, r1]
    · simp (maxSteps := 1000000) (disch := first | omega | (simp only [z1, z2, z3, z4, z5, z6, z7] <;> omega) | fail) only [go_sem, r2]
    · simp (maxSteps := 1000000) (disch := first | omega | (simp only [z1, z2, z3, z4, z5, z6, z7] <;> omega) | fail) only [go_sem, r3]
    · simp (maxSteps := 1000000) (disch := first | omega | (simp only [z1, z2, z3, z4, z5, z6, z7] <;> omega) | fail) only [go_sem, r8]
    · simp (maxSteps := 1000000) (disch := first | omega | (simp only [z1, z2, z3, z4, z5, z6, z7] <;> omega) | fail) only [go_sem, hj1]
      rw [hjm]
end Go.Fw

set_option linter.unusedSimpArgs false
set_option linter.unusedVariables false
set_option maxRecDepth 4000
namespace Go.Fw
open Go.Proofs Go.RowKit
/-! slices.swapRangeCmpFunc, slices.rotateCmpFunc. -/
theorem at_two {α : Type} (P : List α) (x : α) (M : List α) (y : α) (Q : List α) : (P ++ x :: (M ++ y :: Q))[P.length + (M.length + 1)]? = some y := by
  rw [List.getElem?_append_right (by omega), show P.length + (M.length + 1) - P.length = M.length + 1 by omega, List.getElem?_cons_succ, at_app]
theorem set_two {α : Type} (P : List α) (x : α) (M : List α) (y z : α) (Q : List α) : (P ++ x :: (M ++ y :: Q)).set (P.length + (M.length + 1)) z = P ++ x :: (M ++ z :: Q) := by
  rw [List.set_append_right _ _ (by omega), show P.length + (M.length + 1) - P.length = M.length + 1 by omega, List.set_cons_succ, set_app]
theorem Try.enters72 : Enters Try.prog 72 := enters_of Try.func72 rfl (by kernel_rfl)
theorem Try.enters71 : Enters Try.prog 71 := enters_of Try.func71 rfl (by kernel_rfl)
set_option maxHeartbeats 8000000 in
theorem swaprange_ok (w0 : World) (A : St) (b n : Nat) (v : Value) (hv : RowV v b n) (hn63 : n ≤ 1000000) (p u m w q : List Value) (huw : u.length = w.length) (hlen : p.length + (u.length + (m.length + (w.length + q.length))) = n) (hu : ∀ x ∈ u, one1 x = true) (hw1 : ∀ x ∈ w, one1 x = true) (a1 a2 a3 : Nat) (e1 : a1 = p.length) (e2 : a2 = p.length + (u.length + m.length)) (e3 : a3 = u.length) :
    ACalls Try.prog w0 72 #[v, .int .i64 a1, .int .i64 a2, .int .i64 a3, cmpV] (A.upd b (nodB (p ++ (u ++ (m ++ (w ++ q)))))) (fin (.tuple #[]) (A.upd b (nodB (p ++ (w ++ (m ++ (u ++ q))))))) := by
  refine call_E (l := [v, .int .i64 a1, .int .i64 a2, .int .i64 a3, cmpV]) Try.enters72 Try.func72 rfl (Nat.le_of_ble_eq_true rfl) fun hw hbd => ?_
  simp (maxSteps := 1000000) (disch := first | omega | (simp only [z1, z2, z3, z4, z5, z6, z7] <;> omega) | fail) only [go_sem, Try.ntmps72, Try.results72]
  refine aw_loop (fun k a A' => ∃ (ρ : Nat → Value) (u1 u2 w1 w2 : List Value), a = E 38 ρ [] ∧ u = u1 ++ u2 ∧ w = w1 ++ w2 ∧ u1.length = w1.length ∧ k = u2.length ∧ A' = A.upd b (nodB (p ++ (w1 ++ (u2 ++ (m ++ (u1 ++ (w2 ++ q))))))) ∧ ρ 0 = v ∧ ρ 1 = .int .i64 a1 ∧ ρ 2 = .int .i64 a2 ∧ ρ 3 = .int .i64 a3 ∧ ρ 10 = .int .i64 (u1.length : Nat)) u.length
    ⟨_, [], u, [], w, rfl, rfl, rfl, rfl, rfl, rfl, rfl, rfl, rfl, rfl, rfl⟩ ?_
  rintro k a A' ⟨ρ, u1, u2, w1, w2, rfl, hu12, hw12, hul, rfl, rfl, r0, r1, r2, r3, r10⟩
  refine aw_of ?_
  have hlu := congrArg List.length hu12
  have hlw := congrArg List.length hw12
  rw [List.length_append] at hlu hlw
  cases u2 with
  | nil =>
    rw [List.length_nil] at hlu
    have hw2 : w2 = [] := List.eq_nil_of_length_eq_zero (by omega)
    subst hw2
    simp only [List.append_nil, List.nil_append] at *
    have ne : ¬ ((u1.length : Int) < (a3 : Int)) := by omega
    simp (maxSteps := 1000000) (disch := first | omega | (simp only [z1, z2, z3, z4, z5, z6, z7] <;> omega) | fail) only [go_sem, r0, r1, r2, r3, r10, Try.results72]
    rw [hu12, hw12]
    exact gc_here ⟨rfl, rfl⟩
  | cons x u2 =>
    obtain ⟨y, w2, rfl⟩ : ∃ y w2', w2 = y :: w2' := by
      cases w2 with
      | nil => simp at hlu hlw; omega
      | cons y w2 => exact ⟨y, w2, rfl⟩
    simp only [List.length_cons] at hlu hlw
    have hlt : ((u1.length : Int) < (a3 : Int)) := by omega
    have hox : one1 x = true := hu x (by rw [hu12]; simp)
    have hoy : one1 y = true := hw1 y (by rw [hw12]; simp)
    have hdat : p ++ (w1 ++ (x :: u2 ++ (m ++ (u1 ++ (y :: w2 ++ q))))) = (p ++ w1) ++ x :: ((u2 ++ (m ++ u1)) ++ y :: (w2 ++ q)) := by simp
    rw [hdat]
    generalize hP : p ++ w1 = P
    generalize hM : u2 ++ (m ++ u1) = M
    generalize hQ : w2 ++ q = Q
    have lP := congrArg List.length hP
    have lM := congrArg List.length hM
    have lQ := congrArg List.length hQ
    simp only [List.length_append] at lP lM lQ
    obtain ⟨I1, hI1⟩ : ∃ I, I = P.length := ⟨_, rfl⟩
    obtain ⟨I2, hI2⟩ : ∃ I, I = P.length + (M.length + 1) := ⟨_, rfl⟩
    have c1 := at_app P x (M ++ y :: Q)
    have c2 := at_two P x M y Q
    have q1 := set_app P x y (M ++ y :: Q)
    have q2 := set_two P y M y x Q
    have z1 : (P ++ x :: (M ++ y :: Q)).length = n := by simp only [List.length_append, List.length_cons]; omega
    have z2 : (P ++ y :: (M ++ y :: Q)).length = n := by simp only [List.length_append, List.length_cons]; omega
    rw [← hI1] at c1 q1
    rw [← hI2] at c2 q2
    have k1 : I1 < n := by omega
    have k2 : I2 < n := by omega
    have i1 := hv .i64 I1 k1
    have i2 := hv .i64 I2 k2
    have s1 : (a1 : Int) + (u1.length : Int) = (I1 : Int) := by omega
    have s2 : (a2 : Int) + (u1.length : Int) = (I2 : Int) := by omega
    have hg := get_upd_same (A := A) b (nodB (P ++ x :: (M ++ y :: Q)))
    have hg1 := get_upd_same (A := A) b (nodB (P ++ y :: (M ++ y :: Q)))
    have st1 := storeC_val (A := A.upd b (nodB (P ++ x :: (M ++ y :: Q)))) (b := b) (off := I1) (k := 0) (cs := P ++ x :: (M ++ y :: Q)) (e := 107) hoy (Nat.zero_le _) (by omega)
    have st2 := storeC_val (A := A.upd b (nodB (P ++ y :: (M ++ y :: Q)))) (b := b) (off := I2) (k := 0) (cs := P ++ y :: (M ++ y :: Q)) (e := 107) hox (Nat.zero_le _) (by omega)
    rw [q1, upd_upd] at st1
    rw [q2, upd_upd] at st2
    have b1 : (u1.length : Int) + 1 = ((u1 ++ [x]).length : Nat) := by simp
    simp (maxSteps := 1000000) (disch := first | omega | (simp only [z1, z2, z3, z4, z5, z6, z7] <;> omega) | fail) only [go_sem, r0, r1, r2, r3, r10]
    refine aw_draw2 [⟨false, [], [0]⟩, ⟨false, [], [0]⟩, ⟨false, [], [0]⟩, ⟨false, [1, 2], [0]⟩, ⟨false, [], [0, 1]⟩, ⟨false, [], [0, 1]⟩, ⟨false, [], [0, 1]⟩, ⟨false, [5, 6], [0, 1]⟩, ⟨false, [], [0]⟩, ⟨false, [], [0]⟩, ⟨false, [], [0]⟩, ⟨false, [9, 10], [0]⟩, ⟨false, [8, 9, 10, 11], [0]⟩, ⟨false, [8, 9, 10, 11, 12], [0]⟩, ⟨false, [], [0]⟩, ⟨false, [], [0]⟩, ⟨false, [], [0]⟩, ⟨false, [15, 16], [0]⟩, ⟨false, [14, 15, 16, 17], [0]⟩, ⟨false, [14, 15, 16, 17, 18], [0]⟩, ⟨false, [0, 1, 2, 3, 8, 9, 10, 11, 12, 13, 14, 15, 16, 17, 18, 19], [0]⟩, ⟨true, [0, 1, 2, 3, 8, 9, 10, 11, 12, 13, 14, 15, 16, 17, 18, 19, 20], [0]⟩, ⟨false, [0, 1, 2, 3, 4, 5, 6, 7, 8, 9, 10, 11, 12, 13, 14, 15, 16, 17, 18, 19, 20, 21], [1]⟩, ⟨true, [0, 1, 2, 3, 4, 5, 6, 7, 8, 9, 10, 11, 12, 13, 14, 15, 16, 17, 18, 19, 20, 21, 22], [1]⟩] [A.upd b (nodB (P ++ x :: (M ++ y :: Q))), A.upd b (nodB (P ++ y :: (M ++ y :: Q))), A.upd b (nodB (P ++ y :: (M ++ x :: Q)))] 2 (by kernel_rfl) (by kernel_rfl) rfl ?_
    simp (maxSteps := 1000000) (disch := first | omega | (simp only [z1, z2, z3, z4, z5, z6, z7] <;> omega) | fail) only [go_sem, r0, r1, r2, r3, r10, s1, s2, i1, i2, c1, c2, hg, hg1, st1, st2]
    refine ⟨u2.length, by simp, _, u1 ++ [x], u2, w1 ++ [y], w2, rfl, by rw [hu12]; simp, by rw [hw12]; simp, by simp [hul], rfl, ?_, ?_, ?_, ?_, ?_, ?_⟩
    · rw [← hP, ← hM, ← hQ]; simp
    · simp (maxSteps := 1000000) (disch := first | omega | (simp only [z1, z2, z3, z4, z5, z6, z7] <;> omega) | fail) only [go_sem, r0]
    · simp (maxSteps := 1000000) (disch := first | omega | (simp only [z1, z2, z3, z4, z5, z6, z7] <;> omega) | fail) only [go_sem, r1]
    · simp (maxSteps := 1000000) (disch := first | omega | (simp only [z1, z2, z3, z4, z5, z6, z7] <;> omega) | fail) only [go_sem, r2]
    · simp (maxSteps := 1000000) (disch := first | omega | (simp only [z1, z2, z3, z4, z5, z6, z7] <;> omega) | fail) only [go_sem, r3]
    · simp (maxSteps := 1000000) (disch := first | omega | (simp only [z1, z2, z3, z4, z5, z6, z7] <;> omega) | fail) only [go_sem, b1]
set_option maxHeartbeats 8000000 in
theorem rotate_ok (w0 : World) (A : St) (b n : Nat) (v : Value) (hv : RowV v b n) (hn63 : n ≤ 1000000) (p u w q : List Value) (hu0 : u ≠ []) (hw00 : w ≠ []) (hlen : p.length + (u.length + (w.length + q.length)) = n) (hu : ∀ x ∈ u, one1 x = true) (hw1 : ∀ x ∈ w, one1 x = true) (a1 a2 a3 : Nat) (e1 : a1 = p.length) (e2 : a2 = p.length + u.length) (e3 : a3 = p.length + (u.length + w.length)) :
    ACalls Try.prog w0 71 #[v, .int .i64 a1, .int .i64 a2, .int .i64 a3, cmpV] (A.upd b (nodB (p ++ (u ++ (w ++ q))))) (fin (.tuple #[]) (A.upd b (nodB (p ++ (w ++ (u ++ q)))))) := by
  refine call_E (l := [v, .int .i64 a1, .int .i64 a2, .int .i64 a3, cmpV]) Try.enters71 Try.func71 rfl (Nat.le_of_ble_eq_true rfl) fun hw hbd => ?_
  have d1 : (a2 : Int) - (a1 : Int) = (u.length : Int) := by omega
  have d2 : (a3 : Int) - (a2 : Int) = (w.length : Int) := by omega
  have pu := List.length_pos_iff.2 hu0
  have pw := List.length_pos_iff.2 hw00
  simp (maxSteps := 1000000) (disch := first | omega | (simp only [z1, z2, z3, z4, z5, z6, z7] <;> omega) | fail) only [go_sem, Try.ntmps71, Try.results71, d1, d2]
  refine aw_loop (fun k a A' => ∃ (ρ : Nat → Value) (P x y S : List Value), a = E 58 ρ [] ∧ k = x.length + y.length ∧ 0 < x.length ∧ 0 < y.length ∧ P.length + x.length = a2 ∧ P ++ (y ++ (x ++ S)) = p ++ (w ++ (u ++ q)) ∧ P.length + (x.length + (y.length + S.length)) = n ∧ (∀ z ∈ x, one1 z = true) ∧ (∀ z ∈ y, one1 z = true) ∧ A' = A.upd b (nodB (P ++ (x ++ (y ++ S)))) ∧ ρ 0 = v ∧ ρ 2 = .int .i64 a2 ∧ ρ 4 = cmpV ∧ ρ 10 = .int .i64 (x.length : Nat) ∧ ρ 11 = .int .i64 (y.length : Nat)) (u.length + w.length)
    ⟨_, p, u, w, q, rfl, rfl, pu, pw, e2.symm, rfl, hlen, hu, hw1, rfl, rfl, rfl, rfl, rfl, rfl⟩ ?_
  rintro k a A' ⟨ρ, P, x, y, S, rfl, rfl, hx0, hy0, hm, htg, hln, hx1, hy1, rfl, r0, r2, r4, r10, r11⟩
  refine aw_of ?_
  have t1 : (a2 : Int) - (x.length : Int) = (P.length : Int) := by omega
  by_cases heq : x.length = y.length
  · have h := swaprange_ok w0 A b n v hv hn63 P x [] y S heq (by simpa using hln) hx1 hy1 P.length a2 x.length rfl (by simp; omega) rfl
    simp only [List.nil_append] at h
    have heq' : (x.length : Int) = (y.length : Int) := by omega
    simp (maxSteps := 1000000) (disch := first | omega | (simp only [z1, z2, z3, z4, z5, z6, z7] <;> omega) | fail) only [go_sem, r0, r2, r4, r10, r11, heq', t1]
    rw [heq'] at t1
    rw [heq] at h
    simp (maxSteps := 1000000) (disch := first | omega | (simp only [z1, z2, z3, z4, z5, z6, z7] <;> omega) | fail) only [go_sem, r0, r2, r4, r10, r11, t1]
    refine call1 h ?_
    simp (maxSteps := 1000000) (disch := first | omega | (simp only [z1, z2, z3, z4, z5, z6, z7] <;> omega) | fail) only [go_sem, Try.results71]
    rw [htg]
    exact gc_here ⟨rfl, rfl⟩
  have heq' : ¬ (x.length : Int) = (y.length : Int) := by omega
  by_cases hgt : y.length < x.length
  · have hgt' : (y.length : Int) < (x.length : Int) := by omega
    obtain ⟨x1, x2, rfl, hx1l⟩ : ∃ x1 x2, x = x1 ++ x2 ∧ x1.length = y.length := ⟨x.take y.length, x.drop y.length, (List.take_append_drop ..).symm, by rw [List.length_take]; omega⟩
    simp only [List.length_append] at *
    have h := swaprange_ok w0 A b n v hv hn63 P x1 x2 y S hx1l (by omega) (fun z hz => hx1 z (by simp [hz])) hy1 P.length a2 y.length rfl (by omega) hx1l.symm
    have t2 : ((x1.length + x2.length : Nat) : Int) - (y.length : Int) = (x2.length : Int) := by omega
    have hd : x1 ++ x2 ++ (y ++ S) = x1 ++ (x2 ++ (y ++ S)) := by simp
    rw [hd]
    simp (maxSteps := 1000000) (disch := first | omega | (simp only [z1, z2, z3, z4, z5, z6, z7] <;> omega) | fail) only [go_sem, r0, r2, r4, r10, r11, t1]
    refine call1 h ?_
    simp (maxSteps := 1000000) (disch := first | omega | (simp only [z1, z2, z3, z4, z5, z6, z7] <;> omega) | fail) only [go_sem, r10, r11, t2]
    refine ⟨x2.length + x1.length, by omega, _, P ++ y, x2, x1, S, rfl, rfl, by omega, by omega, by rw [List.length_append]; omega, ?_, ?_, (fun z hz => hx1 z (by simp [hz])), (fun z hz => hx1 z (by simp [hz])), ?_, ?_, ?_, ?_, ?_, ?_⟩
    · rw [← htg]; simp
    · rw [List.length_append]; omega
    · simp
    · simp (maxSteps := 1000000) (disch := first | omega | (simp only [z1, z2, z3, z4, z5, z6, z7] <;> omega) | fail) only [go_sem, r0]
    · simp (maxSteps := 1000000) (disch := first | omega | (simp only [z1, z2, z3, z4, z5, z6, z7] <;> omega) | fail) only [go_sem, r2]
    · simp (maxSteps := 1000000) (disch := first | omega | (simp only [z1, z2, z3, z4, z5, z6, z7] <;> omega) | fail) only [go_sem, r4]
    · simp (maxSteps := 1000000) (disch := first | omega | (simp only [z1, z2, z3, z4, z5, z6, z7] <;> omega) | fail) only [go_sem]
    · simp (maxSteps := 1000000) (disch := first | omega | (simp only [z1, z2, z3, z4, z5, z6, z7] <;> omega) | fail) only [go_sem, r11]
      rw [hx1l]
  · have hgt' : ¬ (y.length : Int) < (x.length : Int) := by omega
    obtain ⟨y1, y2, rfl, hy2l⟩ : ∃ y1 y2, y = y1 ++ y2 ∧ y2.length = x.length := ⟨y.take (y.length - x.length), y.drop (y.length - x.length), (List.take_append_drop ..).symm, by rw [List.length_drop]; omega⟩
    simp only [List.length_append] at *
    have h := swaprange_ok w0 A b n v hv hn63 P x y1 y2 S hy2l.symm (by omega) hx1 (fun z hz => hy1 z (by simp [hz])) P.length (P.length + (x.length + y1.length)) x.length rfl rfl rfl
    have t2 : ((y1.length + y2.length : Nat) : Int) - (x.length : Int) = (y1.length : Int) := by omega
    have t3 : (a2 : Int) + ((y1.length + y2.length : Nat) : Int) - (x.length : Int) = ((P.length + (x.length + y1.length) : Nat) : Int) := by omega
    have hd : x ++ (y1 ++ y2 ++ S) = x ++ (y1 ++ (y2 ++ S)) := by simp
    rw [hd]
    simp (maxSteps := 1000000) (disch := first | omega | (simp only [z1, z2, z3, z4, z5, z6, z7] <;> omega) | fail) only [go_sem, r0, r2, r4, r10, r11, t1, t3]
    refine call1 h ?_
    simp (maxSteps := 1000000) (disch := first | omega | (simp only [z1, z2, z3, z4, z5, z6, z7] <;> omega) | fail) only [go_sem, r10, r11, t2]
    refine ⟨y2.length + y1.length, by omega, _, P, y2, y1, x ++ S, rfl, rfl, by omega, by omega, by omega, ?_, ?_, (fun z hz => hy1 z (by simp [hz])), (fun z hz => hy1 z (by simp [hz])), ?_, ?_, ?_, ?_, ?_, ?_⟩
    · rw [← htg]; simp
    · rw [List.length_append]; omega
    · rfl
    · simp (maxSteps := 1000000) (disch := first | omega | (simp only [z1, z2, z3, z4, z5, z6, z7] <;> omega) | fail) only [go_sem, r0]
    · simp (maxSteps := 1000000) (disch := first | omega | (simp only [z1, z2, z3, z4, z5, z6, z7] <;> omega) | fail) only [go_sem, r2]
    · simp (maxSteps := 1000000) (disch := first | omega | (simp only [z1, z2, z3, z4, z5, z6, z7] <;> omega) | fail) only [go_sem, r4]
    · simp (maxSteps := 1000000) (disch := first | omega | (simp only [z1, z2, z3, z4, z5, z6, z7] <;> omega) | fail) only [go_sem, r10]
      rw [hy2l]
    · simp (maxSteps := 1000000) (disch := first | omega | (simp only [z1, z2, z3, z4, z5, z6, z7] <;> omega) | fail) only [go_sem]
end Go.Fw

set_option linter.unusedSimpArgs false
set_option linter.unusedVariables false
set_option maxRecDepth 4000
namespace Go.Fw
open Go.Proofs Go.RowKit
/-! slices.symMergeCmpFunc. -/
section
variable {α : Type} {k : α → Int}
theorem Srtd.at {l : List α} (h : Srtd k l) {i j : Nat} {x y : α} (hi : l[i]? = some x) (hj : l[j]? = some y) (hij : i ≤ j) : k x ≤ k y := by
  rcases Nat.lt_or_eq_of_le hij with hlt | rfl
  · obtain ⟨h1, e1⟩ := List.getElem?_eq_some_iff.1 hi
    obtain ⟨h2, e2⟩ := List.getElem?_eq_some_iff.1 hj
    subst e1 e2
    exact List.pairwise_iff_getElem.1 h i j h1 h2 hlt
  · rw [hi] at hj; cases hj; exact Int.le_refl _
theorem sym_fin {X U V Y : List α} (hl : Srtd k (X ++ U)) (hr : Srtd k (V ++ Y)) (hUV : ∀ x ∈ U, ∀ y ∈ V, k y < k x) (hXY : ∀ x ∈ X, ∀ y ∈ Y, k x ≤ k y) : srtK k (X ++ V) ++ srtK k (U ++ Y) = srtK k ((X ++ U) ++ (V ++ Y)) := by
  refine srtK_of ?_ ?_
  · unfold Srtd
    rw [List.pairwise_append]
    refine ⟨srtK_srtd _, srtK_srtd _, fun a ha b hb => ?_⟩
    have ha := ((srtK_same (k := k) (X ++ V)).mem a).2 ha
    have hb := ((srtK_same (k := k) (U ++ Y)).mem b).2 hb
    unfold Srtd at hl hr
    rw [List.pairwise_append] at hl hr
    rcases List.mem_append.1 ha with ha | ha <;> rcases List.mem_append.1 hb with hb | hb
    · exact hl.2.2 a ha b hb
    · exact hXY a ha b hb
    · have := hUV b hb a ha; omega
    · exact hr.2.2 a ha b hb
  · refine SameF.trans ?_ (SameF.app (srtK_same _) (srtK_same _))
    rw [show (X ++ U) ++ (V ++ Y) = X ++ ((U ++ V) ++ Y) by simp, show (X ++ V) ++ (U ++ Y) = X ++ ((V ++ U) ++ Y) by simp]
    exact SameF.app (SameF.refl k X) (SameF.app (SameF.swap fun x hx y hy e => by have := hUV x hx y hy; omega) (SameF.refl k Y))
theorem srtK_self {l : List α} (h : Srtd k l) : srtK k l = l := (srtK_of h (SameF.refl k l)).symm
end
theorem at_l {α : Type} {p l s : List α} {t : Nat} {x : α} (h : l[t]? = some x) : (p ++ (l ++ s))[p.length + t]? = some x := by
  rw [List.getElem?_append_right (by omega), show p.length + t - p.length = t by omega, List.getElem?_append_left (List.getElem?_eq_some_iff.1 h).1, h]
theorem at_r {α : Type} {p l r q : List α} {t : Nat} {x : α} (h : r[t]? = some x) : (p ++ (l ++ (r ++ q)))[p.length + (l.length + t)]? = some x := by
  rw [show p ++ (l ++ (r ++ q)) = (p ++ l) ++ (r ++ q) by simp, show p.length + (l.length + t) = (p ++ l).length + t by rw [List.length_append]; omega]
  exact at_l h
theorem half_eq (i j : Nat) (h : i + j < 4611686018427387904) : ishr .u64 ((i : Int) + (j : Int)) 1 = (((i + j) / 2 : Nat) : Int) := by
  rw [show (1 : Int) = ((1 : Nat) : Int) from rfl, ishr_eq .u64 _ 1 (by decide), Int.natCast_ediv, Int.natCast_add]; rfl
theorem Try.enters70 : Enters Try.prog 70 := enters_of Try.func70 rfl (by kernel_rfl)
variable {w0 : World} {A : St} {b n : Nat} {v : Value} {wt : Value → Int} {D : Value → Prop}
set_option maxHeartbeats 16000000 in
/-- One element ahead of a sorted row. -/
theorem sym_one (hv : RowV v b n) (hn63 : n ≤ 1000000) (hc : CmpOk w0 A b wt D) (hD1 : ∀ x, D x → one1 x = true) (p : List Value) (x : Value) (r q : List Value) (hlen : p.length + (1 + (r.length + q.length)) = n) (hx : D x) (hr : ∀ y ∈ r, D y) (sr : Srtd wt r) (a1 a2 a3 : Nat) (e1 : a1 = p.length) (e2 : a2 = p.length + 1) (e3 : a3 = p.length + (1 + r.length)) :
    ACalls Try.prog w0 70 #[v, .int .i64 a1, .int .i64 a2, .int .i64 a3, cmpV] (A.upd b (nodB (p ++ (x :: (r ++ q))))) (fin (.tuple #[]) (A.upd b (nodB (p ++ (srtK wt (x :: r) ++ q))))) := by
  refine call_E (l := [v, .int .i64 a1, .int .i64 a2, .int .i64 a3, cmpV]) Try.enters70 Try.func70 rfl (Nat.le_of_ble_eq_true rfl) fun hw hbd => ?_
  have d1 : (a2 : Int) - (a1 : Int) = 1 := by omega
  have hg := get_upd_same (A := A) b (nodB (p ++ (x :: (r ++ q))))
  have ia := hv .i64 a1 (by omega)
  have ca : (p ++ (x :: (r ++ q)))[a1]? = some x := by rw [e1]; exact at_app p x (r ++ q)
  simp (maxSteps := 1000000) (disch := first | omega | (simp only [z1, z2, z3, z4, z5, z6, z7] <;> omega) | fail) only [go_sem, Try.ntmps70, Try.results70, d1]
  refine aw_loop (fun k a A' => ∃ (ρ : Nat → Value) (i j : Nat), a = E 220 ρ [] ∧ k = j - i ∧ i ≤ j ∧ j ≤ r.length ∧ (∀ t y, t < i → r[t]? = some y → wt y < wt x) ∧ (∀ t y, j ≤ t → r[t]? = some y → wt x ≤ wt y) ∧ A' = A.upd b (nodB (p ++ (x :: (r ++ q)))) ∧ ρ 0 = v ∧ ρ 1 = .int .i64 a1 ∧ ρ 2 = .int .i64 a2 ∧ ρ 4 = cmpV ∧ ρ 10 = .int .i64 ((a2 + i : Nat) : Int) ∧ ρ 11 = .int .i64 ((a2 + j : Nat) : Int)) r.length
    ⟨_, 0, r.length, rfl, rfl, Nat.zero_le _, Nat.le_refl _, (fun t y h => by omega), (fun t y h hy => by have := (List.getElem?_eq_some_iff.1 hy).1; omega), rfl, rfl, rfl, rfl, rfl, rfl, by show Value.int .i64 (a3 : Int) = _; congr 2; omega⟩ ?_
  rintro k a A' ⟨ρ, i, j, rfl, rfl, hij, hjr, hlo, hhi, rfl, r0, r1, r2, r4, r10, r11⟩
  refine aw_of ?_
  by_cases hlt : i < j
  · have hlt' : ((a2 + i : Nat) : Int) < ((a2 + j : Nat) : Int) := by omega
    have hsh := half_eq (a2 + i) (a2 + j) (by omega)
    obtain ⟨h, hh⟩ : ∃ h, h = (i + j) / 2 := ⟨_, rfl⟩
    have hhe : (a2 + i + (a2 + j)) / 2 = a2 + h := by omega
    rw [hhe] at hsh
    have hir : i ≤ h ∧ h < j := by omega
    obtain ⟨y, hy⟩ : ∃ y, r[h]? = some y := ⟨r[h]'(by omega), List.getElem?_eq_getElem (by omega)⟩
    have ih := hv .i64 (a2 + h) (by omega)
    have ch : (p ++ (x :: (r ++ q)))[a2 + h]? = some y := by rw [show a2 + h = p.length + ([x].length + h) by simp; omega]; exact at_r (l := [x]) hy
    have hcc := hc (p ++ (x :: (r ++ q))) y x (hr y (List.mem_of_getElem? hy)) hx
    obtain ⟨H, hH⟩ : ∃ H, H = a2 + h := ⟨_, rfl⟩
    rw [← hH] at hsh ih ch
    simp (maxSteps := 1000000) (disch := first | omega | (simp only [z1, z2, z3, z4, z5, z6, z7] <;> omega) | fail) only [go_sem, r0, r1, r2, r4, r10, r11, hsh]
    refine aw_draw (by kernel_rfl) ?_
    simp (maxSteps := 1000000) (disch := first | omega | (simp only [z1, z2, z3, z4, z5, z6, z7] <;> omega) | fail) only [go_sem, r0, r1, r2, r4, r10, r11, hsh, ih, ia, ch, ca, hg]
    refine ⟨_, hcc, ?_⟩
    by_cases hxy : wt y - wt x < 0
    · have hb1 : (H : Int) + 1 = ((a2 + (h + 1) : Nat) : Int) := by omega
      simp (maxSteps := 1000000) (disch := first | omega | (simp only [z1, z2, z3, z4, z5, z6, z7] <;> omega) | fail) only [go_sem, hxy, hb1]
      refine ⟨j - (h + 1), by omega, _, h + 1, j, rfl, rfl, by omega, hjr, fun t z ht hz => ?_, hhi, ?_, ?_, ?_, ?_, ?_, ?_⟩
      · have := sr.at hz hy (by omega); omega
      · simp (maxSteps := 1000000) (disch := first | omega | (simp only [z1, z2, z3, z4, z5, z6, z7] <;> omega) | fail) only [go_sem, r0]
      · simp (maxSteps := 1000000) (disch := first | omega | (simp only [z1, z2, z3, z4, z5, z6, z7] <;> omega) | fail) only [go_sem, r1]
      · simp (maxSteps := 1000000) (disch := first | omega | (simp only [z1, z2, z3, z4, z5, z6, z7] <;> omega) | fail) only [go_sem, r2]
      · simp (maxSteps := 1000000) (disch := first | omega | (simp only [z1, z2, z3, z4, z5, z6, z7] <;> omega) | fail) only [go_sem, r4]
      · simp (maxSteps := 1000000) (disch := first | omega | (simp only [z1, z2, z3, z4, z5, z6, z7] <;> omega) | fail) only [go_sem]
      · simp (maxSteps := 1000000) (disch := first | omega | (simp only [z1, z2, z3, z4, z5, z6, z7] <;> omega) | fail) only [go_sem, r11]
    · simp (maxSteps := 1000000) (disch := first | omega | (simp only [z1, z2, z3, z4, z5, z6, z7] <;> omega) | fail) only [go_sem, hxy]
      refine ⟨h - i, by omega, _, i, h, rfl, rfl, hir.1, by omega, hlo, fun t z ht hz => ?_, ?_, ?_, ?_, ?_, ?_, ?_⟩
      · have := sr.at hy hz ht; omega
      · simp (maxSteps := 1000000) (disch := first | omega | (simp only [z1, z2, z3, z4, z5, z6, z7] <;> omega) | fail) only [go_sem, r0]
      · simp (maxSteps := 1000000) (disch := first | omega | (simp only [z1, z2, z3, z4, z5, z6, z7] <;> omega) | fail) only [go_sem, r1]
      · simp (maxSteps := 1000000) (disch := first | omega | (simp only [z1, z2, z3, z4, z5, z6, z7] <;> omega) | fail) only [go_sem, r2]
      · simp (maxSteps := 1000000) (disch := first | omega | (simp only [z1, z2, z3, z4, z5, z6, z7] <;> omega) | fail) only [go_sem, r4]
      · simp (maxSteps := 1000000) (disch := first | omega | (simp only [z1, z2, z3, z4, z5, z6, z7] <;> omega) | fail) only [go_sem, r10]
      · simp (maxSteps := 1000000) (disch := first | omega | (simp only [z1, z2, z3, z4, z5, z6, z7] <;> omega) | fail) only [go_sem, hH]
  obtain rfl : i = j := by omega
  have hlt' : ¬ ((a2 + i : Nat) : Int) < ((a2 + i : Nat) : Int) := by omega
  obtain ⟨r1l, r2l, rfl, hl1⟩ : ∃ r1l r2l, r = r1l ++ r2l ∧ r1l.length = i := ⟨r.take i, r.drop i, (List.take_append_drop ..).symm, by rw [List.length_take]; omega⟩
  have b1 : ∀ y ∈ r1l, wt y < wt x := fun y hy => by
    obtain ⟨t, ht, e⟩ := List.getElem_of_mem hy
    exact hlo t y (by omega) (by rw [List.getElem?_append_left ht, List.getElem?_eq_getElem ht, e])
  have b2 : ∀ y ∈ r2l, wt x ≤ wt y := fun y hy => by
    obtain ⟨t, ht, e⟩ := List.getElem_of_mem hy
    exact hhi (i + t) y (by omega) (by rw [List.getElem?_append_right (by omega), show i + t - r1l.length = t by omega, List.getElem?_eq_getElem ht, e])
  have hres : srtK wt (x :: (r1l ++ r2l)) = r1l ++ x :: r2l := by
    refine (srtK_of ?_ ?_).symm
    · unfold Srtd at sr ⊢
      rw [List.pairwise_append] at sr
      rw [List.pairwise_append, List.pairwise_cons]
      refine ⟨sr.1, ⟨b2, sr.2.1⟩, fun a ha c hc => ?_⟩
      rcases List.mem_cons.1 hc with rfl | hc
      · have := b1 a ha; omega
      · exact sr.2.2 a ha c hc
    · rw [show x :: (r1l ++ r2l) = ([x] ++ r1l) ++ r2l by simp, show r1l ++ x :: r2l = (r1l ++ [x]) ++ r2l by simp]
      exact SameF.app (SameF.swap fun a ha c hc e => by rw [List.mem_singleton.1 ha] at e; have := b1 c hc; omega) (SameF.refl wt r2l)
  rw [hres]
  rw [List.length_append] at hlen e3
  simp (maxSteps := 1000000) (disch := first | omega | (simp only [z1, z2, z3, z4, z5, z6, z7] <;> omega) | fail) only [go_sem, r0, r1, r2, r4, r10, r11]
  refine aw_loop (fun k a A' => ∃ (ρ : Nat → Value) (s1 s2 : List Value), a = E 220 ρ [] ∧ r1l = s1 ++ s2 ∧ k = s2.length ∧ A' = A.upd b (nodB (p ++ (s1 ++ x :: (s2 ++ (r2l ++ q))))) ∧ ρ 0 = v ∧ ρ 10 = .int .i64 ((a2 + i : Nat) : Int) ∧ ρ 13 = .int .i64 ((a1 + s1.length : Nat) : Int)) r1l.length
    ⟨_, [], r1l, rfl, rfl, rfl, by simp, by first | rfl | exact r0, by first | rfl | exact r10, by first | rfl | exact r1⟩ ?_
  clear r0 r1 r2 r4 r10 r11
  rintro k a A' ⟨ρ, s1, s2, rfl, hs, rfl, rfl, r0, r10, r13⟩
  refine aw_of ?_
  have hss := congrArg List.length hs
  rw [List.length_append] at hss
  have t1 : ((a2 + i : Nat) : Int) - 1 = ((a1 + i : Nat) : Int) := by omega
  cases s2 with
  | nil =>
    rw [List.length_nil] at hss
    have ne : ¬ ((a1 + s1.length : Nat) : Int) < ((a1 + i : Nat) : Int) := by omega
    simp (maxSteps := 1000000) (disch := first | omega | (simp only [z1, z2, z3, z4, z5, z6, z7] <;> omega) | fail) only [go_sem, r0, r10, r13, t1, Try.results70]
    rw [List.append_nil] at hs
    rw [hs]
    refine gc_here ⟨rfl, ?_⟩
    congr 3
    simp
  | cons y s2 =>
    rw [List.length_cons] at hss
    have lt : ((a1 + s1.length : Nat) : Int) < ((a1 + i : Nat) : Int) := by omega
    have hDy : D y := hr y (by rw [hs]; simp)
    have hox := hD1 x hx
    have hoy := hD1 y hDy
    have hdat : p ++ (s1 ++ x :: (y :: s2 ++ (r2l ++ q))) = (p ++ s1) ++ x :: y :: (s2 ++ (r2l ++ q)) := by simp
    rw [hdat]
    obtain ⟨jm, hjm⟩ : ∃ jm, jm = a1 + s1.length := ⟨_, rfl⟩
    have hpl : (p ++ s1).length = jm := by rw [List.length_append, hjm, e1]
    have c0 := at_app (p ++ s1) x (y :: (s2 ++ (r2l ++ q)))
    have c1 := at_app1 (p ++ s1) x y (s2 ++ (r2l ++ q))
    have q0 := set_app (p ++ s1) x y (y :: (s2 ++ (r2l ++ q)))
    have q1 := set_app1 (p ++ s1) y y x (s2 ++ (r2l ++ q))
    rw [hpl] at c0 c1 q0 q1
    have i0 := hv .i64 jm (by omega)
    have i1 := hv .i64 (jm + 1) (by omega)
    have z1 : ((p ++ s1) ++ x :: y :: (s2 ++ (r2l ++ q))).length = n := by simp only [List.length_append, List.length_cons] at *; omega
    have z2 : ((p ++ s1) ++ y :: y :: (s2 ++ (r2l ++ q))).length = n := by simp only [List.length_append, List.length_cons] at *; omega
    have st0 := storeC_val (A := A.upd b (nodB ((p ++ s1) ++ x :: y :: (s2 ++ (r2l ++ q))))) (b := b) (off := jm) (k := 0) (cs := (p ++ s1) ++ x :: y :: (s2 ++ (r2l ++ q))) (e := 107) hoy (Nat.zero_le _) (by omega)
    have st1 := storeC_val (A := A.upd b (nodB ((p ++ s1) ++ y :: y :: (s2 ++ (r2l ++ q))))) (b := b) (off := jm + 1) (k := 0) (cs := (p ++ s1) ++ y :: y :: (s2 ++ (r2l ++ q))) (e := 107) hox (Nat.zero_le _) (by omega)
    rw [q0, upd_upd] at st0
    rw [q1, upd_upd] at st1
    have hg0 := get_upd_same (A := A) b (nodB ((p ++ s1) ++ x :: y :: (s2 ++ (r2l ++ q))))
    have hg1 := get_upd_same (A := A) b (nodB ((p ++ s1) ++ y :: y :: (s2 ++ (r2l ++ q))))
    rw [← hjm] at r13 lt
    have u1 : (jm : Int) + 1 = ((jm + 1 : Nat) : Int) := by omega
    simp (maxSteps := 1000000) (disch := first | omega | (simp only [z1, z2, z3, z4, z5, z6, z7] <;> omega) | fail) only [go_sem, r0, r10, r13, t1]
    refine aw_draw2 [⟨false, [], [0]⟩, ⟨false, [], [0]⟩, ⟨false, [], [0, 1]⟩, ⟨false, [], [0, 1]⟩, ⟨false, [3], [0, 1]⟩, ⟨false, [], [0]⟩, ⟨false, [], [0]⟩, ⟨false, [6], [0]⟩, ⟨false, [5, 6, 7], [0]⟩, ⟨false, [5, 6, 7, 8], [0]⟩, ⟨false, [], [0]⟩, ⟨false, [], [0]⟩, ⟨false, [10, 11], [0]⟩, ⟨false, [10, 11, 12], [0]⟩, ⟨false, [0, 1, 5, 6, 7, 8, 9, 10, 11, 12, 13], [0]⟩, ⟨true, [0, 1, 5, 6, 7, 8, 9, 10, 11, 12, 13, 14], [0]⟩, ⟨false, [0, 1, 2, 3, 4, 5, 6, 7, 8, 9, 10, 11, 12, 13, 14, 15], [1]⟩, ⟨true, [0, 1, 2, 3, 4, 5, 6, 7, 8, 9, 10, 11, 12, 13, 14, 15, 16], [1]⟩] [A.upd b (nodB ((p ++ s1) ++ x :: y :: (s2 ++ (r2l ++ q)))), A.upd b (nodB ((p ++ s1) ++ y :: y :: (s2 ++ (r2l ++ q)))), A.upd b (nodB ((p ++ s1) ++ y :: x :: (s2 ++ (r2l ++ q))))] 2 (by kernel_rfl) (by kernel_rfl) rfl ?_
    simp (maxSteps := 1000000) (disch := first | omega | (simp only [z1, z2, z3, z4, z5, z6, z7] <;> omega) | fail) only [go_sem, r0, r10, r13, u1, i0, i1, c0, c1, hg0, hg1, st0, st1]
    refine ⟨s2.length, by simp, _, s1 ++ [y], s2, rfl, by rw [hs]; simp, rfl, by simp, ?_, ?_, ?_⟩
    · simp (maxSteps := 1000000) (disch := first | omega | (simp only [z1, z2, z3, z4, z5, z6, z7] <;> omega) | fail) only [go_sem, r0]
    · simp (maxSteps := 1000000) (disch := first | omega | (simp only [z1, z2, z3, z4, z5, z6, z7] <;> omega) | fail) only [go_sem, r10]
    · simp (maxSteps := 1000000) (disch := first | omega | (simp only [z1, z2, z3, z4, z5, z6, z7] <;> omega) | fail) only [go_sem]
      rw [hjm, List.length_append]
      rfl
end Go.Fw

set_option linter.unusedSimpArgs false
set_option linter.unusedVariables false
set_option maxRecDepth 4000
namespace Go.Fw
open Go.Proofs Go.RowKit
variable {w0 : World} {A : St} {b n : Nat} {v : Value} {wt : Value → Int} {D : Value → Prop}
set_option maxHeartbeats 16000000 in
/-- One element behind a sorted row. -/
theorem sym_last (hv : RowV v b n) (hn63 : n ≤ 1000000) (hc : CmpOk w0 A b wt D) (hD1 : ∀ x, D x → one1 x = true) (p l : List Value) (y : Value) (q : List Value) (hlen : p.length + (l.length + (1 + q.length)) = n) (hl2 : 2 ≤ l.length) (hy : D y) (hl : ∀ x ∈ l, D x) (sl : Srtd wt l) (a1 a2 a3 : Nat) (e1 : a1 = p.length) (e2 : a2 = p.length + l.length) (e3 : a3 = p.length + (l.length + 1)) :
    ACalls Try.prog w0 70 #[v, .int .i64 a1, .int .i64 a2, .int .i64 a3, cmpV] (A.upd b (nodB (p ++ (l ++ (y :: q))))) (fin (.tuple #[]) (A.upd b (nodB (p ++ (srtK wt (l ++ [y]) ++ q))))) := by
  refine call_E (l := [v, .int .i64 a1, .int .i64 a2, .int .i64 a3, cmpV]) Try.enters70 Try.func70 rfl (Nat.le_of_ble_eq_true rfl) fun hw hbd => ?_
  have d1 : (a2 : Int) - (a1 : Int) = (l.length : Int) := by omega
  have d2 : (a3 : Int) - (a2 : Int) = 1 := by omega
  have hne1 : ¬ (l.length : Int) = 1 := by omega
  have hg := get_upd_same (A := A) b (nodB (p ++ (l ++ (y :: q))))
  have ia := hv .i64 a2 (by omega)
  have ca : (p ++ (l ++ (y :: q)))[a2]? = some y := by
    rw [e2, ← List.append_assoc, ← List.length_append]; exact at_app (p ++ l) y q
  simp (maxSteps := 1000000) (disch := first | omega | (simp only [z1, z2, z3, z4, z5, z6, z7] <;> omega) | fail) only [go_sem, Try.ntmps70, Try.results70, d1, d2]
  refine aw_loop (fun k a A' => ∃ (ρ : Nat → Value) (i j : Nat), a = E 220 ρ [] ∧ k = j - i ∧ i ≤ j ∧ j ≤ l.length ∧ (∀ t x, t < i → l[t]? = some x → wt x ≤ wt y) ∧ (∀ t x, j ≤ t → l[t]? = some x → wt y < wt x) ∧ A' = A.upd b (nodB (p ++ (l ++ (y :: q)))) ∧ ρ 0 = v ∧ ρ 2 = .int .i64 a2 ∧ ρ 4 = cmpV ∧ ρ 14 = .int .i64 ((a1 + i : Nat) : Int) ∧ ρ 15 = .int .i64 ((a1 + j : Nat) : Int)) l.length
    ⟨_, 0, l.length, rfl, rfl, Nat.zero_le _, Nat.le_refl _, (fun t y h => by omega), (fun t y h hy => by have := (List.getElem?_eq_some_iff.1 hy).1; omega), rfl, rfl, rfl, rfl, rfl, by show Value.int .i64 (a2 : Int) = _; congr 2; omega⟩ ?_
  rintro k a A' ⟨ρ, i, j, rfl, rfl, hij, hjr, hlo, hhi, rfl, r0, r2, r4, r14, r15⟩
  refine aw_of ?_
  by_cases hlt : i < j
  · have hlt' : ((a1 + i : Nat) : Int) < ((a1 + j : Nat) : Int) := by omega
    have hsh := half_eq (a1 + i) (a1 + j) (by omega)
    obtain ⟨h, hh⟩ : ∃ h, h = (i + j) / 2 := ⟨_, rfl⟩
    have hhe : (a1 + i + (a1 + j)) / 2 = a1 + h := by omega
    rw [hhe] at hsh
    have hir : i ≤ h ∧ h < j := by omega
    obtain ⟨x, hx⟩ : ∃ x, l[h]? = some x := ⟨l[h]'(by omega), List.getElem?_eq_getElem (by omega)⟩
    have ih := hv .i64 (a1 + h) (by omega)
    have ch : (p ++ (l ++ (y :: q)))[a1 + h]? = some x := by rw [e1]; exact at_l hx
    have hcc := hc (p ++ (l ++ (y :: q))) y x hy (hl x (List.mem_of_getElem? hx))
    obtain ⟨H, hH⟩ : ∃ H, H = a1 + h := ⟨_, rfl⟩
    rw [← hH] at hsh ih ch
    simp (maxSteps := 1000000) (disch := first | omega | (simp only [z1, z2, z3, z4, z5, z6, z7] <;> omega) | fail) only [go_sem, r0, r2, r4, r14, r15, hsh]
    refine aw_draw (by kernel_rfl) ?_
    simp (maxSteps := 1000000) (disch := first | omega | (simp only [z1, z2, z3, z4, z5, z6, z7] <;> omega) | fail) only [go_sem, r0, r2, r4, r14, r15, hsh, ih, ia, ch, ca, hg]
    refine ⟨_, hcc, ?_⟩
    by_cases hxy : wt y - wt x < 0
    · simp (maxSteps := 1000000) (disch := first | omega | (simp only [z1, z2, z3, z4, z5, z6, z7] <;> omega) | fail) only [go_sem, hxy]
      refine ⟨h - i, by omega, _, i, h, rfl, rfl, hir.1, by omega, hlo, fun t z ht hz => ?_, ?_, ?_, ?_, ?_, ?_⟩
      · have := sl.at hx hz ht; omega
      · simp (maxSteps := 1000000) (disch := first | omega | (simp only [z1, z2, z3, z4, z5, z6, z7] <;> omega) | fail) only [go_sem, r0]
      · simp (maxSteps := 1000000) (disch := first | omega | (simp only [z1, z2, z3, z4, z5, z6, z7] <;> omega) | fail) only [go_sem, r2]
      · simp (maxSteps := 1000000) (disch := first | omega | (simp only [z1, z2, z3, z4, z5, z6, z7] <;> omega) | fail) only [go_sem, r4]
      · simp (maxSteps := 1000000) (disch := first | omega | (simp only [z1, z2, z3, z4, z5, z6, z7] <;> omega) | fail) only [go_sem, r14]
      · simp (maxSteps := 1000000) (disch := first | omega | (simp only [z1, z2, z3, z4, z5, z6, z7] <;> omega) | fail) only [go_sem, hH]
    · have hb1 : (H : Int) + 1 = ((a1 + (h + 1) : Nat) : Int) := by omega
      simp (maxSteps := 1000000) (disch := first | omega | (simp only [z1, z2, z3, z4, z5, z6, z7] <;> omega) | fail) only [go_sem, hxy, hb1]
      refine ⟨j - (h + 1), by omega, _, h + 1, j, rfl, rfl, by omega, hjr, fun t z ht hz => ?_, hhi, ?_, ?_, ?_, ?_, ?_⟩
      · have := sl.at hz hx (by omega); omega
      · simp (maxSteps := 1000000) (disch := first | omega | (simp only [z1, z2, z3, z4, z5, z6, z7] <;> omega) | fail) only [go_sem, r0]
      · simp (maxSteps := 1000000) (disch := first | omega | (simp only [z1, z2, z3, z4, z5, z6, z7] <;> omega) | fail) only [go_sem, r2]
      · simp (maxSteps := 1000000) (disch := first | omega | (simp only [z1, z2, z3, z4, z5, z6, z7] <;> omega) | fail) only [go_sem, r4]
      · simp (maxSteps := 1000000) (disch := first | omega | (simp only [z1, z2, z3, z4, z5, z6, z7] <;> omega) | fail) only [go_sem]
      · simp (maxSteps := 1000000) (disch := first | omega | (simp only [z1, z2, z3, z4, z5, z6, z7] <;> omega) | fail) only [go_sem, r15]
  obtain rfl : i = j := by omega
  have hlt' : ¬ ((a1 + i : Nat) : Int) < ((a1 + i : Nat) : Int) := by omega
  obtain ⟨l1, l2, rfl, hl1⟩ : ∃ l1 l2, l = l1 ++ l2 ∧ l1.length = i := ⟨l.take i, l.drop i, (List.take_append_drop ..).symm, by rw [List.length_take]; omega⟩
  have b1 : ∀ x ∈ l1, wt x ≤ wt y := fun x hx => by
    obtain ⟨t, ht, e⟩ := List.getElem_of_mem hx
    exact hlo t x (by omega) (by rw [List.getElem?_append_left ht, List.getElem?_eq_getElem ht, e])
  have b2 : ∀ x ∈ l2, wt y < wt x := fun x hx => by
    obtain ⟨t, ht, e⟩ := List.getElem_of_mem hx
    exact hhi (i + t) x (by omega) (by rw [List.getElem?_append_right (by omega), show i + t - l1.length = t by omega, List.getElem?_eq_getElem ht, e])
  have hres : srtK wt ((l1 ++ l2) ++ [y]) = l1 ++ y :: l2 := by
    rw [srtK_app, srtK_self sl]
    exact insK_split sl b2 b1
  rw [hres]
  rw [List.length_append] at hlen e2 e3
  simp (maxSteps := 1000000) (disch := first | omega | (simp only [z1, z2, z3, z4, z5, z6, z7] <;> omega) | fail) only [go_sem, r0, r2, r4, r14, r15]
  refine aw_loop (fun k a A' => ∃ (ρ : Nat → Value) (s1 s2 : List Value), a = E 220 ρ [] ∧ l2 = s1 ++ s2 ∧ k = s1.length ∧ A' = A.upd b (nodB (p ++ (l1 ++ (s1 ++ y :: (s2 ++ q))))) ∧ ρ 0 = v ∧ ρ 14 = .int .i64 ((a1 + i : Nat) : Int) ∧ ρ 17 = .int .i64 ((a1 + i + s1.length : Nat) : Int)) l2.length
    ⟨_, l2, [], rfl, by simp, rfl, by simp, by first | rfl | exact r0, by first | rfl | exact r14, by refine Eq.trans (b := Value.int .i64 (a2 : Int)) (by first | rfl | exact r2) ?_; congr 2; omega⟩ ?_
  clear r0 r2 r4 r14 r15
  rintro k a A' ⟨ρ, s1, s2, rfl, hs, rfl, rfl, r0, r14, r17⟩
  refine aw_of ?_
  have hss := congrArg List.length hs
  rw [List.length_append] at hss
  rcases List.eq_nil_or_concat s1 with rfl | ⟨s1', x, rfl⟩
  · have ne : ¬ ((a1 + i : Nat) : Int) < ((a1 + i + ([] : List Value).length : Nat) : Int) := by simp
    simp (maxSteps := 1000000) (disch := first | omega | (simp only [z1, z2, z3, z4, z5, z6, z7] <;> omega) | fail) only [go_sem, r0, r14, r17, Try.results70]
    rw [List.nil_append] at hs
    rw [hs]
    refine gc_here ⟨rfl, ?_⟩
    congr 3
    simp
  · rw [List.concat_eq_append] at *
    rw [List.length_append, List.length_singleton] at hss
    have hDx : D x := hl x (by rw [hs]; simp)
    have hoy := hD1 y hy
    have hox := hD1 x hDx
    have hdat : p ++ (l1 ++ (s1' ++ [x] ++ y :: (s2 ++ q))) = (p ++ (l1 ++ s1')) ++ x :: y :: (s2 ++ q) := by simp
    rw [hdat]
    obtain ⟨jm, hjm⟩ : ∃ jm, jm = a1 + i + s1'.length := ⟨_, rfl⟩
    have hpl : (p ++ (l1 ++ s1')).length = jm := by rw [List.length_append, List.length_append, hjm, e1, hl1]; omega
    have c0 := at_app (p ++ (l1 ++ s1')) x (y :: (s2 ++ q))
    have c1 := at_app1 (p ++ (l1 ++ s1')) x y (s2 ++ q)
    have q1 := set_app1 (p ++ (l1 ++ s1')) x y x (s2 ++ q)
    have q0 := set_app (p ++ (l1 ++ s1')) x y (x :: (s2 ++ q))
    rw [hpl] at c0 c1 q0 q1
    have i0 := hv .i64 jm (by omega)
    have i1 := hv .i64 (jm + 1) (by omega)
    have z1 : ((p ++ (l1 ++ s1')) ++ x :: y :: (s2 ++ q)).length = n := by simp only [List.length_append, List.length_cons] at *; omega
    have z2 : ((p ++ (l1 ++ s1')) ++ x :: x :: (s2 ++ q)).length = n := by simp only [List.length_append, List.length_cons] at *; omega
    have st1 := storeC_val (A := A.upd b (nodB ((p ++ (l1 ++ s1')) ++ x :: y :: (s2 ++ q)))) (b := b) (off := jm + 1) (k := 0) (cs := (p ++ (l1 ++ s1')) ++ x :: y :: (s2 ++ q)) (e := 107) hox (Nat.zero_le _) (by omega)
    have st0 := storeC_val (A := A.upd b (nodB ((p ++ (l1 ++ s1')) ++ x :: x :: (s2 ++ q)))) (b := b) (off := jm) (k := 0) (cs := (p ++ (l1 ++ s1')) ++ x :: x :: (s2 ++ q)) (e := 107) hoy (Nat.zero_le _) (by omega)
    rw [q1, upd_upd] at st1
    rw [q0, upd_upd] at st0
    have hg0 := get_upd_same (A := A) b (nodB ((p ++ (l1 ++ s1')) ++ x :: y :: (s2 ++ q)))
    have hg1 := get_upd_same (A := A) b (nodB ((p ++ (l1 ++ s1')) ++ x :: x :: (s2 ++ q)))
    have hr17 : ((a1 + i + (s1' ++ [x]).length : Nat) : Int) = ((jm + 1 : Nat) : Int) := by rw [hjm, List.length_append, List.length_singleton]; omega
    rw [hr17] at r17
    have lt : ((a1 + i : Nat) : Int) < ((jm + 1 : Nat) : Int) := by omega
    have u1 : ((jm + 1 : Nat) : Int) - 1 = (jm : Int) := by omega
    simp (maxSteps := 1000000) (disch := first | omega | (simp only [z1, z2, z3, z4, z5, z6, z7] <;> omega) | fail) only [go_sem, r0, r14, r17]
    refine aw_draw2 [⟨false, [], [0]⟩, ⟨false, [], [0]⟩, ⟨false, [], [0, 1]⟩, ⟨false, [], [0, 1]⟩, ⟨false, [3], [0, 1]⟩, ⟨false, [], [0]⟩, ⟨false, [], [0]⟩, ⟨false, [6], [0]⟩, ⟨false, [5, 6, 7], [0]⟩, ⟨false, [5, 6, 7, 8], [0]⟩, ⟨false, [], [0]⟩, ⟨false, [], [0]⟩, ⟨false, [10, 11], [0]⟩, ⟨false, [10, 11, 12], [0]⟩, ⟨false, [0, 1, 5, 6, 7, 8, 9, 10, 11, 12, 13], [0]⟩, ⟨true, [0, 1, 5, 6, 7, 8, 9, 10, 11, 12, 13, 14], [0]⟩, ⟨false, [0, 1, 2, 3, 4, 5, 6, 7, 8, 9, 10, 11, 12, 13, 14, 15], [1]⟩, ⟨true, [0, 1, 2, 3, 4, 5, 6, 7, 8, 9, 10, 11, 12, 13, 14, 15, 16], [1]⟩] [A.upd b (nodB ((p ++ (l1 ++ s1')) ++ x :: y :: (s2 ++ q))), A.upd b (nodB ((p ++ (l1 ++ s1')) ++ x :: x :: (s2 ++ q))), A.upd b (nodB ((p ++ (l1 ++ s1')) ++ y :: x :: (s2 ++ q)))] 2 (by kernel_rfl) (by kernel_rfl) rfl ?_
    simp (maxSteps := 1000000) (disch := first | omega | (simp only [z1, z2, z3, z4, z5, z6, z7] <;> omega) | fail) only [go_sem, r0, r14, r17, u1, i0, i1, c0, c1, hg0, hg1, st0, st1]
    refine ⟨s1'.length, by simp, _, s1', x :: s2, rfl, by rw [hs]; simp, rfl, by simp, ?_, ?_, ?_⟩
    · simp (maxSteps := 1000000) (disch := first | omega | (simp only [z1, z2, z3, z4, z5, z6, z7] <;> omega) | fail) only [go_sem, r0]
    · simp (maxSteps := 1000000) (disch := first | omega | (simp only [z1, z2, z3, z4, z5, z6, z7] <;> omega) | fail) only [go_sem, r14]
    · simp (maxSteps := 1000000) (disch := first | omega | (simp only [z1, z2, z3, z4, z5, z6, z7] <;> omega) | fail) only [go_sem, u1]
      rw [hjm, Nat.add_assoc]
end Go.Fw

set_option linter.unusedSimpArgs false
set_option linter.unusedVariables false
set_option maxRecDepth 4000
namespace Go.Fw
open Go.Proofs Go.RowKit
variable {w0 : World} {A : St} {b n : Nat} {v : Value} {wt : Value → Int} {D : Value → Prop}
set_option maxHeartbeats 32000000 in
/-- Two sorted rows, one behind the other. -/
theorem symmerge_ok (hv : RowV v b n) (hn63 : n ≤ 1000000) (hc : CmpOk w0 A b wt D) (hD1 : ∀ x, D x → one1 x = true) : ∀ (N : Nat) (p l r q : List Value), l.length + r.length = N → p.length + (l.length + (r.length + q.length)) = n → l ≠ [] → r ≠ [] → (∀ x ∈ l, D x) → (∀ x ∈ r, D x) → Srtd wt l → Srtd wt r → ∀ (a1 a2 a3 : Nat), a1 = p.length → a2 = p.length + l.length → a3 = p.length + (l.length + r.length) →
    ACalls Try.prog w0 70 #[v, .int .i64 a1, .int .i64 a2, .int .i64 a3, cmpV] (A.upd b (nodB (p ++ (l ++ (r ++ q))))) (fin (.tuple #[]) (A.upd b (nodB (p ++ (srtK wt (l ++ r) ++ q))))) := by
  intro N
  induction N using Nat.strongRecOn with
  | _ N IH =>
  intro p l r q hN hlen hl0 hr0 hl hr sl sr a1 a2 a3 e1 e2 e3
  have pl := List.length_pos_iff.2 hl0
  have pr := List.length_pos_iff.2 hr0
  by_cases h1 : l.length = 1
  · obtain ⟨x, rfl⟩ := List.length_eq_one_iff.1 h1
    exact sym_one hv hn63 hc hD1 p x r q hlen (hl x (by simp)) hr sr a1 a2 a3 e1 e2 e3
  by_cases h2 : r.length = 1
  · obtain ⟨y, rfl⟩ := List.length_eq_one_iff.1 h2
    exact sym_last hv hn63 hc hD1 p l y q hlen (by omega) (hr y (by simp)) hl sl a1 a2 a3 e1 e2 e3
  refine call_E (l := [v, .int .i64 a1, .int .i64 a2, .int .i64 a3, cmpV]) Try.enters70 Try.func70 rfl (Nat.le_of_ble_eq_true rfl) fun hw hbd => ?_
  have d1 : (a2 : Int) - (a1 : Int) = (l.length : Int) := by omega
  have d2 : (a3 : Int) - (a2 : Int) = (r.length : Int) := by omega
  have hne1 : ¬ (l.length : Int) = 1 := by omega
  have hne2 : ¬ (r.length : Int) = 1 := by omega
  have hg := get_upd_same (A := A) b (nodB (p ++ (l ++ (r ++ q))))
  obtain ⟨M, hM⟩ : ∃ M, M = (l.length + r.length) / 2 := ⟨_, rfl⟩
  have hsh := half_eq a1 a3 (by omega)
  have hmid : (a1 + a3) / 2 = a1 + M := by omega
  rw [hmid] at hsh
  obtain ⟨mid, hmd⟩ : ∃ mid, mid = a1 + M := ⟨_, rfl⟩
  rw [← hmd] at hsh
  obtain ⟨S0, R0, hS0, hR0⟩ : ∃ S0 R0 : Nat, S0 = (if M < l.length then M - r.length else 0) ∧ R0 = (if M < l.length then M else l.length) := ⟨_, _, rfl, rfl⟩
  have hSR : S0 ≤ R0 ∧ R0 ≤ l.length ∧ R0 ≤ M ∧ M ≤ S0 + r.length ∧ (M < l.length → r.length ≤ M) := by
    by_cases h : M < l.length
    · rw [if_pos h] at hS0 hR0; omega
    · rw [if_neg h] at hS0 hR0; omega
  obtain ⟨g1, g2, g3, g4, g5⟩ := hSR
  have hsn : (mid : Int) + (a2 : Int) = ((mid + a2 : Nat) : Int) := by omega
  have hsp : ((mid + a2 : Nat) : Int) - 1 = ((mid + a2 - 1 : Nat) : Int) := by omega
  simp (maxSteps := 1000000) (disch := first | omega | (simp only [z1, z2, z3, z4, z5, z6, z7] <;> omega) | fail) only [go_sem, Try.ntmps70, Try.results70, d1, d2, hsh, hsn]
  refine ifB_join (fun a' A' => A' = A.upd b (nodB (p ++ (l ++ (r ++ q)))) ∧ ∃ ρ : Nat → Value, a' = E 220 ρ [] ∧ ρ 0 = v ∧ ρ 1 = .int .i64 a1 ∧ ρ 2 = .int .i64 a2 ∧ ρ 3 = .int .i64 a3 ∧ ρ 4 = cmpV ∧ ρ 18 = .int .i64 mid ∧ ρ 19 = .int .i64 ((mid + a2 : Nat) : Int) ∧ ρ 20 = .int .i64 ((a1 + S0 : Nat) : Int) ∧ ρ 21 = .int .i64 ((a1 + R0 : Nat) : Int)) (fun hb => ?_) (fun hb => ?_) ?_
  · have hb := of_decide_eq_true hb
    have hbr : M < l.length := by omega
    have hst : ((mid + a2 : Nat) : Int) - (a3 : Int) = ((a1 + S0 : Nat) : Int) := by rw [if_pos hbr] at hS0; have := g5 hbr; omega
    have hrr : (mid : Int) = ((a1 + R0 : Nat) : Int) := by rw [if_pos hbr] at hR0; omega
    simp (maxSteps := 1000000) (disch := first | omega | (simp only [z1, z2, z3, z4, z5, z6, z7] <;> omega) | fail) only [go_sem, normQ_normal, hst]
    refine ⟨_, rfl, rfl, rfl, rfl, rfl, rfl, rfl, rfl, rfl, ?_⟩
    show Value.int .i64 (mid : Int) = _
    rw [hrr]
  · have hb := of_decide_eq_false hb
    have hbr : ¬ M < l.length := by omega
    have hst : (a1 : Int) = ((a1 + S0 : Nat) : Int) := by rw [if_neg hbr] at hS0; omega
    have hrr : (a2 : Int) = ((a1 + R0 : Nat) : Int) := by rw [if_neg hbr] at hR0; omega
    simp (maxSteps := 1000000) (disch := first | omega | (simp only [z1, z2, z3, z4, z5, z6, z7] <;> omega) | fail) only [go_sem, normQ_normal]
    refine ⟨_, rfl, rfl, rfl, rfl, rfl, rfl, rfl, rfl, ?_, ?_⟩
    · show Value.int .i64 (a1 : Int) = _
      rw [← hst]
    · show Value.int .i64 (a2 : Int) = _
      rw [hrr]
  rintro a' A' ⟨rfl, ρ, rfl, r0, r1, r2, r3, r4, r18, r19, r20, r21⟩
  simp (maxSteps := 1000000) (disch := first | omega | (simp only [z1, z2, z3, z4, z5, z6, z7] <;> omega) | fail) only [go_sem, r0, r1, r2, r3, r4, r18, r19, r20, r21, hsp]
  refine cutL 8 (fun a' A' => A' = A.upd b (nodB (p ++ (l ++ (r ++ q)))) ∧ ∃ (ρ : Nat → Value) (i : Nat), a' = E 220 ρ [] ∧ S0 ≤ i ∧ i ≤ R0 ∧ (∀ t x y, S0 ≤ t → t < i → l[t]? = some x → r[M - 1 - t]? = some y → wt x ≤ wt y) ∧ (∀ t x y, i ≤ t → t < R0 → l[t]? = some x → r[M - 1 - t]? = some y → wt y < wt x) ∧ ρ 0 = v ∧ ρ 1 = .int .i64 a1 ∧ ρ 2 = .int .i64 a2 ∧ ρ 3 = .int .i64 a3 ∧ ρ 4 = cmpV ∧ ρ 18 = .int .i64 mid ∧ ρ 19 = .int .i64 ((mid + a2 : Nat) : Int) ∧ ρ 20 = .int .i64 ((a1 + i : Nat) : Int)) ?_ ?_
  · refine aw_loop (fun k a A' => ∃ (ρ : Nat → Value) (i j : Nat), a = E 220 ρ [] ∧ k = j - i ∧ S0 ≤ i ∧ i ≤ j ∧ j ≤ R0 ∧ (∀ t x y, S0 ≤ t → t < i → l[t]? = some x → r[M - 1 - t]? = some y → wt x ≤ wt y) ∧ (∀ t x y, j ≤ t → t < R0 → l[t]? = some x → r[M - 1 - t]? = some y → wt y < wt x) ∧ A' = A.upd b (nodB (p ++ (l ++ (r ++ q)))) ∧ ρ 0 = v ∧ ρ 1 = .int .i64 a1 ∧ ρ 2 = .int .i64 a2 ∧ ρ 3 = .int .i64 a3 ∧ ρ 4 = cmpV ∧ ρ 18 = .int .i64 mid ∧ ρ 19 = .int .i64 ((mid + a2 : Nat) : Int) ∧ ρ 20 = .int .i64 ((a1 + i : Nat) : Int) ∧ ρ 21 = .int .i64 ((a1 + j : Nat) : Int) ∧ ρ 22 = .int .i64 ((mid + a2 - 1 : Nat) : Int)) (R0 - S0)
      ⟨_, S0, R0, rfl, rfl, Nat.le_refl _, g1, Nat.le_refl _, (fun t x y h1 h2 => by omega), (fun t x y h1 h2 => by omega), rfl, by first | rfl | exact r0, by first | rfl | exact r1, by first | rfl | exact r2, by first | rfl | exact r3, by first | rfl | exact r4, by first | rfl | exact r18, by first | rfl | exact r19, by first | rfl | exact r20, by first | rfl | exact r21, rfl⟩ ?_
    clear r0 r1 r2 r3 r4 r18 r19 r20 r21
    rintro k a A' ⟨ρ, i, j, rfl, rfl, hSi, hij, hjR, hlo, hhi, rfl, r0, r1, r2, r3, r4, r18, r19, r20, r21, r22⟩
    refine aw_of ?_
    by_cases hlt : i < j
    · have hlt' : ((a1 + i : Nat) : Int) < ((a1 + j : Nat) : Int) := by omega
      have hsh2 := half_eq (a1 + i) (a1 + j) (by omega)
      obtain ⟨h, hh⟩ : ∃ h, h = (i + j) / 2 := ⟨_, rfl⟩
      have hhe : (a1 + i + (a1 + j)) / 2 = a1 + h := by omega
      rw [hhe] at hsh2
      have hir : i ≤ h ∧ h < j := by omega
      obtain ⟨x, hx⟩ : ∃ x, l[h]? = some x := ⟨l[h]'(by omega), List.getElem?_eq_getElem (by omega)⟩
      obtain ⟨y, hy⟩ : ∃ y, r[M - 1 - h]? = some y := ⟨r[M - 1 - h]'(by omega), List.getElem?_eq_getElem (by omega)⟩
      have ih := hv .i64 (a1 + h) (by omega)
      have ch : (p ++ (l ++ (r ++ q)))[a1 + h]? = some x := by rw [e1]; exact at_l hx
      obtain ⟨K, hK⟩ : ∃ K, K = a2 + (M - 1 - h) := ⟨_, rfl⟩
      have iK := hv .i64 K (by omega)
      have cK : (p ++ (l ++ (r ++ q)))[K]? = some y := by rw [show K = p.length + (l.length + (M - 1 - h)) by omega]; exact at_r hy
      have hcc := hc (p ++ (l ++ (r ++ q))) y x (hr y (List.mem_of_getElem? hy)) (hl x (List.mem_of_getElem? hx))
      obtain ⟨H, hH⟩ : ∃ H, H = a1 + h := ⟨_, rfl⟩
      rw [← hH] at hsh2 ih ch
      have hsub : ((mid + a2 - 1 : Nat) : Int) - (H : Int) = (K : Int) := by omega
      simp (maxSteps := 1000000) (disch := first | omega | (simp only [z1, z2, z3, z4, z5, z6, z7] <;> omega) | fail) only [go_sem, r0, r1, r2, r3, r4, r18, r19, r20, r21, r22, hsh2]
      refine aw_draw (by kernel_rfl) ?_
      simp (maxSteps := 1000000) (disch := first | omega | (simp only [z1, z2, z3, z4, z5, z6, z7] <;> omega) | fail) only [go_sem, r0, r4, r22, hsub, ih, iK, ch, cK, hg]
      refine ⟨_, hcc, ?_⟩
      by_cases hxy : wt y - wt x < 0
      · simp (maxSteps := 1000000) (disch := first | omega | (simp only [z1, z2, z3, z4, z5, z6, z7] <;> omega) | fail) only [go_sem, hxy]
        refine ⟨h - i, by omega, _, i, h, rfl, rfl, hSi, hir.1, by omega, hlo, fun t z u ht ht2 hz hu => ?_, ?_, ?_, ?_, ?_, ?_, ?_, ?_, ?_, ?_, ?_⟩
        · have := sl.at hx hz ht
          have := sr.at hu hy (by omega)
          omega
        · simp (maxSteps := 1000000) (disch := first | omega | (simp only [z1, z2, z3, z4, z5, z6, z7] <;> omega) | fail) only [go_sem, r0]
        · simp (maxSteps := 1000000) (disch := first | omega | (simp only [z1, z2, z3, z4, z5, z6, z7] <;> omega) | fail) only [go_sem, r1]
        · simp (maxSteps := 1000000) (disch := first | omega | (simp only [z1, z2, z3, z4, z5, z6, z7] <;> omega) | fail) only [go_sem, r2]
        · simp (maxSteps := 1000000) (disch := first | omega | (simp only [z1, z2, z3, z4, z5, z6, z7] <;> omega) | fail) only [go_sem, r3]
        · simp (maxSteps := 1000000) (disch := first | omega | (simp only [z1, z2, z3, z4, z5, z6, z7] <;> omega) | fail) only [go_sem, r4]
        · simp (maxSteps := 1000000) (disch := first | omega | (simp only [z1, z2, z3, z4, z5, z6, z7] <;> omega) | fail) only [go_sem, r18]
        · simp (maxSteps := 1000000) (disch := first | omega | (simp only [z1, z2, z3, z4, z5, z6, z7] <;> omega) | fail) only [go_sem, r19]
        · simp (maxSteps := 1000000) (disch := first | omega | (simp only [z1, z2, z3, z4, z5, z6, z7] <;> omega) | fail) only [go_sem, r20]
        · simp (maxSteps := 1000000) (disch := first | omega | (simp only [z1, z2, z3, z4, z5, z6, z7] <;> omega) | fail) only [go_sem, hH]
        · simp (maxSteps := 1000000) (disch := first | omega | (simp only [z1, z2, z3, z4, z5, z6, z7] <;> omega) | fail) only [go_sem, r22]
      · have hb1 : (H : Int) + 1 = ((a1 + (h + 1) : Nat) : Int) := by omega
        simp (maxSteps := 1000000) (disch := first | omega | (simp only [z1, z2, z3, z4, z5, z6, z7] <;> omega) | fail) only [go_sem, hxy, hb1]
        refine ⟨j - (h + 1), by omega, _, h + 1, j, rfl, rfl, by omega, by omega, hjR, fun t z u ht ht2 hz hu => ?_, hhi, ?_, ?_, ?_, ?_, ?_, ?_, ?_, ?_, ?_, ?_⟩
        · have := sl.at hz hx (by omega)
          have := sr.at hy hu (by omega)
          omega
        · simp (maxSteps := 1000000) (disch := first | omega | (simp only [z1, z2, z3, z4, z5, z6, z7] <;> omega) | fail) only [go_sem, r0]
        · simp (maxSteps := 1000000) (disch := first | omega | (simp only [z1, z2, z3, z4, z5, z6, z7] <;> omega) | fail) only [go_sem, r1]
        · simp (maxSteps := 1000000) (disch := first | omega | (simp only [z1, z2, z3, z4, z5, z6, z7] <;> omega) | fail) only [go_sem, r2]
        · simp (maxSteps := 1000000) (disch := first | omega | (simp only [z1, z2, z3, z4, z5, z6, z7] <;> omega) | fail) only [go_sem, r3]
        · simp (maxSteps := 1000000) (disch := first | omega | (simp only [z1, z2, z3, z4, z5, z6, z7] <;> omega) | fail) only [go_sem, r4]
        · simp (maxSteps := 1000000) (disch := first | omega | (simp only [z1, z2, z3, z4, z5, z6, z7] <;> omega) | fail) only [go_sem, r18]
        · simp (maxSteps := 1000000) (disch := first | omega | (simp only [z1, z2, z3, z4, z5, z6, z7] <;> omega) | fail) only [go_sem, r19]
        · simp (maxSteps := 1000000) (disch := first | omega | (simp only [z1, z2, z3, z4, z5, z6, z7] <;> omega) | fail) only [go_sem]
        · simp (maxSteps := 1000000) (disch := first | omega | (simp only [z1, z2, z3, z4, z5, z6, z7] <;> omega) | fail) only [go_sem, r21]
        · simp (maxSteps := 1000000) (disch := first | omega | (simp only [z1, z2, z3, z4, z5, z6, z7] <;> omega) | fail) only [go_sem, r22]
    obtain rfl : i = j := by omega
    have hlt' : ¬ ((a1 + i : Nat) : Int) < ((a1 + i : Nat) : Int) := by omega
    simp (maxSteps := 1000000) (disch := first | omega | (simp only [z1, z2, z3, z4, z5, z6, z7] <;> omega) | fail) only [go_sem, r0, r1, r2, r3, r4, r18, r19, r20, r21, exitQ_exit]
    refine ⟨_, i, rfl, hSi, hjR, hlo, hhi, ?_, ?_, ?_, ?_, ?_, ?_, ?_, ?_⟩
    · simp (maxSteps := 1000000) (disch := first | omega | (simp only [z1, z2, z3, z4, z5, z6, z7] <;> omega) | fail) only [go_sem, r0]
    · simp (maxSteps := 1000000) (disch := first | omega | (simp only [z1, z2, z3, z4, z5, z6, z7] <;> omega) | fail) only [go_sem, r1]
    · simp (maxSteps := 1000000) (disch := first | omega | (simp only [z1, z2, z3, z4, z5, z6, z7] <;> omega) | fail) only [go_sem, r2]
    · simp (maxSteps := 1000000) (disch := first | omega | (simp only [z1, z2, z3, z4, z5, z6, z7] <;> omega) | fail) only [go_sem, r3]
    · simp (maxSteps := 1000000) (disch := first | omega | (simp only [z1, z2, z3, z4, z5, z6, z7] <;> omega) | fail) only [go_sem, r4]
    · simp (maxSteps := 1000000) (disch := first | omega | (simp only [z1, z2, z3, z4, z5, z6, z7] <;> omega) | fail) only [go_sem, r18]
    · simp (maxSteps := 1000000) (disch := first | omega | (simp only [z1, z2, z3, z4, z5, z6, z7] <;> omega) | fail) only [go_sem, r19]
    · simp (maxSteps := 1000000) (disch := first | omega | (simp only [z1, z2, z3, z4, z5, z6, z7] <;> omega) | fail) only [go_sem, r20]
  clear r0 r1 r2 r3 r4 r18 r19 r20 r21
  rintro a' A' ⟨rfl, ρ, i, rfl, hSi, hiR, hlo, hhi, r0, r1, r2, r3, r4, r18, r19, r20⟩
  simp only [blockQ_exit, if_true, thenQ_normal, wpA_seq]
  obtain ⟨X, U, rfl, hXl⟩ : ∃ X U, l = X ++ U ∧ X.length = i := ⟨l.take i, l.drop i, (List.take_append_drop ..).symm, by rw [List.length_take]; omega⟩
  obtain ⟨V, Y, rfl, hVl⟩ : ∃ V Y, r = V ++ Y ∧ V.length = M - i := ⟨r.take (M - i), r.drop (M - i), (List.take_append_drop ..).symm, by rw [List.length_take]; omega⟩
  have hS0' : S0 = M - (V ++ Y).length ∨ S0 = 0 := by
    by_cases h : M < (X ++ U).length
    · exact .inl (by rw [hS0, if_pos h])
    · exact .inr (by rw [hS0, if_neg h])
  have hR0' : R0 = M ∨ R0 = (X ++ U).length := by
    by_cases h : M < (X ++ U).length
    · exact .inl (by rw [hR0, if_pos h])
    · exact .inr (by rw [hR0, if_neg h])
  have hUV : ∀ x ∈ U, ∀ y ∈ V, wt y < wt x := fun x hx y hy => by
    obtain ⟨t, ht, et⟩ := List.getElem_of_mem hx
    obtain ⟨s, hs, es⟩ := List.getElem_of_mem hy
    have lt : (X ++ U).length = X.length + U.length := List.length_append
    have lv : (V ++ Y).length = V.length + Y.length := List.length_append
    have q1 : (X ++ U)[i]? = some (U[0]'(by omega)) := by rw [List.getElem?_append_right (by omega), hXl, Nat.sub_self]; exact List.getElem?_eq_getElem (by omega)
    have q2 : (V ++ Y)[M - 1 - i]? = some (V[M - 1 - i]'(by omega)) := by rw [List.getElem?_append_left (by omega)]; exact List.getElem?_eq_getElem (by omega)
    have h1 := hhi i _ _ (Nat.le_refl _) (by omega) q1 q2
    have q3 : (X ++ U)[i + t]? = some x := by rw [List.getElem?_append_right (by omega), show i + t - X.length = t by omega, List.getElem?_eq_getElem ht, et]
    have q4 : (V ++ Y)[s]? = some y := by rw [List.getElem?_append_left hs, List.getElem?_eq_getElem hs, es]
    have h2 := sl.at q1 q3 (by omega)
    have h3 := sr.at q4 q2 (by omega)
    omega
  have hXY : ∀ x ∈ X, ∀ y ∈ Y, wt x ≤ wt y := fun x hx y hy => by
    obtain ⟨t, ht, et⟩ := List.getElem_of_mem hx
    obtain ⟨s, hs, es⟩ := List.getElem_of_mem hy
    have lt : (X ++ U).length = X.length + U.length := List.length_append
    have lv : (V ++ Y).length = V.length + Y.length := List.length_append
    have q1 : (X ++ U)[i - 1]? = some (X[i - 1]'(by omega)) := by rw [List.getElem?_append_left (by omega)]; exact List.getElem?_eq_getElem (by omega)
    have q2 : (V ++ Y)[M - 1 - (i - 1)]? = some (Y[0]'(by omega)) := by rw [List.getElem?_append_right (by omega), show M - 1 - (i - 1) - V.length = 0 by omega]; exact List.getElem?_eq_getElem (by omega)
    have h1 := hlo (i - 1) _ _ (by omega) (by omega) q1 q2
    have q3 : (X ++ U)[t]? = some x := by rw [List.getElem?_append_left ht, List.getElem?_eq_getElem ht, et]
    have q4 : (V ++ Y)[V.length + s]? = some y := by rw [List.getElem?_append_right (by omega), show V.length + s - V.length = s by omega, List.getElem?_eq_getElem hs, es]
    have h2 := sl.at q3 q1 (by omega)
    have h3 := sr.at q2 q4 (by omega)
    omega
  rw [← sym_fin sl sr hUV hXY]
  have slX : Srtd wt X := by unfold Srtd at sl ⊢; rw [List.pairwise_append] at sl; exact sl.1
  have slU : Srtd wt U := by unfold Srtd at sl ⊢; rw [List.pairwise_append] at sl; exact sl.2.1
  have srV : Srtd wt V := by unfold Srtd at sr ⊢; rw [List.pairwise_append] at sr; exact sr.1
  have srY : Srtd wt Y := by unfold Srtd at sr ⊢; rw [List.pairwise_append] at sr; exact sr.2.1
  have hDX : ∀ x ∈ X, D x := fun x hx => hl x (by simp [hx])
  have hDU : ∀ x ∈ U, D x := fun x hx => hl x (by simp [hx])
  have hDV : ∀ x ∈ V, D x := fun x hx => hr x (by simp [hx])
  have hDY : ∀ x ∈ Y, D x := fun x hx => hr x (by simp [hx])
  simp only [List.length_append] at hlen e2 e3 hM hN pl pr g2 g4
  obtain ⟨en, hen⟩ : ∃ en, en = a2 + (M - i) := ⟨_, rfl⟩
  have hend : ((mid + a2 : Nat) : Int) - ((a1 + i : Nat) : Int) = (en : Int) := by omega
  have hd0 : p ++ (X ++ U ++ (V ++ Y ++ q)) = (p ++ X) ++ (U ++ (V ++ (Y ++ q))) := by simp
  have hd1 : (p ++ X) ++ (V ++ (U ++ (Y ++ q))) = p ++ (X ++ (V ++ (U ++ (Y ++ q)))) := by simp
  have hsV := srtK_len (k := wt) (X ++ V)
  rw [List.length_append] at hsV
  have left : X ≠ [] → V ≠ [] → ACalls Try.prog w0 70 #[v, .int .i64 a1, .int .i64 ((a1 + i : Nat) : Int), .int .i64 mid, cmpV] (A.upd b (nodB (p ++ (X ++ (V ++ (U ++ (Y ++ q))))))) (fin (.tuple #[]) (A.upd b (nodB (p ++ (srtK wt (X ++ V) ++ (U ++ (Y ++ q))))))) := fun hX hV =>
    IH (X.length + V.length) (by omega) p X V (U ++ (Y ++ q)) rfl (by simp only [List.length_append]; omega) hX hV hDX hDV slX srV a1 (a1 + i) mid e1 (by omega) (by omega)
  have right : U ≠ [] → Y ≠ [] → ACalls Try.prog w0 70 #[v, .int .i64 mid, .int .i64 en, .int .i64 a3, cmpV] (A.upd b (nodB ((p ++ srtK wt (X ++ V)) ++ (U ++ (Y ++ q))))) (fin (.tuple #[]) (A.upd b (nodB ((p ++ srtK wt (X ++ V)) ++ (srtK wt (U ++ Y) ++ q))))) := fun hU hY =>
    IH (U.length + Y.length) (by omega) (p ++ srtK wt (X ++ V)) U Y q rfl (by simp only [List.length_append]; omega) hU hY hDU hDY slU srY mid en a3 (by simp only [List.length_append]; omega) (by simp only [List.length_append]; omega) (by simp only [List.length_append]; omega)
  have rot : U ≠ [] → V ≠ [] → ACalls Try.prog w0 71 #[v, .int .i64 ((a1 + i : Nat) : Int), .int .i64 a2, .int .i64 en, cmpV] (A.upd b (nodB ((p ++ X) ++ (U ++ (V ++ (Y ++ q)))))) (fin (.tuple #[]) (A.upd b (nodB ((p ++ X) ++ (V ++ (U ++ (Y ++ q))))))) := fun hU hV =>
    rotate_ok w0 A b n v hv hn63 (p ++ X) U V (Y ++ q) hU hV (by simp only [List.length_append]; omega) (fun x hx => hD1 x (hDU x hx)) (fun x hx => hD1 x (hDV x hx)) (a1 + i) a2 en (by simp only [List.length_append]; omega) (by simp only [List.length_append]; omega) (by simp only [List.length_append]; omega)
  have hfin : (p ++ srtK wt (X ++ V)) ++ (srtK wt (U ++ Y) ++ q) = p ++ (srtK wt (X ++ V) ++ srtK wt (U ++ Y) ++ q) := by simp
  have nlX : X = [] ↔ i = 0 := by rw [← hXl]; exact List.length_eq_zero_iff.symm
  have nlU : U = [] ↔ U.length = 0 := List.length_eq_zero_iff.symm
  have nlV : V = [] ↔ M - i = 0 := by rw [← hVl]; exact List.length_eq_zero_iff.symm
  have nlY : Y = [] ↔ Y.length = 0 := List.length_eq_zero_iff.symm
  -- a world whose rows stand rotated
  rw [hd0]
  refine cutW (fun a' A' => A' = A.upd b (nodB ((p ++ X) ++ (U ++ (V ++ (Y ++ q))))) ∧ ∃ ρ : Nat → Value, a' = E 220 ρ [] ∧ ρ 0 = v ∧ ρ 1 = .int .i64 a1 ∧ ρ 2 = .int .i64 a2 ∧ ρ 3 = .int .i64 a3 ∧ ρ 4 = cmpV ∧ ρ 18 = .int .i64 mid ∧ ρ 20 = .int .i64 ((a1 + i : Nat) : Int) ∧ ρ 24 = .int .i64 (en : Int)) ?_ ?_
  · simp (maxSteps := 1000000) (disch := first | omega | (simp only [z1, z2, z3, z4, z5, z6, z7] <;> omega) | fail) only [go_sem, r0, r1, r2, r3, r4, r18, r19, r20, hend, normQ_normal]
    refine ⟨_, rfl, ?_, ?_, ?_, ?_, ?_, ?_, ?_, ?_⟩
    · simp (maxSteps := 1000000) (disch := first | omega | (simp only [z1, z2, z3, z4, z5, z6, z7] <;> omega) | fail) only [go_sem, r0]
    · simp (maxSteps := 1000000) (disch := first | omega | (simp only [z1, z2, z3, z4, z5, z6, z7] <;> omega) | fail) only [go_sem, r1]
    · simp (maxSteps := 1000000) (disch := first | omega | (simp only [z1, z2, z3, z4, z5, z6, z7] <;> omega) | fail) only [go_sem, r2]
    · simp (maxSteps := 1000000) (disch := first | omega | (simp only [z1, z2, z3, z4, z5, z6, z7] <;> omega) | fail) only [go_sem, r3]
    · simp (maxSteps := 1000000) (disch := first | omega | (simp only [z1, z2, z3, z4, z5, z6, z7] <;> omega) | fail) only [go_sem, r4]
    · simp (maxSteps := 1000000) (disch := first | omega | (simp only [z1, z2, z3, z4, z5, z6, z7] <;> omega) | fail) only [go_sem, r18]
    · simp (maxSteps := 1000000) (disch := first | omega | (simp only [z1, z2, z3, z4, z5, z6, z7] <;> omega) | fail) only [go_sem, r20]
    · simp (maxSteps := 1000000) (disch := first | omega | (simp only [z1, z2, z3, z4, z5, z6, z7] <;> omega) | fail) only [go_sem]
  clear r0 r1 r2 r3 r4 r18 r19 r20
  rintro a' A' ⟨rfl, ρ, rfl, r0, r1, r2, r3, r4, r18, r20, r24⟩
  simp only [thenQ_normal, wpA_seq]
  obtain ⟨B185, hB185⟩ : ∃ B : Bool, B = decide (U ≠ [] ∧ V ≠ []) := ⟨_, rfl⟩
  refine cutW (fun a' A' => A' = A.upd b (nodB ((p ++ X) ++ (U ++ (V ++ (Y ++ q))))) ∧ ∃ ρ : Nat → Value, a' = E 220 ρ [] ∧ ρ 0 = v ∧ ρ 1 = .int .i64 a1 ∧ ρ 2 = .int .i64 a2 ∧ ρ 3 = .int .i64 a3 ∧ ρ 4 = cmpV ∧ ρ 18 = .int .i64 mid ∧ ρ 20 = .int .i64 ((a1 + i : Nat) : Int) ∧ ρ 24 = .int .i64 (en : Int) ∧ ρ 185 = .bool B185) ?_ ?_
  · by_cases z1 : U = []
    · have y1 : ¬ ((a1 + i : Nat) : Int) < (a2 : Int) := by have := nlU.1 z1; omega
      have hf : B185 = false := by rw [hB185]; exact decide_eq_false (fun h => h.1 z1)
      simp (maxSteps := 1000000) (disch := first | omega | (simp only [z1, z2, z3, z4, z5, z6, z7] <;> omega) | fail) only [go_sem, r0, r1, r2, r3, r4, r18, r20, r24, normQ_normal]
      refine ⟨_, rfl, ?_, ?_, ?_, ?_, ?_, ?_, ?_, ?_, ?_⟩
      · simp (maxSteps := 1000000) (disch := first | omega | (simp only [z1, z2, z3, z4, z5, z6, z7] <;> omega) | fail) only [go_sem, r0]
      · simp (maxSteps := 1000000) (disch := first | omega | (simp only [z1, z2, z3, z4, z5, z6, z7] <;> omega) | fail) only [go_sem, r1]
      · simp (maxSteps := 1000000) (disch := first | omega | (simp only [z1, z2, z3, z4, z5, z6, z7] <;> omega) | fail) only [go_sem, r2]
      · simp (maxSteps := 1000000) (disch := first | omega | (simp only [z1, z2, z3, z4, z5, z6, z7] <;> omega) | fail) only [go_sem, r3]
      · simp (maxSteps := 1000000) (disch := first | omega | (simp only [z1, z2, z3, z4, z5, z6, z7] <;> omega) | fail) only [go_sem, r4]
      · simp (maxSteps := 1000000) (disch := first | omega | (simp only [z1, z2, z3, z4, z5, z6, z7] <;> omega) | fail) only [go_sem, r18]
      · simp (maxSteps := 1000000) (disch := first | omega | (simp only [z1, z2, z3, z4, z5, z6, z7] <;> omega) | fail) only [go_sem, r20]
      · simp (maxSteps := 1000000) (disch := first | omega | (simp only [z1, z2, z3, z4, z5, z6, z7] <;> omega) | fail) only [go_sem, r24]
      · simp (maxSteps := 1000000) (disch := first | omega | (simp only [z1, z2, z3, z4, z5, z6, z7] <;> omega) | fail) only [go_sem, hf]
    · have y1 : ((a1 + i : Nat) : Int) < (a2 : Int) := by have : ¬ U.length = 0 := fun h => z1 (nlU.2 h); omega
      by_cases z2 : V = []
      · have y2 : ¬ (a2 : Int) < (en : Int) := by have := nlV.1 z2; omega
        have hf : B185 = false := by rw [hB185]; exact decide_eq_false (fun h => h.2 z2)
        simp (maxSteps := 1000000) (disch := first | omega | (simp only [z1, z2, z3, z4, z5, z6, z7] <;> omega) | fail) only [go_sem, r0, r1, r2, r3, r4, r18, r20, r24, normQ_normal]
        refine ⟨_, rfl, ?_, ?_, ?_, ?_, ?_, ?_, ?_, ?_, ?_⟩
        · simp (maxSteps := 1000000) (disch := first | omega | (simp only [z1, z2, z3, z4, z5, z6, z7] <;> omega) | fail) only [go_sem, r0]
        · simp (maxSteps := 1000000) (disch := first | omega | (simp only [z1, z2, z3, z4, z5, z6, z7] <;> omega) | fail) only [go_sem, r1]
        · simp (maxSteps := 1000000) (disch := first | omega | (simp only [z1, z2, z3, z4, z5, z6, z7] <;> omega) | fail) only [go_sem, r2]
        · simp (maxSteps := 1000000) (disch := first | omega | (simp only [z1, z2, z3, z4, z5, z6, z7] <;> omega) | fail) only [go_sem, r3]
        · simp (maxSteps := 1000000) (disch := first | omega | (simp only [z1, z2, z3, z4, z5, z6, z7] <;> omega) | fail) only [go_sem, r4]
        · simp (maxSteps := 1000000) (disch := first | omega | (simp only [z1, z2, z3, z4, z5, z6, z7] <;> omega) | fail) only [go_sem, r18]
        · simp (maxSteps := 1000000) (disch := first | omega | (simp only [z1, z2, z3, z4, z5, z6, z7] <;> omega) | fail) only [go_sem, r20]
        · simp (maxSteps := 1000000) (disch := first | omega | (simp only [z1, z2, z3, z4, z5, z6, z7] <;> omega) | fail) only [go_sem, r24]
        · simp (maxSteps := 1000000) (disch := first | omega | (simp only [z1, z2, z3, z4, z5, z6, z7] <;> omega) | fail) only [go_sem, hf]
          rw [decide_eq_false (fun h => y2 h.2)]
      · have y2 : (a2 : Int) < (en : Int) := by have : ¬ M - i = 0 := fun h => z2 (nlV.2 h); omega
        have hf : B185 = true := by rw [hB185]; exact decide_eq_true ⟨z1, z2⟩
        simp (maxSteps := 1000000) (disch := first | omega | (simp only [z1, z2, z3, z4, z5, z6, z7] <;> omega) | fail) only [go_sem, r0, r1, r2, r3, r4, r18, r20, r24, normQ_normal]
        refine ⟨_, rfl, ?_, ?_, ?_, ?_, ?_, ?_, ?_, ?_, ?_⟩
        · simp (maxSteps := 1000000) (disch := first | omega | (simp only [z1, z2, z3, z4, z5, z6, z7] <;> omega) | fail) only [go_sem, r0]
        · simp (maxSteps := 1000000) (disch := first | omega | (simp only [z1, z2, z3, z4, z5, z6, z7] <;> omega) | fail) only [go_sem, r1]
        · simp (maxSteps := 1000000) (disch := first | omega | (simp only [z1, z2, z3, z4, z5, z6, z7] <;> omega) | fail) only [go_sem, r2]
        · simp (maxSteps := 1000000) (disch := first | omega | (simp only [z1, z2, z3, z4, z5, z6, z7] <;> omega) | fail) only [go_sem, r3]
        · simp (maxSteps := 1000000) (disch := first | omega | (simp only [z1, z2, z3, z4, z5, z6, z7] <;> omega) | fail) only [go_sem, r4]
        · simp (maxSteps := 1000000) (disch := first | omega | (simp only [z1, z2, z3, z4, z5, z6, z7] <;> omega) | fail) only [go_sem, r18]
        · simp (maxSteps := 1000000) (disch := first | omega | (simp only [z1, z2, z3, z4, z5, z6, z7] <;> omega) | fail) only [go_sem, r20]
        · simp (maxSteps := 1000000) (disch := first | omega | (simp only [z1, z2, z3, z4, z5, z6, z7] <;> omega) | fail) only [go_sem, r24]
        · simp (maxSteps := 1000000) (disch := first | omega | (simp only [z1, z2, z3, z4, z5, z6, z7] <;> omega) | fail) only [go_sem, hf]
          rw [decide_eq_true ⟨y1, y2⟩]
  clear r0 r1 r2 r3 r4 r18 r20 r24
  rintro a' A' ⟨rfl, ρ, rfl, r0, r1, r2, r3, r4, r18, r20, r24, rb⟩
  simp only [thenQ_normal, wpA_seq]
  simp (maxSteps := 1000000) (disch := first | omega | (simp only [z1, z2, z3, z4, z5, z6, z7] <;> omega) | fail) only [go_sem, rb]
  refine ifB_join (fun a' A' => A' = A.upd b (nodB (p ++ (X ++ (V ++ (U ++ (Y ++ q)))))) ∧ ∃ ρ : Nat → Value, a' = E 220 ρ [] ∧ ρ 0 = v ∧ ρ 1 = .int .i64 a1 ∧ ρ 2 = .int .i64 a2 ∧ ρ 3 = .int .i64 a3 ∧ ρ 4 = cmpV ∧ ρ 18 = .int .i64 mid ∧ ρ 20 = .int .i64 ((a1 + i : Nat) : Int) ∧ ρ 24 = .int .i64 (en : Int)) (fun hb => ?_) (fun hb => ?_) ?_
  · rw [hb] at hB185
    obtain ⟨z1, z2⟩ := of_decide_eq_true hB185.symm
    simp (maxSteps := 1000000) (disch := first | omega | (simp only [z1, z2, z3, z4, z5, z6, z7] <;> omega) | fail) only [go_sem, r0, r1, r2, r3, r4, r18, r20, r24]
    refine call1 (rot z1 z2) ?_
    rw [hd1]
    simp (maxSteps := 1000000) (disch := first | omega | (simp only [z1, z2, z3, z4, z5, z6, z7] <;> omega) | fail) only [go_sem, r0, r1, r2, r3, r4, r18, r20, r24, normQ_normal]
    refine ⟨_, rfl, ?_, ?_, ?_, ?_, ?_, ?_, ?_, ?_⟩
    · simp (maxSteps := 1000000) (disch := first | omega | (simp only [z1, z2, z3, z4, z5, z6, z7] <;> omega) | fail) only [go_sem, r0]
    · simp (maxSteps := 1000000) (disch := first | omega | (simp only [z1, z2, z3, z4, z5, z6, z7] <;> omega) | fail) only [go_sem, r1]
    · simp (maxSteps := 1000000) (disch := first | omega | (simp only [z1, z2, z3, z4, z5, z6, z7] <;> omega) | fail) only [go_sem, r2]
    · simp (maxSteps := 1000000) (disch := first | omega | (simp only [z1, z2, z3, z4, z5, z6, z7] <;> omega) | fail) only [go_sem, r3]
    · simp (maxSteps := 1000000) (disch := first | omega | (simp only [z1, z2, z3, z4, z5, z6, z7] <;> omega) | fail) only [go_sem, r4]
    · simp (maxSteps := 1000000) (disch := first | omega | (simp only [z1, z2, z3, z4, z5, z6, z7] <;> omega) | fail) only [go_sem, r18]
    · simp (maxSteps := 1000000) (disch := first | omega | (simp only [z1, z2, z3, z4, z5, z6, z7] <;> omega) | fail) only [go_sem, r20]
    · simp (maxSteps := 1000000) (disch := first | omega | (simp only [z1, z2, z3, z4, z5, z6, z7] <;> omega) | fail) only [go_sem, r24]
  · rw [hb] at hB185
    have z := of_decide_eq_false hB185.symm
    have e : (p ++ X) ++ (U ++ (V ++ (Y ++ q))) = p ++ (X ++ (V ++ (U ++ (Y ++ q)))) := by
      by_cases hU : U = []
      · rw [hU]; simp
      · have hV : V = [] := Classical.byContradiction fun hV => z ⟨hU, hV⟩
        rw [hV]; simp
    rw [e]
    simp (maxSteps := 1000000) (disch := first | omega | (simp only [z1, z2, z3, z4, z5, z6, z7] <;> omega) | fail) only [go_sem, normQ_normal]
    exact ⟨ρ, rfl, r0, r1, r2, r3, r4, r18, r20, r24⟩
  clear r0 r1 r2 r3 r4 r18 r20 r24 rb
  rintro a' A' ⟨rfl, ρ, rfl, r0, r1, r2, r3, r4, r18, r20, r24⟩
  simp only [thenQ_normal, wpA_seq]
  obtain ⟨B199, hB199⟩ : ∃ B : Bool, B = decide (X ≠ [] ∧ V ≠ []) := ⟨_, rfl⟩
  refine cutW (fun a' A' => A' = A.upd b (nodB (p ++ (X ++ (V ++ (U ++ (Y ++ q)))))) ∧ ∃ ρ : Nat → Value, a' = E 220 ρ [] ∧ ρ 0 = v ∧ ρ 1 = .int .i64 a1 ∧ ρ 2 = .int .i64 a2 ∧ ρ 3 = .int .i64 a3 ∧ ρ 4 = cmpV ∧ ρ 18 = .int .i64 mid ∧ ρ 20 = .int .i64 ((a1 + i : Nat) : Int) ∧ ρ 24 = .int .i64 (en : Int) ∧ ρ 199 = .bool B199) ?_ ?_
  · by_cases z1 : X = []
    · have y1 : ¬ (a1 : Int) < ((a1 + i : Nat) : Int) := by have := nlX.1 z1; omega
      have hf : B199 = false := by rw [hB199]; exact decide_eq_false (fun h => h.1 z1)
      simp (maxSteps := 1000000) (disch := first | omega | (simp only [z1, z2, z3, z4, z5, z6, z7] <;> omega) | fail) only [go_sem, r0, r1, r2, r3, r4, r18, r20, r24, normQ_normal]
      refine ⟨_, rfl, ?_, ?_, ?_, ?_, ?_, ?_, ?_, ?_, ?_⟩
      · simp (maxSteps := 1000000) (disch := first | omega | (simp only [z1, z2, z3, z4, z5, z6, z7] <;> omega) | fail) only [go_sem, r0]
      · simp (maxSteps := 1000000) (disch := first | omega | (simp only [z1, z2, z3, z4, z5, z6, z7] <;> omega) | fail) only [go_sem, r1]
      · simp (maxSteps := 1000000) (disch := first | omega | (simp only [z1, z2, z3, z4, z5, z6, z7] <;> omega) | fail) only [go_sem, r2]
      · simp (maxSteps := 1000000) (disch := first | omega | (simp only [z1, z2, z3, z4, z5, z6, z7] <;> omega) | fail) only [go_sem, r3]
      · simp (maxSteps := 1000000) (disch := first | omega | (simp only [z1, z2, z3, z4, z5, z6, z7] <;> omega) | fail) only [go_sem, r4]
      · simp (maxSteps := 1000000) (disch := first | omega | (simp only [z1, z2, z3, z4, z5, z6, z7] <;> omega) | fail) only [go_sem, r18]
      · simp (maxSteps := 1000000) (disch := first | omega | (simp only [z1, z2, z3, z4, z5, z6, z7] <;> omega) | fail) only [go_sem, r20]
      · simp (maxSteps := 1000000) (disch := first | omega | (simp only [z1, z2, z3, z4, z5, z6, z7] <;> omega) | fail) only [go_sem, r24]
      · simp (maxSteps := 1000000) (disch := first | omega | (simp only [z1, z2, z3, z4, z5, z6, z7] <;> omega) | fail) only [go_sem, hf]
    · have y1 : (a1 : Int) < ((a1 + i : Nat) : Int) := by have : ¬ i = 0 := fun h => z1 (nlX.2 h); omega
      by_cases z2 : V = []
      · have y2 : ¬ ((a1 + i : Nat) : Int) < (mid : Int) := by have := nlV.1 z2; omega
        have hf : B199 = false := by rw [hB199]; exact decide_eq_false (fun h => h.2 z2)
        simp (maxSteps := 1000000) (disch := first | omega | (simp only [z1, z2, z3, z4, z5, z6, z7] <;> omega) | fail) only [go_sem, r0, r1, r2, r3, r4, r18, r20, r24, normQ_normal]
        refine ⟨_, rfl, ?_, ?_, ?_, ?_, ?_, ?_, ?_, ?_, ?_⟩
        · simp (maxSteps := 1000000) (disch := first | omega | (simp only [z1, z2, z3, z4, z5, z6, z7] <;> omega) | fail) only [go_sem, r0]
        · simp (maxSteps := 1000000) (disch := first | omega | (simp only [z1, z2, z3, z4, z5, z6, z7] <;> omega) | fail) only [go_sem, r1]
        · simp (maxSteps := 1000000) (disch := first | omega | (simp only [z1, z2, z3, z4, z5, z6, z7] <;> omega) | fail) only [go_sem, r2]
        · simp (maxSteps := 1000000) (disch := first | omega | (simp only [z1, z2, z3, z4, z5, z6, z7] <;> omega) | fail) only [go_sem, r3]
        · simp (maxSteps := 1000000) (disch := first | omega | (simp only [z1, z2, z3, z4, z5, z6, z7] <;> omega) | fail) only [go_sem, r4]
        · simp (maxSteps := 1000000) (disch := first | omega | (simp only [z1, z2, z3, z4, z5, z6, z7] <;> omega) | fail) only [go_sem, r18]
        · simp (maxSteps := 1000000) (disch := first | omega | (simp only [z1, z2, z3, z4, z5, z6, z7] <;> omega) | fail) only [go_sem, r20]
        · simp (maxSteps := 1000000) (disch := first | omega | (simp only [z1, z2, z3, z4, z5, z6, z7] <;> omega) | fail) only [go_sem, r24]
        · simp (maxSteps := 1000000) (disch := first | omega | (simp only [z1, z2, z3, z4, z5, z6, z7] <;> omega) | fail) only [go_sem, hf]
          rw [decide_eq_false (fun h => y2 h.2)]
      · have y2 : ((a1 + i : Nat) : Int) < (mid : Int) := by have : ¬ M - i = 0 := fun h => z2 (nlV.2 h); omega
        have hf : B199 = true := by rw [hB199]; exact decide_eq_true ⟨z1, z2⟩
        simp (maxSteps := 1000000) (disch := first | omega | (simp only [z1, z2, z3, z4, z5, z6, z7] <;> omega) | fail) only [go_sem, r0, r1, r2, r3, r4, r18, r20, r24, normQ_normal]
        refine ⟨_, rfl, ?_, ?_, ?_, ?_, ?_, ?_, ?_, ?_, ?_⟩
        · simp (maxSteps := 1000000) (disch := first | omega | (simp only [z1, z2, z3, z4, z5, z6, z7] <;> omega) | fail) only [go_sem, r0]
        · simp (maxSteps := 1000000) (disch := first | omega | (simp only [z1, z2, z3, z4, z5, z6, z7] <;> omega) | fail) only [go_sem, r1]
        · simp (maxSteps := 1000000) (disch := first | omega | (simp only [z1, z2, z3, z4, z5, z6, z7] <;> omega) | fail) only [go_sem, r2]
        · simp (maxSteps := 1000000) (disch := first | omega | (simp only [z1, z2, z3, z4, z5, z6, z7] <;> omega) | fail) only [go_sem, r3]
        · simp (maxSteps := 1000000) (disch := first | omega | (simp only [z1, z2, z3, z4, z5, z6, z7] <;> omega) | fail) only [go_sem, r4]
        · simp (maxSteps := 1000000) (disch := first | omega | (simp only [z1, z2, z3, z4, z5, z6, z7] <;> omega) | fail) only [go_sem, r18]
        · simp (maxSteps := 1000000) (disch := first | omega | (simp only [z1, z2, z3, z4, z5, z6, z7] <;> omega) | fail) only [go_sem, r20]
        · simp (maxSteps := 1000000) (disch := first | omega | (simp only [z1, z2, z3, z4, z5, z6, z7] <;> omega) | fail) only [go_sem, r24]
        · simp (maxSteps := 1000000) (disch := first | omega | (simp only [z1, z2, z3, z4, z5, z6, z7] <;> omega) | fail) only [go_sem, hf]
          rw [decide_eq_true ⟨y1, y2⟩]
  clear r0 r1 r2 r3 r4 r18 r20 r24
  rintro a' A' ⟨rfl, ρ, rfl, r0, r1, r2, r3, r4, r18, r20, r24, rb⟩
  simp only [thenQ_normal, wpA_seq]
  simp (maxSteps := 1000000) (disch := first | omega | (simp only [z1, z2, z3, z4, z5, z6, z7] <;> omega) | fail) only [go_sem, rb]
  refine ifB_join (fun a' A' => A' = A.upd b (nodB ((p ++ srtK wt (X ++ V)) ++ (U ++ (Y ++ q)))) ∧ ∃ ρ : Nat → Value, a' = E 220 ρ [] ∧ ρ 0 = v ∧ ρ 1 = .int .i64 a1 ∧ ρ 2 = .int .i64 a2 ∧ ρ 3 = .int .i64 a3 ∧ ρ 4 = cmpV ∧ ρ 18 = .int .i64 mid ∧ ρ 20 = .int .i64 ((a1 + i : Nat) : Int) ∧ ρ 24 = .int .i64 (en : Int)) (fun hb => ?_) (fun hb => ?_) ?_
  · rw [hb] at hB199
    obtain ⟨z1, z2⟩ := of_decide_eq_true hB199.symm
    simp (maxSteps := 1000000) (disch := first | omega | (simp only [z1, z2, z3, z4, z5, z6, z7] <;> omega) | fail) only [go_sem, r0, r1, r2, r3, r4, r18, r20, r24]
    refine call1 (left z1 z2) ?_
    rw [show p ++ (srtK wt (X ++ V) ++ (U ++ (Y ++ q))) = (p ++ srtK wt (X ++ V)) ++ (U ++ (Y ++ q)) by simp]
    simp (maxSteps := 1000000) (disch := first | omega | (simp only [z1, z2, z3, z4, z5, z6, z7] <;> omega) | fail) only [go_sem, r0, r1, r2, r3, r4, r18, r20, r24, normQ_normal]
    refine ⟨_, rfl, ?_, ?_, ?_, ?_, ?_, ?_, ?_, ?_⟩
    · simp (maxSteps := 1000000) (disch := first | omega | (simp only [z1, z2, z3, z4, z5, z6, z7] <;> omega) | fail) only [go_sem, r0]
    · simp (maxSteps := 1000000) (disch := first | omega | (simp only [z1, z2, z3, z4, z5, z6, z7] <;> omega) | fail) only [go_sem, r1]
    · simp (maxSteps := 1000000) (disch := first | omega | (simp only [z1, z2, z3, z4, z5, z6, z7] <;> omega) | fail) only [go_sem, r2]
    · simp (maxSteps := 1000000) (disch := first | omega | (simp only [z1, z2, z3, z4, z5, z6, z7] <;> omega) | fail) only [go_sem, r3]
    · simp (maxSteps := 1000000) (disch := first | omega | (simp only [z1, z2, z3, z4, z5, z6, z7] <;> omega) | fail) only [go_sem, r4]
    · simp (maxSteps := 1000000) (disch := first | omega | (simp only [z1, z2, z3, z4, z5, z6, z7] <;> omega) | fail) only [go_sem, r18]
    · simp (maxSteps := 1000000) (disch := first | omega | (simp only [z1, z2, z3, z4, z5, z6, z7] <;> omega) | fail) only [go_sem, r20]
    · simp (maxSteps := 1000000) (disch := first | omega | (simp only [z1, z2, z3, z4, z5, z6, z7] <;> omega) | fail) only [go_sem, r24]
  · rw [hb] at hB199
    have z := of_decide_eq_false hB199.symm
    have e : srtK wt (X ++ V) = X ++ V := by
      by_cases hX : X = []
      · rw [hX, List.nil_append]; exact srtK_self srV
      · have hV : V = [] := Classical.byContradiction fun hV => z ⟨hX, hV⟩
        rw [hV, List.append_nil]; exact srtK_self slX
    rw [show p ++ (X ++ (V ++ (U ++ (Y ++ q)))) = (p ++ srtK wt (X ++ V)) ++ (U ++ (Y ++ q)) by rw [e]; simp]
    simp (maxSteps := 1000000) (disch := first | omega | (simp only [z1, z2, z3, z4, z5, z6, z7] <;> omega) | fail) only [go_sem, normQ_normal]
    exact ⟨ρ, rfl, r0, r1, r2, r3, r4, r18, r20, r24⟩
  clear r0 r1 r2 r3 r4 r18 r20 r24 rb
  rintro a' A' ⟨rfl, ρ, rfl, r0, r1, r2, r3, r4, r18, r20, r24⟩
  simp only [thenQ_normal, wpA_seq]
  obtain ⟨B213, hB213⟩ : ∃ B : Bool, B = decide (U ≠ [] ∧ Y ≠ []) := ⟨_, rfl⟩
  refine cutW (fun a' A' => A' = A.upd b (nodB ((p ++ srtK wt (X ++ V)) ++ (U ++ (Y ++ q)))) ∧ ∃ ρ : Nat → Value, a' = E 220 ρ [] ∧ ρ 0 = v ∧ ρ 1 = .int .i64 a1 ∧ ρ 2 = .int .i64 a2 ∧ ρ 3 = .int .i64 a3 ∧ ρ 4 = cmpV ∧ ρ 18 = .int .i64 mid ∧ ρ 20 = .int .i64 ((a1 + i : Nat) : Int) ∧ ρ 24 = .int .i64 (en : Int) ∧ ρ 213 = .bool B213) ?_ ?_
  · by_cases z1 : U = []
    · have y1 : ¬ (mid : Int) < (en : Int) := by have := nlU.1 z1; omega
      have hf : B213 = false := by rw [hB213]; exact decide_eq_false (fun h => h.1 z1)
      simp (maxSteps := 1000000) (disch := first | omega | (simp only [z1, z2, z3, z4, z5, z6, z7] <;> omega) | fail) only [go_sem, r0, r1, r2, r3, r4, r18, r20, r24, normQ_normal]
      refine ⟨_, rfl, ?_, ?_, ?_, ?_, ?_, ?_, ?_, ?_, ?_⟩
      · simp (maxSteps := 1000000) (disch := first | omega | (simp only [z1, z2, z3, z4, z5, z6, z7] <;> omega) | fail) only [go_sem, r0]
      · simp (maxSteps := 1000000) (disch := first | omega | (simp only [z1, z2, z3, z4, z5, z6, z7] <;> omega) | fail) only [go_sem, r1]
      · simp (maxSteps := 1000000) (disch := first | omega | (simp only [z1, z2, z3, z4, z5, z6, z7] <;> omega) | fail) only [go_sem, r2]
      · simp (maxSteps := 1000000) (disch := first | omega | (simp only [z1, z2, z3, z4, z5, z6, z7] <;> omega) | fail) only [go_sem, r3]
      · simp (maxSteps := 1000000) (disch := first | omega | (simp only [z1, z2, z3, z4, z5, z6, z7] <;> omega) | fail) only [go_sem, r4]
      · simp (maxSteps := 1000000) (disch := first | omega | (simp only [z1, z2, z3, z4, z5, z6, z7] <;> omega) | fail) only [go_sem, r18]
      · simp (maxSteps := 1000000) (disch := first | omega | (simp only [z1, z2, z3, z4, z5, z6, z7] <;> omega) | fail) only [go_sem, r20]
      · simp (maxSteps := 1000000) (disch := first | omega | (simp only [z1, z2, z3, z4, z5, z6, z7] <;> omega) | fail) only [go_sem, r24]
      · simp (maxSteps := 1000000) (disch := first | omega | (simp only [z1, z2, z3, z4, z5, z6, z7] <;> omega) | fail) only [go_sem, hf]
    · have y1 : (mid : Int) < (en : Int) := by have : ¬ U.length = 0 := fun h => z1 (nlU.2 h); omega
      by_cases z2 : Y = []
      · have y2 : ¬ (en : Int) < (a3 : Int) := by have := nlY.1 z2; omega
        have hf : B213 = false := by rw [hB213]; exact decide_eq_false (fun h => h.2 z2)
        simp (maxSteps := 1000000) (disch := first | omega | (simp only [z1, z2, z3, z4, z5, z6, z7] <;> omega) | fail) only [go_sem, r0, r1, r2, r3, r4, r18, r20, r24, normQ_normal]
        refine ⟨_, rfl, ?_, ?_, ?_, ?_, ?_, ?_, ?_, ?_, ?_⟩
        · simp (maxSteps := 1000000) (disch := first | omega | (simp only [z1, z2, z3, z4, z5, z6, z7] <;> omega) | fail) only [go_sem, r0]
        · simp (maxSteps := 1000000) (disch := first | omega | (simp only [z1, z2, z3, z4, z5, z6, z7] <;> omega) | fail) only [go_sem, r1]
        · simp (maxSteps := 1000000) (disch := first | omega | (simp only [z1, z2, z3, z4, z5, z6, z7] <;> omega) | fail) only [go_sem, r2]
        · simp (maxSteps := 1000000) (disch := first | omega | (simp only [z1, z2, z3, z4, z5, z6, z7] <;> omega) | fail) only [go_sem, r3]
        · simp (maxSteps := 1000000) (disch := first | omega | (simp only [z1, z2, z3, z4, z5, z6, z7] <;> omega) | fail) only [go_sem, r4]
        · simp (maxSteps := 1000000) (disch := first | omega | (simp only [z1, z2, z3, z4, z5, z6, z7] <;> omega) | fail) only [go_sem, r18]
        · simp (maxSteps := 1000000) (disch := first | omega | (simp only [z1, z2, z3, z4, z5, z6, z7] <;> omega) | fail) only [go_sem, r20]
        · simp (maxSteps := 1000000) (disch := first | omega | (simp only [z1, z2, z3, z4, z5, z6, z7] <;> omega) | fail) only [go_sem, r24]
        · simp (maxSteps := 1000000) (disch := first | omega | (simp only [z1, z2, z3, z4, z5, z6, z7] <;> omega) | fail) only [go_sem, hf]
          rw [decide_eq_false (fun h => y2 h.2)]
      · have y2 : (en : Int) < (a3 : Int) := by have : ¬ Y.length = 0 := fun h => z2 (nlY.2 h); omega
        have hf : B213 = true := by rw [hB213]; exact decide_eq_true ⟨z1, z2⟩
        simp (maxSteps := 1000000) (disch := first | omega | (simp only [z1, z2, z3, z4, z5, z6, z7] <;> omega) | fail) only [go_sem, r0, r1, r2, r3, r4, r18, r20, r24, normQ_normal]
        refine ⟨_, rfl, ?_, ?_, ?_, ?_, ?_, ?_, ?_, ?_, ?_⟩
        · simp (maxSteps := 1000000) (disch := first | omega | (simp only [z1, z2, z3, z4, z5, z6, z7] <;> omega) | fail) only [go_sem, r0]
        · simp (maxSteps := 1000000) (disch := first | omega | (simp only [z1, z2, z3, z4, z5, z6, z7] <;> omega) | fail) only [go_sem, r1]
        · simp (maxSteps := 1000000) (disch := first | omega | (simp only [z1, z2, z3, z4, z5, z6, z7] <;> omega) | fail) only [go_sem, r2]
        · simp (maxSteps := 1000000) (disch := first | omega | (simp only [z1, z2, z3, z4, z5, z6, z7] <;> omega) | fail) only [go_sem, r3]
        · simp (maxSteps := 1000000) (disch := first | omega | (simp only [z1, z2, z3, z4, z5, z6, z7] <;> omega) | fail) only [go_sem, r4]
        · simp (maxSteps := 1000000) (disch := first | omega | (simp only [z1, z2, z3, z4, z5, z6, z7] <;> omega) | fail) only [go_sem, r18]
        · simp (maxSteps := 1000000) (disch := first | omega | (simp only [z1, z2, z3, z4, z5, z6, z7] <;> omega) | fail) only [go_sem, r20]
        · simp (maxSteps := 1000000) (disch := first | omega | (simp only [z1, z2, z3, z4, z5, z6, z7] <;> omega) | fail) only [go_sem, r24]
        · simp (maxSteps := 1000000) (disch := first | omega | (simp only [z1, z2, z3, z4, z5, z6, z7] <;> omega) | fail) only [go_sem, hf]
          rw [decide_eq_true ⟨y1, y2⟩]
  clear r0 r1 r2 r3 r4 r18 r20 r24
  rintro a' A' ⟨rfl, ρ, rfl, r0, r1, r2, r3, r4, r18, r20, r24, rb⟩
  simp only [thenQ_normal, wpA_seq]
  simp (maxSteps := 1000000) (disch := first | omega | (simp only [z1, z2, z3, z4, z5, z6, z7] <;> omega) | fail) only [go_sem, rb]
  rw [← hfin]
  cases hb : B213
  · rw [hb] at hB213
    have z := of_decide_eq_false hB213.symm
    have e : srtK wt (U ++ Y) = U ++ Y := by
      by_cases hU : U = []
      · rw [hU, List.nil_append]; exact srtK_self srY
      · have hY : Y = [] := Classical.byContradiction fun hY => z ⟨hU, hY⟩
        rw [hY, List.append_nil]; exact srtK_self slU
    simp (maxSteps := 1000000) (disch := first | omega | (simp only [z1, z2, z3, z4, z5, z6, z7] <;> omega) | fail) only [go_sem, Try.results70]
    refine gc_here ⟨rfl, ?_⟩
    rw [e]; simp
  · rw [hb] at hB213
    obtain ⟨z1, z2⟩ := of_decide_eq_true hB213.symm
    simp (maxSteps := 1000000) (disch := first | omega | (simp only [z1, z2, z3, z4, z5, z6, z7] <;> omega) | fail) only [go_sem, r0, r1, r2, r3, r4, r18, r20, r24]
    refine call1 (right z1 z2) ?_
    simp (maxSteps := 1000000) (disch := first | omega | (simp only [z1, z2, z3, z4, z5, z6, z7] <;> omega) | fail) only [go_sem, Try.results70]
    exact gc_here ⟨rfl, rfl⟩
end Go.Fw

set_option linter.unusedSimpArgs false
set_option linter.unusedVariables false
set_option maxRecDepth 4000
namespace Go.Fw
open Go.Proofs Go.RowKit
/-! slices.stableCmpFunc, slices.SortStableFunc. -/
section
variable {α : Type} (k : α → Int)
/-- Sorted pieces of one length, the last one no longer. -/
inductive Chk (bs : Nat) : List α → Prop
  | last (l : List α) (h : l.length ≤ bs) (s : Srtd k l) : Chk bs l
  | cons (c r : List α) (hc : c.length = bs) (s : Srtd k c) (h : Chk bs r) : Chk bs (c ++ r)
variable {k}
theorem Chk.small {bs : Nat} {l : List α} (h : Chk k bs l) (hl : l.length ≤ bs) : Srtd k l := by
  cases h with
  | last _ h s => exact s
  | cons c r hc s h =>
    rw [List.length_append] at hl
    have : r = [] := List.eq_nil_of_length_eq_zero (by omega)
    subst this
    rw [List.append_nil]; exact s
theorem Chk.nil (bs : Nat) : Chk k bs [] := .last [] (Nat.zero_le _) .nil
theorem Chk.head {bs : Nat} {l : List α} (h : Chk k bs l) (hl : bs ≤ l.length) : ∃ c r, l = c ++ r ∧ c.length = bs ∧ Srtd k c ∧ Chk k bs r := by
  cases h with
  | last _ h s => exact ⟨l, [], by simp, by omega, s, Chk.nil bs⟩
  | cons c r hc s h => exact ⟨c, r, rfl, hc, s, h⟩
end
theorem Try.enters67 : Enters Try.prog 67 := enters_of Try.func67 rfl (by kernel_rfl)
theorem Try.enters53 : Enters Try.prog 53 := enters_of Try.func53 rfl (by kernel_rfl)
variable {w0 : World} {A : St} {b n : Nat} {v : Value} {wt : Value → Int} {D : Value → Prop}
set_option maxHeartbeats 16000000 in
theorem stable_ok (hv : RowV v b n) (hn63 : n ≤ 1000000) (hc : CmpOk w0 A b wt D) (hD1 : ∀ x, D x → one1 x = true) (cs : List Value) (hlen : cs.length = n) (hD : ∀ x ∈ cs, D x) :
    ACalls Try.prog w0 67 #[v, .int .i64 n, cmpV] (A.upd b (nodB cs)) (fin (.tuple #[]) (A.upd b (nodB (srtK wt cs)))) := by
  refine call_E (l := [v, .int .i64 n, cmpV]) Try.enters67 Try.func67 rfl (Nat.le_of_ble_eq_true rfl) fun hw hbd => ?_
  simp (maxSteps := 1000000) (disch := first | omega | (simp only [z1, z2, z3, z4, z5, z6, z7] <;> omega) | fail) only [go_sem, Try.ntmps67, Try.results67]
  refine cutL 0 (fun a' A' => ∃ (ρ : Nat → Value) (pre r : List Value), a' = E 63 ρ [] ∧ A' = A.upd b (nodB (pre ++ r)) ∧ (∀ s, Chk wt 20 s → Chk wt 20 (pre ++ s)) ∧ pre.length + r.length = n ∧ r.length < 20 ∧ SameF wt cs (pre ++ r) ∧ ρ 0 = v ∧ ρ 1 = .int .i64 n ∧ ρ 2 = cmpV ∧ ρ 6 = .int .i64 20 ∧ ρ 7 = .int .i64 (pre.length : Nat)) ?_ ?_
  · refine aw_loop (fun k a A' => ∃ (ρ : Nat → Value) (pre r : List Value), a = E 63 ρ [] ∧ k = r.length ∧ A' = A.upd b (nodB (pre ++ r)) ∧ (∀ s, Chk wt 20 s → Chk wt 20 (pre ++ s)) ∧ pre.length + r.length = n ∧ SameF wt cs (pre ++ r) ∧ ρ 0 = v ∧ ρ 1 = .int .i64 n ∧ ρ 2 = cmpV ∧ ρ 6 = .int .i64 20 ∧ ρ 7 = .int .i64 (pre.length : Nat) ∧ ρ 8 = .int .i64 ((pre.length + 20 : Nat) : Int)) cs.length
      ⟨_, [], cs, rfl, rfl, rfl, (fun s h => h), by simpa using hlen, SameF.refl wt cs, rfl, rfl, rfl, rfl, rfl, rfl⟩ ?_
    rintro k a A' ⟨ρ, pre, r, rfl, rfl, rfl, hpre, hl, hsf, r0, r1, r2, r6, r7, r8⟩
    refine aw_of ?_
    by_cases hle : pre.length + 20 ≤ n
    · have hle' : ((pre.length + 20 : Nat) : Int) ≤ (n : Int) := by omega
      obtain ⟨c, r', rfl, hcl⟩ : ∃ c r', r = c ++ r' ∧ c.length = 20 := ⟨r.take 20, r.drop 20, (List.take_append_drop ..).symm, by rw [List.length_take]; omega⟩
      rw [List.length_append] at hl
      have hDc : ∀ x ∈ c, D x := fun x hx => hD x ((hsf.mem x).2 (by simp [hx]))
      have h := inssort_ok w0 A b n v wt D hv hn63 hc hD1 pre c r' (by omega) hDc
      rw [hcl] at h
      have hb : ((pre.length + 20 : Nat) : Int) + 20 = (((pre ++ srtK wt c).length + 20 : Nat) : Int) := by rw [List.length_append, srtK_len, hcl]; omega
      have hp : ((pre.length + 20 : Nat) : Int) = ((pre ++ srtK wt c).length : Nat) := by rw [List.length_append, srtK_len, hcl]
      simp (maxSteps := 1000000) (disch := first | omega | (simp only [z1, z2, z3, z4, z5, z6, z7] <;> omega) | fail) only [go_sem, r0, r1, r2, r6, r7, r8]
      refine call1 h ?_
      simp (maxSteps := 1000000) (disch := first | omega | (simp only [z1, z2, z3, z4, z5, z6, z7] <;> omega) | fail) only [go_sem, r6, r8, hb]
      refine ⟨r'.length, by rw [List.length_append]; omega, _, pre ++ srtK wt c, r', rfl, rfl, by simp, fun s hs => ?_, ?_, ?_, ?_, ?_, ?_, ?_, ?_, ?_⟩
      · rw [List.append_assoc]
        exact hpre _ (.cons _ _ (by rw [srtK_len]; exact hcl) (srtK_srtd c) hs)
      · rw [List.length_append, srtK_len]; omega
      · refine hsf.trans ?_
        rw [List.append_assoc]
        exact SameF.app (SameF.refl wt pre) (SameF.app (srtK_same c) (SameF.refl wt r'))
      · simp (maxSteps := 1000000) (disch := first | omega | (simp only [z1, z2, z3, z4, z5, z6, z7] <;> omega) | fail) only [go_sem, r0]
      · simp (maxSteps := 1000000) (disch := first | omega | (simp only [z1, z2, z3, z4, z5, z6, z7] <;> omega) | fail) only [go_sem, r1]
      · simp (maxSteps := 1000000) (disch := first | omega | (simp only [z1, z2, z3, z4, z5, z6, z7] <;> omega) | fail) only [go_sem, r2]
      · simp (maxSteps := 1000000) (disch := first | omega | (simp only [z1, z2, z3, z4, z5, z6, z7] <;> omega) | fail) only [go_sem, r6]
      · simp (maxSteps := 1000000) (disch := first | omega | (simp only [z1, z2, z3, z4, z5, z6, z7] <;> omega) | fail) only [go_sem]
        rw [hp]
      · simp (maxSteps := 1000000) (disch := first | omega | (simp only [z1, z2, z3, z4, z5, z6, z7] <;> omega) | fail) only [go_sem]
    have hle' : ¬ ((pre.length + 20 : Nat) : Int) ≤ (n : Int) := by omega
    simp (maxSteps := 1000000) (disch := first | omega | (simp only [z1, z2, z3, z4, z5, z6, z7] <;> omega) | fail) only [go_sem, r0, r1, r2, r6, r7, r8, exitQ_exit]
    refine ⟨_, pre, r, rfl, rfl, hpre, hl, by omega, hsf, ?_, ?_, ?_, ?_, ?_⟩
    · simp (maxSteps := 1000000) (disch := first | omega | (simp only [z1, z2, z3, z4, z5, z6, z7] <;> omega) | fail) only [go_sem, r0]
    · simp (maxSteps := 1000000) (disch := first | omega | (simp only [z1, z2, z3, z4, z5, z6, z7] <;> omega) | fail) only [go_sem, r1]
    · simp (maxSteps := 1000000) (disch := first | omega | (simp only [z1, z2, z3, z4, z5, z6, z7] <;> omega) | fail) only [go_sem, r2]
    · simp (maxSteps := 1000000) (disch := first | omega | (simp only [z1, z2, z3, z4, z5, z6, z7] <;> omega) | fail) only [go_sem, r6]
    · simp (maxSteps := 1000000) (disch := first | omega | (simp only [z1, z2, z3, z4, z5, z6, z7] <;> omega) | fail) only [go_sem, r7]
  rintro a' A' ⟨ρ, pre, r, rfl, rfl, hpre, hl, hr20, hsf, r0, r1, r2, r6, r7⟩
  have hDr : ∀ x ∈ r, D x := fun x hx => hD x ((hsf.mem x).2 (by simp [hx]))
  have h := inssort_ok w0 A b n v wt D hv hn63 hc hD1 pre r [] (by simpa using hl) hDr
  rw [hl] at h
  simp only [List.append_nil] at h
  have hck : Chk wt 20 (pre ++ srtK wt r) := hpre _ (.last _ (by rw [srtK_len]; omega) (srtK_srtd r))
  have hsf2 : SameF wt cs (pre ++ srtK wt r) := hsf.trans (SameF.app (SameF.refl wt pre) (srtK_same r))
  have hl2 : (pre ++ srtK wt r).length = n := by rw [List.length_append, srtK_len]; exact hl
  simp (maxSteps := 1000000) (disch := first | omega | (simp only [z1, z2, z3, z4, z5, z6, z7] <;> omega) | fail) only [go_sem, r0, r1, r2, r6, r7]
  refine call1 h ?_
  generalize pre ++ srtK wt r = cs2 at *
  simp (maxSteps := 1000000) (disch := first | omega | (simp only [z1, z2, z3, z4, z5, z6, z7] <;> omega) | fail) only [go_sem]
  refine cutL 2 (fun a' A' => A' = A.upd b (nodB (srtK wt cs)) ∧ ∃ ρ, a' = E 63 ρ []) ?_ ?_
  rotate_left
  · rintro a' A' ⟨rfl, ρ, rfl⟩
    simp (maxSteps := 1000000) (disch := first | omega | (simp only [z1, z2, z3, z4, z5, z6, z7] <;> omega) | fail) only [go_sem, Try.results67]
    exact gc_here ⟨rfl, rfl⟩
  refine aw_loop (fun k a A' => ∃ (ρ : Nat → Value) (bs : Nat) (cs2 : List Value), a = E 63 ρ [] ∧ k = n - bs ∧ 1 ≤ bs ∧ bs ≤ 2000000 ∧ A' = A.upd b (nodB cs2) ∧ Chk wt bs cs2 ∧ cs2.length = n ∧ SameF wt cs cs2 ∧ ρ 0 = v ∧ ρ 1 = .int .i64 n ∧ ρ 2 = cmpV ∧ ρ 6 = .int .i64 bs) (n - 20)
    ⟨_, 20, cs2, rfl, rfl, by decide, by decide, rfl, hck, hl2, hsf2, by first | rfl | exact r0, by first | rfl | exact r1, by first | rfl | exact r2, by first | rfl | exact r6⟩ ?_
  clear r0 r1 r2 r6 r7 hck hsf2 hl2 h hDr hsf hl hpre
  rintro k a A' ⟨ρ, bs, cs2, rfl, rfl, hb1, hb2, rfl, hck, hl2, hsf2, r0, r1, r2, r6⟩
  refine aw_of ?_
  by_cases hbn : bs < n
  rotate_left
  · have hbn' : ¬ (bs : Int) < (n : Int) := by omega
    simp (maxSteps := 1000000) (disch := first | omega | (simp only [z1, z2, z3, z4, z5, z6, z7] <;> omega) | fail) only [go_sem, r0, r1, r2, r6, exitQ_exit]
    have : cs2 = srtK wt cs := srtK_of (hck.small (by omega)) hsf2
    subst this
    first
      | exact ⟨_, rfl⟩
      | exact ⟨rfl, _, rfl⟩
  have hbn' : (bs : Int) < (n : Int) := by omega
  have h2 : (2 : Int) * (bs : Int) = ((2 * bs : Nat) : Int) := by omega
  simp (maxSteps := 1000000) (disch := first | omega | (simp only [z1, z2, z3, z4, z5, z6, z7] <;> omega) | fail) only [go_sem, r0, r1, r2, r6, h2]
  refine cutL 4 (fun a' A' => ∃ (ρ : Nat → Value) (pre r : List Value), a' = E 63 ρ [] ∧ A' = A.upd b (nodB (pre ++ r)) ∧ (∀ s, Chk wt (2 * bs) s → Chk wt (2 * bs) (pre ++ s)) ∧ Chk wt bs r ∧ pre.length + r.length = n ∧ r.length < 2 * bs ∧ SameF wt cs (pre ++ r) ∧ ρ 0 = v ∧ ρ 1 = .int .i64 n ∧ ρ 2 = cmpV ∧ ρ 6 = .int .i64 bs ∧ ρ 7 = .int .i64 (pre.length : Nat)) ?_ ?_
  · refine aw_loop (fun k a A' => ∃ (ρ : Nat → Value) (pre r : List Value), a = E 63 ρ [] ∧ k = r.length ∧ A' = A.upd b (nodB (pre ++ r)) ∧ (∀ s, Chk wt (2 * bs) s → Chk wt (2 * bs) (pre ++ s)) ∧ Chk wt bs r ∧ pre.length + r.length = n ∧ SameF wt cs (pre ++ r) ∧ ρ 0 = v ∧ ρ 1 = .int .i64 n ∧ ρ 2 = cmpV ∧ ρ 6 = .int .i64 bs ∧ ρ 7 = .int .i64 (pre.length : Nat) ∧ ρ 8 = .int .i64 ((pre.length + 2 * bs : Nat) : Int)) cs2.length
      ⟨_, [], cs2, rfl, rfl, rfl, (fun s h => h), hck, by simpa using hl2, hsf2, by first | rfl | exact r0, by first | rfl | exact r1, by first | rfl | exact r2, by first | rfl | exact r6, rfl, by rw [List.length_nil, Nat.zero_add]; rfl⟩ ?_
    clear r0 r1 r2 r6
    rintro k a A' ⟨ρ, pre, r, rfl, rfl, rfl, hpre, hcr, hl, hsf, r0, r1, r2, r6, r7, r8⟩
    refine aw_of ?_
    by_cases hle : pre.length + 2 * bs ≤ n
    · have hle' : ((pre.length + 2 * bs : Nat) : Int) ≤ (n : Int) := by omega
      obtain ⟨c1, r1', rfl, hcl1, sc1, hr1⟩ := hcr.head (by omega)
      rw [List.length_append] at hl
      obtain ⟨c2, r2', rfl, hcl2, sc2, hr2⟩ := hr1.head (by omega)
      rw [List.length_append] at hl
      have hD1' : ∀ x ∈ c1, D x := fun x hx => hD x ((hsf.mem x).2 (by simp [hx]))
      have hD2' : ∀ x ∈ c2, D x := fun x hx => hD x ((hsf.mem x).2 (by simp [hx]))
      have nc1 : c1 ≠ [] := fun h => by rw [h] at hcl1; simp at hcl1; omega
      have nc2 : c2 ≠ [] := fun h => by rw [h] at hcl2; simp at hcl2; omega
      have h := symmerge_ok hv hn63 hc hD1 _ pre c1 c2 r2' rfl (by omega) nc1 nc2 hD1' hD2' sc1 sc2 pre.length (pre.length + bs) (pre.length + 2 * bs) rfl (by omega) (by omega)
      have hsl : (srtK wt (c1 ++ c2)).length = 2 * bs := by rw [srtK_len, List.length_append]; omega
      have hm : (pre.length : Int) + (bs : Int) = ((pre.length + bs : Nat) : Int) := by omega
      have hp : ((pre.length + 2 * bs : Nat) : Int) = ((pre ++ srtK wt (c1 ++ c2)).length : Nat) := by rw [List.length_append, hsl]
      have hb : ((pre.length + 2 * bs : Nat) : Int) + ((2 * bs : Nat) : Int) = (((pre ++ srtK wt (c1 ++ c2)).length + 2 * bs : Nat) : Int) := by rw [List.length_append, hsl]; omega
      simp (maxSteps := 1000000) (disch := first | omega | (simp only [z1, z2, z3, z4, z5, z6, z7] <;> omega) | fail) only [go_sem, r0, r1, r2, r6, r7, r8, hm]
      refine call1 h ?_
      simp (maxSteps := 1000000) (disch := first | omega | (simp only [z1, z2, z3, z4, z5, z6, z7] <;> omega) | fail) only [go_sem, r6, r8, h2, hb]
      refine ⟨r2'.length, by simp only [List.length_append]; omega, _, pre ++ srtK wt (c1 ++ c2), r2', rfl, rfl, by simp, fun s hs => ?_, hr2, ?_, ?_, ?_, ?_, ?_, ?_, ?_, ?_⟩
      · rw [List.append_assoc]
        exact hpre _ (.cons _ _ hsl (srtK_srtd _) hs)
      · rw [List.length_append, hsl]; omega
      · refine hsf.trans ?_
        rw [List.append_assoc, ← List.append_assoc c1 c2]
        exact SameF.app (SameF.refl wt pre) (SameF.app (srtK_same _) (SameF.refl wt r2'))
      · simp (maxSteps := 1000000) (disch := first | omega | (simp only [z1, z2, z3, z4, z5, z6, z7] <;> omega) | fail) only [go_sem, r0]
      · simp (maxSteps := 1000000) (disch := first | omega | (simp only [z1, z2, z3, z4, z5, z6, z7] <;> omega) | fail) only [go_sem, r1]
      · simp (maxSteps := 1000000) (disch := first | omega | (simp only [z1, z2, z3, z4, z5, z6, z7] <;> omega) | fail) only [go_sem, r2]
      · simp (maxSteps := 1000000) (disch := first | omega | (simp only [z1, z2, z3, z4, z5, z6, z7] <;> omega) | fail) only [go_sem, r6]
      · simp (maxSteps := 1000000) (disch := first | omega | (simp only [z1, z2, z3, z4, z5, z6, z7] <;> omega) | fail) only [go_sem]
        rw [hp]
      · simp (maxSteps := 1000000) (disch := first | omega | (simp only [z1, z2, z3, z4, z5, z6, z7] <;> omega) | fail) only [go_sem]
    have hle' : ¬ ((pre.length + 2 * bs : Nat) : Int) ≤ (n : Int) := by omega
    simp (maxSteps := 1000000) (disch := first | omega | (simp only [z1, z2, z3, z4, z5, z6, z7] <;> omega) | fail) only [go_sem, r0, r1, r2, r6, r7, r8, exitQ_exit]
    refine ⟨_, pre, r, rfl, rfl, hpre, hcr, hl, by omega, hsf, ?_, ?_, ?_, ?_, ?_⟩
    · simp (maxSteps := 1000000) (disch := first | omega | (simp only [z1, z2, z3, z4, z5, z6, z7] <;> omega) | fail) only [go_sem, r0]
    · simp (maxSteps := 1000000) (disch := first | omega | (simp only [z1, z2, z3, z4, z5, z6, z7] <;> omega) | fail) only [go_sem, r1]
    · simp (maxSteps := 1000000) (disch := first | omega | (simp only [z1, z2, z3, z4, z5, z6, z7] <;> omega) | fail) only [go_sem, r2]
    · simp (maxSteps := 1000000) (disch := first | omega | (simp only [z1, z2, z3, z4, z5, z6, z7] <;> omega) | fail) only [go_sem, r6]
    · simp (maxSteps := 1000000) (disch := first | omega | (simp only [z1, z2, z3, z4, z5, z6, z7] <;> omega) | fail) only [go_sem, r7]
  clear r0 r1 r2 r6 hck hl2 hsf2 cs2
  rintro a' A' ⟨ρ, pre, r, rfl, rfl, hpre, hcr, hl, hrl, hsf, r0, r1, r2, r6, r7⟩
  have hm : (pre.length : Int) + (bs : Int) = ((pre.length + bs : Nat) : Int) := by omega
  have h2' : (bs : Int) * 2 = ((2 * bs : Nat) : Int) := by omega
  by_cases hmn : pre.length + bs < n
  · have hmn' : ((pre.length + bs : Nat) : Int) < (n : Int) := by omega
    obtain ⟨c1, r1', rfl, hcl1, sc1, hr1⟩ := hcr.head (by omega)
    rw [List.length_append] at hl hrl
    have sr1 := hr1.small (by omega)
    have hD1' : ∀ x ∈ c1, D x := fun x hx => hD x ((hsf.mem x).2 (by simp [hx]))
    have hD2' : ∀ x ∈ r1', D x := fun x hx => hD x ((hsf.mem x).2 (by simp [hx]))
    have nc1 : c1 ≠ [] := fun h => by rw [h] at hcl1; simp at hcl1; omega
    have nc2 : r1' ≠ [] := fun h => by rw [h] at hl; simp at hl; omega
    have h := symmerge_ok hv hn63 hc hD1 _ pre c1 r1' [] rfl (by simp; omega) nc1 nc2 hD1' hD2' sc1 sr1 pre.length (pre.length + bs) n rfl (by omega) (by omega)
    simp only [List.append_nil] at h
    simp (maxSteps := 1000000) (disch := first | omega | (simp only [z1, z2, z3, z4, z5, z6, z7] <;> omega) | fail) only [go_sem, r0, r1, r2, r6, r7, hm]
    refine call1 h ?_
    simp (maxSteps := 1000000) (disch := first | omega | (simp only [z1, z2, z3, z4, z5, z6, z7] <;> omega) | fail) only [go_sem, r6, h2']
    refine ⟨n - 2 * bs, by omega, _, 2 * bs, pre ++ srtK wt (c1 ++ r1'), rfl, rfl, by omega, by omega, rfl, ?_, ?_, ?_, ?_, ?_, ?_, ?_⟩
    · exact hpre _ (.last _ (by rw [srtK_len, List.length_append]; omega) (srtK_srtd _))
    · rw [List.length_append, srtK_len, List.length_append]; omega
    · exact hsf.trans (SameF.app (SameF.refl wt pre) (srtK_same _))
    · simp (maxSteps := 1000000) (disch := first | omega | (simp only [z1, z2, z3, z4, z5, z6, z7] <;> omega) | fail) only [go_sem, r0]
    · simp (maxSteps := 1000000) (disch := first | omega | (simp only [z1, z2, z3, z4, z5, z6, z7] <;> omega) | fail) only [go_sem, r1]
    · simp (maxSteps := 1000000) (disch := first | omega | (simp only [z1, z2, z3, z4, z5, z6, z7] <;> omega) | fail) only [go_sem, r2]
    · simp (maxSteps := 1000000) (disch := first | omega | (simp only [z1, z2, z3, z4, z5, z6, z7] <;> omega) | fail) only [go_sem]
  · have hmn' : ¬ ((pre.length + bs : Nat) : Int) < (n : Int) := by omega
    simp (maxSteps := 1000000) (disch := first | omega | (simp only [z1, z2, z3, z4, z5, z6, z7] <;> omega) | fail) only [go_sem, r0, r1, r2, r6, r7, hm, h2']
    refine ⟨n - 2 * bs, by omega, _, 2 * bs, pre ++ r, rfl, rfl, by omega, by omega, rfl, ?_, ?_, ?_, ?_, ?_, ?_, ?_⟩
    · exact hpre _ (.last _ (by omega) (hcr.small (by omega)))
    · rw [List.length_append]; omega
    · exact hsf
    · simp (maxSteps := 1000000) (disch := first | omega | (simp only [z1, z2, z3, z4, z5, z6, z7] <;> omega) | fail) only [go_sem, r0]
    · simp (maxSteps := 1000000) (disch := first | omega | (simp only [z1, z2, z3, z4, z5, z6, z7] <;> omega) | fail) only [go_sem, r1]
    · simp (maxSteps := 1000000) (disch := first | omega | (simp only [z1, z2, z3, z4, z5, z6, z7] <;> omega) | fail) only [go_sem, r2]
    · simp (maxSteps := 1000000) (disch := first | omega | (simp only [z1, z2, z3, z4, z5, z6, z7] <;> omega) | fail) only [go_sem]
theorem sortstable_ok (hv : RowV v b n) (hln : ∀ X, lenU X (some (.slice 107)) v = some (.int .i64 n, X)) (hn63 : n ≤ 1000000) (hc : CmpOk w0 A b wt D) (hD1 : ∀ x, D x → one1 x = true) (cs : List Value) (hlen : cs.length = n) (hD : ∀ x ∈ cs, D x) :
    ACalls Try.prog w0 53 #[v, cmpV] (A.upd b (nodB cs)) (fin (.tuple #[]) (A.upd b (nodB (srtK wt cs)))) := by
  refine call_E (l := [v, cmpV]) Try.enters53 Try.func53 rfl (Nat.le_of_ble_eq_true rfl) fun hw hbd => ?_
  simp (maxSteps := 1000000) (disch := first | omega | (simp only [z1, z2, z3, z4, z5, z6, z7] <;> omega) | fail) only [go_sem, Try.ntmps53, Try.results53, hln]
  refine call1 (stable_ok hv hn63 hc hD1 cs hlen hD) ?_
  simp (maxSteps := 1000000) (disch := first | omega | (simp only [z1, z2, z3, z4, z5, z6, z7] <;> omega) | fail) only [go_sem, Try.results53]
  exact gc_here ⟨rfl, rfl⟩
end Go.Fw
