import Derived.Test.YtpjacnialnlilaaFwFacts
set_option linter.unusedSimpArgs false
set_option linter.unusedVariables false
set_option maxRecDepth 4000
namespace Go.Fw
open Go.Proofs Go.RowKit
/-! Sorting of rows: what a stable sort is, and slices.insertionSortCmpFunc. -/
theorem upd_upd (A : St) (b : Nat) (X Y : Option Blk) : (A.upd b X).upd b Y = A.upd b Y := by
  refine St.ext (fun m => ?_) rfl
  simp only [St.get_upd]
  split <;> rfl
section
variable {α : Type} (k : α → Int)
def Srtd (l : List α) : Prop := l.Pairwise fun x y => k x ≤ k y
/-- The same things of each key, in the same order. -/
def SameF (l m : List α) : Prop := ∀ c : Int, l.filter (fun x => decide (k x = c)) = m.filter (fun x => decide (k x = c))
theorem SameF.refl (l : List α) : SameF k l l := fun _ => rfl
variable {k}
theorem SameF.symm {l m : List α} (h : SameF k l m) : SameF k m l := fun c => (h c).symm
theorem SameF.trans {l m n : List α} (h : SameF k l m) (h' : SameF k m n) : SameF k l n := fun c => (h c).trans (h' c)
theorem SameF.app {a a' b b' : List α} (h : SameF k a a') (h' : SameF k b b') : SameF k (a ++ b) (a' ++ b') := fun c => by rw [List.filter_append, List.filter_append, h c, h' c]
theorem SameF.swap {u v : List α} (h : ∀ x ∈ u, ∀ y ∈ v, k x ≠ k y) : SameF k (u ++ v) (v ++ u) := fun c => by
  rw [List.filter_append, List.filter_append]
  by_cases hu : ∃ x ∈ u, k x = c
  · obtain ⟨x, hx, rfl⟩ := hu
    have : v.filter (fun y => decide (k y = k x)) = [] := List.filter_eq_nil_iff.2 fun y hy => by simp; exact fun e => h x hx y hy e.symm
    rw [this, List.append_nil, List.nil_append]
  · have : u.filter (fun y => decide (k y = c)) = [] := List.filter_eq_nil_iff.2 fun y hy => by simp; exact fun e => hu ⟨y, hy, e⟩
    rw [this, List.append_nil, List.nil_append]
theorem SameF.mem {l m : List α} (h : SameF k l m) (x : α) : x ∈ l ↔ x ∈ m := by
  have := congrArg (x ∈ ·) (h (k x))
  simpa using this
theorem SameF.nil {l : List α} (h : SameF k l []) : l = [] := by
  cases l with
  | nil => rfl
  | cons x l => exact absurd ((h.mem x).1 (List.mem_cons_self ..)) (by simp)
theorem srtd_unique : ∀ {l m : List α}, Srtd k l → Srtd k m → SameF k l m → l = m
  | [], m, _, _, h => h.symm.nil.symm
  | x :: l, [], _, _, h => h.nil
  | x :: l, y :: m, hl, hm, h => by
    unfold Srtd at hl hm
    rw [List.pairwise_cons] at hl hm
    have hxy : k x = k y := by
      have hx := (h.mem x).1 (List.mem_cons_self ..)
      have hy := (h.mem y).2 (List.mem_cons_self ..)
      rcases List.mem_cons.1 hx with rfl | hx
      · rfl
      · rcases List.mem_cons.1 hy with rfl | hy
        · rfl
        · have := hm.1 x hx; have := hl.1 y hy; omega
    have he := h (k x)
    rw [List.filter_cons_of_pos (by simp), List.filter_cons_of_pos (by simp [hxy])] at he
    injection he with he1 he2
    subst he1
    rw [srtd_unique hl.2 hm.2 fun c => ?_]
    by_cases hc : k x = c
    · subst hc; exact he2
    · have := h c
      rw [List.filter_cons_of_neg (by simp [hc]), List.filter_cons_of_neg (by simp [hc])] at this
      exact this
variable (k)
/-- Put behind all that are no more. -/
def insK : List α → α → List α
  | [], x => [x]
  | y :: s, x => if k y ≤ k x then y :: insK s x else x :: y :: s
def srtK (l : List α) : List α := l.foldl (insK k) []
variable {k}
theorem insK_mem : ∀ (s : List α) (x z : α), z ∈ insK k s x ↔ z = x ∨ z ∈ s
  | [], x, z => by simp [insK]
  | y :: s, x, z => by
    unfold insK
    split
    · rw [List.mem_cons, insK_mem s x z, List.mem_cons]
      constructor
      · rintro (h | h | h)
        · exact .inr (.inl h)
        · exact .inl h
        · exact .inr (.inr h)
      · rintro (h | h | h)
        · exact .inr (.inl h)
        · exact .inl h
        · exact .inr (.inr h)
    · rw [List.mem_cons]
theorem insK_len : ∀ (s : List α) (x : α), (insK k s x).length = s.length + 1
  | [], x => rfl
  | y :: s, x => by
    unfold insK
    split
    · rw [List.length_cons, insK_len s x, List.length_cons]
    · rfl
theorem insK_srtd : ∀ {s : List α} (x : α), Srtd k s → Srtd k (insK k s x)
  | [], x, _ => by unfold insK Srtd; simp
  | y :: s, x, h => by
    unfold Srtd at h
    rw [List.pairwise_cons] at h
    unfold insK
    split
    · rename_i hyx
      unfold Srtd
      rw [List.pairwise_cons]
      refine ⟨fun z hz => ?_, insK_srtd x h.2⟩
      rcases (insK_mem s x z).1 hz with rfl | hz
      · exact hyx
      · exact h.1 z hz
    · rename_i hyx
      unfold Srtd
      rw [List.pairwise_cons, List.pairwise_cons]
      refine ⟨fun z hz => ?_, h⟩
      rcases List.mem_cons.1 hz with rfl | hz
      · omega
      · have := h.1 z hz; omega
theorem insK_same : ∀ {s : List α} (x : α), Srtd k s → SameF k (s ++ [x]) (insK k s x)
  | [], x, _ => SameF.refl k _
  | y :: s, x, h => by
    have h' := h
    unfold Srtd at h
    rw [List.pairwise_cons] at h
    unfold insK
    split
    · exact SameF.app (a := [y]) (SameF.refl k _) (insK_same x h.2)
    · rename_i hyx
      exact SameF.swap (u := y :: s) (v := [x]) fun a ha b hb => by
        rw [List.mem_singleton.1 hb]
        rcases List.mem_cons.1 ha with rfl | ha
        · omega
        · have := h.1 a ha; omega
theorem insK_split : ∀ {s1 s2 : List α} {x : α}, Srtd k (s1 ++ s2) → (∀ y ∈ s2, k x < k y) → (∀ y ∈ s1, k y ≤ k x) → insK k (s1 ++ s2) x = s1 ++ x :: s2
  | [], [], x, _, _, _ => rfl
  | [], y :: s2, x, _, h2, _ => by
    have := h2 y (List.mem_cons_self ..)
    rw [List.nil_append, insK, if_neg (by omega)]; rfl
  | y :: s1, s2, x, h, h2, h1 => by
    unfold Srtd at h
    rw [List.cons_append, List.pairwise_cons] at h
    rw [List.cons_append, insK, if_pos (h1 y (List.mem_cons_self ..)), insK_split h.2 h2 fun z hz => h1 z (List.mem_cons_of_mem _ hz)]; rfl
theorem foldl_ins (l : List α) : ∀ {s : List α}, Srtd k s → Srtd k (l.foldl (insK k) s) ∧ SameF k (s ++ l) (l.foldl (insK k) s) ∧ (l.foldl (insK k) s).length = s.length + l.length := by
  induction l with
  | nil => intro s h; exact ⟨h, by rw [List.append_nil]; exact SameF.refl k _, rfl⟩
  | cons x l ih =>
    intro s h
    obtain ⟨h1, h2, h3⟩ := ih (insK_srtd x h)
    refine ⟨h1, ?_, ?_⟩
    · rw [show s ++ x :: l = (s ++ [x]) ++ l by simp]
      exact (SameF.app (insK_same x h) (SameF.refl k l)).trans h2
    · rw [List.foldl_cons, h3, insK_len, List.length_cons]; omega
theorem srtK_srtd (l : List α) : Srtd k (srtK k l) := (foldl_ins l (s := []) .nil).1
theorem srtK_same (l : List α) : SameF k l (srtK k l) := (foldl_ins l (s := []) .nil).2.1
theorem srtK_len (l : List α) : (srtK k l).length = l.length := by have := (foldl_ins (k := k) l (s := []) .nil).2.2; simpa [srtK] using this
theorem srtK_app (l : List α) (x : α) : srtK k (l ++ [x]) = insK k (srtK k l) x := by unfold srtK; rw [List.foldl_append]; rfl
theorem srtK_of {l m : List α} (h1 : Srtd k m) (h2 : SameF k l m) : m = srtK k l := srtd_unique h1 (srtK_srtd l) (h2.symm.trans (srtK_same l))
end
theorem at_app {α : Type} (p : List α) (x : α) (q : List α) : (p ++ x :: q)[p.length]? = some x := by rw [List.getElem?_append_right (Nat.le_refl _), Nat.sub_self]; rfl
theorem at_app1 {α : Type} (p : List α) (y x : α) (q : List α) : (p ++ y :: x :: q)[p.length + 1]? = some x := by rw [List.getElem?_append_right (by omega), show p.length + 1 - p.length = 1 by omega]; rfl
theorem set_app {α : Type} (p : List α) (x z : α) (q : List α) : (p ++ x :: q).set p.length z = p ++ z :: q := by rw [List.set_append_right _ _ (Nat.le_refl _), Nat.sub_self]; rfl
theorem set_app1 {α : Type} (p : List α) (y x z : α) (q : List α) : (p ++ y :: x :: q).set (p.length + 1) z = p ++ y :: z :: q := by rw [List.set_append_right _ _ (by omega), show p.length + 1 - p.length = 1 by omega]; rfl
/-- The row that is sorted. -/
abbrev nodB (cs : List Value) : Option Blk := some (.cells cs 80 (some 0))
def RowV (v : Value) (b n : Nat) : Prop := ∀ (kk : IntKind) (i : Nat), i < n → indexAddrU Try.prog (some (.slice 80)) v (.int kk i) = some (.pointer (some ⟨b, i, none⟩))
abbrev cmpV : Value := .func (.func 40) #[] #[]
def CmpOk (w0 : World) (A : St) (b : Nat) (wt : Value → Int) (D : Value → Prop) : Prop := ∀ (cs : List Value) (x y : Value), D x → D y → ACalls Try.prog w0 40 #[x, y] (A.upd b (nodB cs)) (fin (.int .i64 (wt x - wt y)) (A.upd b (nodB cs)))
theorem Try.enters51 : Enters Try.prog 51 := enters_of Try.func51 rfl (by kernel_rfl)
set_option maxHeartbeats 8000000 in
theorem inssort_ok (w0 : World) (A : St) (b n : Nat) (v : Value) (wt : Value → Int) (D : Value → Prop) (hv : RowV v b n) (hn63 : n ≤ 1000000) (hc : CmpOk w0 A b wt D) (hD1 : ∀ x, D x → one1 x = true) (pre mid post : List Value) (hlen : pre.length + (mid.length + post.length) = n) (hD : ∀ x ∈ mid, D x) :
    ACalls Try.prog w0 51 #[v, .int .i64 pre.length, .int .i64 ((pre.length + mid.length : Nat) : Int), cmpV] (A.upd b (nodB (pre ++ (mid ++ post)))) (fin (.tuple #[]) (A.upd b (nodB (pre ++ (srtK wt mid ++ post))))) := by
  refine call_E (l := [v, .int .i64 pre.length, .int .i64 ((pre.length + mid.length : Nat) : Int), cmpV]) Try.enters51 Try.func51 rfl (Nat.le_of_ble_eq_true rfl) fun hw hbd => ?_
  by_cases hm0 : mid = []
  · subst hm0
    simp (maxSteps := 1000000) (disch := (first | omega | (simp only [nx_alloc, nx_upd, len_cons, len_nil, List.length_set, List.length_map, List.length_append] <;> omega) | fail)) only [go_sem, Try.ntmps51, Try.results51]
    refine aw_loop (fun m a A' => ∃ ρ : Nat → Value, a = E 53 ρ [] ∧ A' = A.upd b (nodB (pre ++ ([] ++ post))) ∧ ρ 2 = .int .i64 pre.length ∧ ρ 8 = .int .i64 (pre.length + 1 : Int)) 0 ⟨_, rfl, rfl, rfl, rfl⟩ ?_
    rintro m a A' ⟨ρ, rfl, rfl, r2, r8⟩
    refine aw_of ?_
    have e1 : ¬ ((pre.length : Int) + 1 < pre.length) := by omega
    simp (maxSteps := 1000000) (disch := (first | omega | (simp only [nx_alloc, nx_upd, len_cons, len_nil, List.length_set, List.length_map, List.length_append] <;> omega) | fail)) only [go_sem, r2, r8, e1, Try.results51]
    exact gc_here ⟨rfl, rfl⟩
  obtain ⟨x0, mid', rfl⟩ : ∃ x0 m', mid = x0 :: m' := by
    cases mid with
    | nil => exact absurd rfl hm0
    | cons x m => exact ⟨x, m, rfl⟩
  rw [List.length_cons] at hlen
  generalize hN : pre.length + (x0 :: mid').length = N
  rw [List.length_cons] at hN
  simp (maxSteps := 1000000) (disch := (first | omega | (simp only [nx_alloc, nx_upd, len_cons, len_nil, List.length_set, List.length_map, List.length_append] <;> omega) | fail)) only [go_sem, Try.ntmps51, Try.results51]
  refine aw_loop (fun m a A' => ∃ (ρ : Nat → Value) (m1 r : List Value), a = E 53 ρ [] ∧ x0 :: mid' = m1 ++ r ∧ m1 ≠ [] ∧ m = r.length ∧ A' = A.upd b (nodB (pre ++ (srtK wt m1 ++ (r ++ post)))) ∧ ρ 0 = v ∧ ρ 1 = .int .i64 pre.length ∧ ρ 2 = .int .i64 N ∧ ρ 3 = cmpV ∧ ρ 8 = .int .i64 ((pre.length + m1.length : Nat) : Int)) mid'.length
    ⟨_, [x0], mid', rfl, rfl, by simp, rfl, rfl, rfl, rfl, rfl, rfl, rfl⟩ ?_
  rintro m a A' ⟨ρ, m1, r, rfl, hmr, hm1, rfl, rfl, r0, r1, r2, r3, r8⟩
  refine aw_of ?_
  have hml := congrArg List.length hmr
  rw [List.length_cons, List.length_append] at hml
  have hsl := srtK_len (k := wt) m1
  cases r with
  | nil =>
    have e1 : ¬ (((pre.length + m1.length : Nat) : Int) < N) := by simp at hml; omega
    rw [List.append_nil] at hmr
    simp (maxSteps := 1000000) (disch := (first | omega | (simp only [nx_alloc, nx_upd, len_cons, len_nil, List.length_set, List.length_map, List.length_append] <;> omega) | fail)) only [go_sem, r0, r1, r2, r3, r8, Try.results51]
    rw [hmr]
    exact gc_here ⟨rfl, rfl⟩
  | cons x r =>
    rw [List.length_cons] at hml
    have e1 : (((pre.length + m1.length : Nat) : Int) < N) := by omega
    have hDx : D x := hD x (by rw [hmr]; simp)
    have hDm : ∀ y ∈ srtK wt m1, D y := fun y hy => hD y (by rw [hmr]; exact List.mem_append_left _ (((srtK_same (k := wt) m1).mem y).2 hy))
    simp (maxSteps := 1000000) (disch := (first | omega | (simp only [nx_alloc, nx_upd, len_cons, len_nil, List.length_set, List.length_map, List.length_append] <;> omega) | fail)) only [go_sem, r0, r1, r2, r3, r8]
    refine aw_loop (fun m a A' => ∃ (ρ : Nat → Value) (s1 s2 : List Value), a = E 53 ρ [] ∧ srtK wt m1 = s1 ++ s2 ∧ (∀ y ∈ s2, wt x < wt y) ∧ m = s1.length ∧ A' = A.upd b (nodB (pre ++ (s1 ++ x :: (s2 ++ (r ++ post))))) ∧ ρ 0 = v ∧ ρ 1 = .int .i64 pre.length ∧ ρ 2 = .int .i64 N ∧ ρ 3 = cmpV ∧ ρ 8 = .int .i64 ((pre.length + m1.length : Nat) : Int) ∧ ρ 9 = .int .i64 ((pre.length + s1.length : Nat) : Int)) m1.length
      ⟨_, srtK wt m1, [], rfl, by simp, (fun y hy => by cases hy), hsl.symm, rfl, by first | rfl | exact r0, by first | rfl | exact r1, by first | rfl | exact r2, by first | rfl | exact r3, by first | rfl | exact r8, by rw [hsl]; rfl⟩ ?_
    clear r0 r1 r2 r3 r8
    rintro m a A' ⟨ρ, s1, s2, rfl, hs, hgt, rfl, rfl, r0, r1, r2, r3, r8, r9⟩
    refine aw_of ?_
    have hss := congrArg List.length hs
    rw [List.length_append, hsl] at hss
    have hsr := srtK_srtd (k := wt) m1
    rw [hs] at hsr
    have stop : ∀ (s1 : List Value), srtK wt m1 = s1 ++ s2 → (∀ y ∈ s1, wt y ≤ wt x) → srtK wt (m1 ++ [x]) = s1 ++ x :: s2 := fun s1 hs hle => by
      rw [srtK_app, hs]
      have := srtK_srtd (k := wt) m1
      rw [hs] at this
      exact insK_split this hgt hle
    rcases List.eq_nil_or_concat s1 with rfl | ⟨s1', y, rfl⟩
    · refine aw_draw (by kernel_rfl) ?_
      have e2 : ¬ (pre.length < pre.length) := by omega
      simp (maxSteps := 1000000) (disch := (first | omega | (simp only [nx_alloc, nx_upd, len_cons, len_nil, List.length_set, List.length_map, List.length_append] <;> omega) | fail)) only [go_sem, r0, r1, r2, r3, r8, r9]
      refine ⟨r.length, by simp, _, m1 ++ [x], r, rfl, by rw [hmr]; simp, by simp, rfl, ?_, ?_, ?_, ?_, ?_, ?_⟩
      · rw [stop [] hs (fun y hy => by cases hy)]; simp
      · simp (maxSteps := 1000000) (disch := (first | omega | (simp only [nx_alloc, nx_upd, len_cons, len_nil, List.length_set, List.length_map, List.length_append] <;> omega) | fail)) only [go_sem, r0]
      · simp (maxSteps := 1000000) (disch := (first | omega | (simp only [nx_alloc, nx_upd, len_cons, len_nil, List.length_set, List.length_map, List.length_append] <;> omega) | fail)) only [go_sem, r1]
      · simp (maxSteps := 1000000) (disch := (first | omega | (simp only [nx_alloc, nx_upd, len_cons, len_nil, List.length_set, List.length_map, List.length_append] <;> omega) | fail)) only [go_sem, r2]
      · simp (maxSteps := 1000000) (disch := (first | omega | (simp only [nx_alloc, nx_upd, len_cons, len_nil, List.length_set, List.length_map, List.length_append] <;> omega) | fail)) only [go_sem, r3]
      · simp (maxSteps := 1000000) (disch := (first | omega | (simp only [nx_alloc, nx_upd, len_cons, len_nil, List.length_set, List.length_map, List.length_append] <;> omega) | fail)) only [go_sem, r8]
        simp only [List.length_append, List.length_singleton]
        congr 1
    rw [List.concat_eq_append] at *
    have hy : D y := hDm y (by rw [hs]; simp)
    have hdat : pre ++ (s1' ++ [y] ++ x :: (s2 ++ (r ++ post))) = (pre ++ s1') ++ y :: x :: (s2 ++ (r ++ post)) := by simp
    obtain ⟨jm, hjm⟩ : ∃ jm, jm = pre.length + s1'.length := ⟨_, rfl⟩
    have hpl : (pre ++ s1').length = jm := by rw [List.length_append, hjm]
    have i1 := hv .i64 (jm + 1) (by rw [List.length_append] at hss; simp at hss; omega)
    have i0 := hv .i64 jm (by rw [List.length_append] at hss; simp at hss; omega)
    have hj : ((pre.length + (s1' ++ [y]).length : Nat) : Int) = ((jm + 1 : Nat) : Int) := by rw [hjm]; simp [Nat.add_assoc]
    rw [hj] at r9
    have hj1 : (((jm + 1 : Nat) : Int) - 1) = ((jm : Nat) : Int) := by omega
    have hgj : ((pre.length : Int) < ((jm + 1 : Nat) : Int)) := by omega
    have c1 := at_app1 (pre ++ s1') y x (s2 ++ (r ++ post))
    have c0 := at_app (pre ++ s1') y (x :: (s2 ++ (r ++ post)))
    rw [hpl] at c1 c0
    have hg := get_upd_same (A := A) b (nodB ((pre ++ s1') ++ y :: x :: (s2 ++ (r ++ post))))
    have hcc := hc ((pre ++ s1') ++ y :: x :: (s2 ++ (r ++ post))) x y hDx hy
    rw [hdat]
    refine aw_draw (by kernel_rfl) ?_
    simp (maxSteps := 1000000) (disch := (first | omega | (simp only [nx_alloc, nx_upd, len_cons, len_nil, List.length_set, List.length_map, List.length_append] <;> omega) | fail)) only [go_sem, r0, r1, r2, r3, r8, r9, i1, i0, hj1, c1, c0, hg]
    refine ⟨_, hcc, ?_⟩
    by_cases hlt : wt x - wt y < 0
    rotate_left
    · simp (maxSteps := 1000000) (disch := (first | omega | (simp only [nx_alloc, nx_upd, len_cons, len_nil, List.length_set, List.length_map, List.length_append] <;> omega) | fail)) only [go_sem, hlt, r8]
      refine ⟨r.length, by simp, _, m1 ++ [x], r, rfl, by rw [hmr]; simp, by simp, rfl, ?_, ?_, ?_, ?_, ?_, ?_⟩
      · rw [stop (s1' ++ [y]) hs fun z hz => ?_]
        · simp
        · unfold Srtd at hsr
          rw [List.append_assoc, List.pairwise_append] at hsr
          rcases List.mem_append.1 hz with hz | hz
          · have := hsr.2.2 z hz y (by simp); omega
          · rw [List.mem_singleton.1 hz]; omega
      · simp (maxSteps := 1000000) (disch := (first | omega | (simp only [nx_alloc, nx_upd, len_cons, len_nil, List.length_set, List.length_map, List.length_append] <;> omega) | fail)) only [go_sem, r0]
      · simp (maxSteps := 1000000) (disch := (first | omega | (simp only [nx_alloc, nx_upd, len_cons, len_nil, List.length_set, List.length_map, List.length_append] <;> omega) | fail)) only [go_sem, r1]
      · simp (maxSteps := 1000000) (disch := (first | omega | (simp only [nx_alloc, nx_upd, len_cons, len_nil, List.length_set, List.length_map, List.length_append] <;> omega) | fail)) only [go_sem, r2]
      · simp (maxSteps := 1000000) (disch := (first | omega | (simp only [nx_alloc, nx_upd, len_cons, len_nil, List.length_set, List.length_map, List.length_append] <;> omega) | fail)) only [go_sem, r3]
      · simp (maxSteps := 1000000) (disch := (first | omega | (simp only [nx_alloc, nx_upd, len_cons, len_nil, List.length_set, List.length_map, List.length_append] <;> omega) | fail)) only [go_sem, r8]
        simp only [List.length_append, List.length_singleton]
        congr 1
    have ho := hD1 y hy
    have hox := hD1 x hDx
    have q1 := set_app1 (pre ++ s1') y x y (s2 ++ (r ++ post))
    have q0 := set_app (pre ++ s1') y x (y :: (s2 ++ (r ++ post)))
    rw [hpl] at q1 q0
    have hl2 : ((pre ++ s1') ++ y :: x :: (s2 ++ (r ++ post))).length = n := by simp only [List.length_append, List.length_cons] at *; omega
    have hl3 : ((pre ++ s1') ++ y :: y :: (s2 ++ (r ++ post))).length = n := by simp only [List.length_append, List.length_cons] at *; omega
    have hin : jm + 1 < n := by rw [List.length_append] at hss; simp at hss; omega
    have st1 := storeC_val (A := A.upd b (nodB ((pre ++ s1') ++ y :: x :: (s2 ++ (r ++ post))))) (b := b) (off := jm + 1) (k := 0) (cs := (pre ++ s1') ++ y :: x :: (s2 ++ (r ++ post))) (e := 80) ho (Nat.zero_le _) (by omega)
    have st0 := storeC_val (A := A.upd b (nodB ((pre ++ s1') ++ y :: y :: (s2 ++ (r ++ post))))) (b := b) (off := jm) (k := 0) (cs := (pre ++ s1') ++ y :: y :: (s2 ++ (r ++ post))) (e := 80) hox (Nat.zero_le _) (by omega)
    rw [q1, upd_upd] at st1
    rw [q0, upd_upd] at st0
    have hg1 := get_upd_same (A := A) b (nodB ((pre ++ s1') ++ y :: y :: (s2 ++ (r ++ post))))
    simp (maxSteps := 1000000) (disch := (first | omega | (simp only [nx_alloc, nx_upd, len_cons, len_nil, List.length_set, List.length_map, List.length_append] <;> omega) | fail)) only [go_sem, hlt]
    refine aw_draw2 [⟨false, [], [0]⟩, ⟨false, [], [0]⟩, ⟨false, [], [0, 1]⟩, ⟨false, [], [0, 1]⟩, ⟨false, [3], [0, 1]⟩, ⟨false, [], [0]⟩, ⟨false, [], [0]⟩, ⟨false, [6], [0]⟩, ⟨false, [5, 6, 7], [0]⟩, ⟨false, [5, 6, 7, 8], [0]⟩, ⟨false, [], [0]⟩, ⟨false, [], [0]⟩, ⟨false, [10, 11], [0]⟩, ⟨false, [10, 11, 12], [0]⟩, ⟨false, [0, 1, 5, 6, 7, 8, 9, 10, 11, 12, 13], [0]⟩, ⟨true, [0, 1, 5, 6, 7, 8, 9, 10, 11, 12, 13, 14], [0]⟩, ⟨false, [0, 1, 2, 3, 4, 5, 6, 7, 8, 9, 10, 11, 12, 13, 14, 15], [1]⟩, ⟨true, [0, 1, 2, 3, 4, 5, 6, 7, 8, 9, 10, 11, 12, 13, 14, 15, 16], [1]⟩] [A.upd b (nodB ((pre ++ s1') ++ y :: x :: (s2 ++ (r ++ post)))), A.upd b (nodB ((pre ++ s1') ++ y :: y :: (s2 ++ (r ++ post)))), A.upd b (nodB ((pre ++ s1') ++ x :: y :: (s2 ++ (r ++ post))))] 2 (by kernel_rfl) (by kernel_rfl) rfl ?_
    simp (maxSteps := 1000000) (disch := (first | omega | (simp only [nx_alloc, nx_upd, len_cons, len_nil, List.length_set, List.length_map, List.length_append] <;> omega) | fail)) only [go_sem, r0, r9, i1, i0, hj1, c1, c0, hg, hg1, st1, st0]
    refine ⟨s1'.length, by simp, _, s1', y :: s2, rfl, by rw [hs]; simp, ?_, rfl, by simp, ?_, ?_, ?_, ?_, ?_, ?_⟩
    · intro z hz
      rcases List.mem_cons.1 hz with rfl | hz
      · omega
      · exact hgt z hz
    · simp (maxSteps := 1000000) (disch := (first | omega | (simp only [nx_alloc, nx_upd, len_cons, len_nil, List.length_set, List.length_map, List.length_append] <;> omega) | fail)) only [go_sem, r0]
    · simp (maxSteps := 1000000) (disch := (first | omega | (simp only [nx_alloc, nx_upd, len_cons, len_nil, List.length_set, List.length_map, List.length_append] <;> omega) | fail)) only [go_sem, r1]
    · simp (maxSteps := 1000000) (disch := (first | omega | (simp only [nx_alloc, nx_upd, len_cons, len_nil, List.length_set, List.length_map, List.length_append] <;> omega) | fail)) only [go_sem, r2]
    · simp (maxSteps := 1000000) (disch := (first | omega | (simp only [nx_alloc, nx_upd, len_cons, len_nil, List.length_set, List.length_map, List.length_append] <;> omega) | fail)) only [go_sem, r3]
    · simp (maxSteps := 1000000) (disch := (first | omega | (simp only [nx_alloc, nx_upd, len_cons, len_nil, List.length_set, List.length_map, List.length_append] <;> omega) | fail)) only [go_sem, r8]
    · simp (maxSteps := 1000000) (disch := (first | omega | (simp only [nx_alloc, nx_upd, len_cons, len_nil, List.length_set, List.length_map, List.length_append] <;> omega) | fail)) only [go_sem, hj1]
      rw [hjm]
end Go.Fw
