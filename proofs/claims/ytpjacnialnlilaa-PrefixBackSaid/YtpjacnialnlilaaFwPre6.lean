import Derived.Test.YtpjacnialnlilaaFwPre5
set_option linter.unusedSimpArgs false
set_option linter.unusedVariables false
set_option maxRecDepth 4000
namespace Go.Fw
open Go.Proofs Go.RowKit
/-! slices.stableCmpFunc, slices.SortStableFunc. -/
section
variable {α : Type} (k : α → Int)
/-- Sorted pieces of one length, the last one no longer. -/
inductive Chk (bs : Nat) : List α → Prop
  | last (l : List α) (h : l.length ≤ bs) (s : Srtd k l) : Chk bs l
  | cons (c r : List α) (hc : c.length = bs) (s : Srtd k c) (h : Chk bs r) : Chk bs (c ++ r)
variable {k}
theorem Chk.small {bs : Nat} {l : List α} (h : Chk k bs l) (hl : l.length ≤ bs) : Srtd k l := by
  cases h with
  | last _ h s => exact s
  | cons c r hc s h =>
    rw [List.length_append] at hl
    have : r = [] := List.eq_nil_of_length_eq_zero (by omega)
    subst this
    rw [List.append_nil]; exact s
theorem Chk.nil (bs : Nat) : Chk k bs [] := .last [] (Nat.zero_le _) .nil
theorem Chk.head {bs : Nat} {l : List α} (h : Chk k bs l) (hl : bs ≤ l.length) : ∃ c r, l = c ++ r ∧ c.length = bs ∧ Srtd k c ∧ Chk k bs r := by
  cases h with
  | last _ h s => exact ⟨l, [], by simp, by omega, s, Chk.nil bs⟩
  | cons c r hc s h => exact ⟨c, r, rfl, hc, s, h⟩
end
theorem Try.enters50 : Enters Try.prog 50 := enters_of Try.func50 rfl (by kernel_rfl)
theorem Try.enters39 : Enters Try.prog 39 := enters_of Try.func39 rfl (by kernel_rfl)
variable {w0 : World} {A : St} {b n : Nat} {v : Value} {wt : Value → Int} {D : Value → Prop}
set_option maxHeartbeats 16000000 in
theorem stable_ok (hv : RowV v b n) (hn63 : n ≤ 1000000) (hc : CmpOk w0 A b wt D) (hD1 : ∀ x, D x → one1 x = true) (cs : List Value) (hlen : cs.length = n) (hD : ∀ x ∈ cs, D x) :
    ACalls Try.prog w0 50 #[v, .int .i64 n, cmpV] (A.upd b (nodB cs)) (fin (.tuple #[]) (A.upd b (nodB (srtK wt cs)))) := by
  refine call_E (l := [v, .int .i64 n, cmpV]) Try.enters50 Try.func50 rfl (Nat.le_of_ble_eq_true rfl) fun hw hbd => ?_
  simp (maxSteps := 1000000) (disch := (first | omega | (simp only [nx_alloc, nx_upd, len_cons, len_nil, List.length_set, List.length_map, List.length_append] <;> omega) | fail)) only [go_sem, Try.ntmps50, Try.results50]
  refine cutL 0 (fun a' A' => ∃ (ρ : Nat → Value) (pre r : List Value), a' = E 63 ρ [] ∧ A' = A.upd b (nodB (pre ++ r)) ∧ (∀ s, Chk wt 20 s → Chk wt 20 (pre ++ s)) ∧ pre.length + r.length = n ∧ r.length < 20 ∧ SameF wt cs (pre ++ r) ∧ ρ 0 = v ∧ ρ 1 = .int .i64 n ∧ ρ 2 = cmpV ∧ ρ 6 = .int .i64 20 ∧ ρ 7 = .int .i64 (pre.length : Nat)) ?_ ?_
  · refine aw_loop (fun k a A' => ∃ (ρ : Nat → Value) (pre r : List Value), a = E 63 ρ [] ∧ k = r.length ∧ A' = A.upd b (nodB (pre ++ r)) ∧ (∀ s, Chk wt 20 s → Chk wt 20 (pre ++ s)) ∧ pre.length + r.length = n ∧ SameF wt cs (pre ++ r) ∧ ρ 0 = v ∧ ρ 1 = .int .i64 n ∧ ρ 2 = cmpV ∧ ρ 6 = .int .i64 20 ∧ ρ 7 = .int .i64 (pre.length : Nat) ∧ ρ 8 = .int .i64 ((pre.length + 20 : Nat) : Int)) cs.length
      ⟨_, [], cs, rfl, rfl, rfl, (fun s h => h), by simpa using hlen, SameF.refl wt cs, rfl, rfl, rfl, rfl, rfl, rfl⟩ ?_
    rintro k a A' ⟨ρ, pre, r, rfl, rfl, rfl, hpre, hl, hsf, r0, r1, r2, r6, r7, r8⟩
    refine aw_of ?_
    by_cases hle : pre.length + 20 ≤ n
    · have hle' : ((pre.length + 20 : Nat) : Int) ≤ (n : Int) := by omega
      obtain ⟨c, r', rfl, hcl⟩ : ∃ c r', r = c ++ r' ∧ c.length = 20 := ⟨r.take 20, r.drop 20, (List.take_append_drop ..).symm, by rw [List.length_take]; omega⟩
      rw [List.length_append] at hl
      have hDc : ∀ x ∈ c, D x := fun x hx => hD x ((hsf.mem x).2 (by simp [hx]))
      have h := inssort_ok w0 A b n v wt D hv hn63 hc hD1 pre c r' (by omega) hDc
      rw [hcl] at h
      have hb : ((pre.length + 20 : Nat) : Int) + 20 = (((pre ++ srtK wt c).length + 20 : Nat) : Int) := by rw [List.length_append, srtK_len, hcl]; omega
      have hp : ((pre.length + 20 : Nat) : Int) = ((pre ++ srtK wt c).length : Nat) := by rw [List.length_append, srtK_len, hcl]
      simp (maxSteps := 1000000) (disch := (first | omega | (simp only [nx_alloc, nx_upd, len_cons, len_nil, List.length_set, List.length_map, List.length_append] <;> omega) | fail)) only [go_sem, r0, r1, r2, r6, r7, r8]
      refine call1 h ?_
      simp (maxSteps := 1000000) (disch := (first | omega | (simp only [nx_alloc, nx_upd, len_cons, len_nil, List.length_set, List.length_map, List.length_append] <;> omega) | fail)) only [go_sem, r6, r8, hb]
      refine ⟨r'.length, by rw [List.length_append]; omega, _, pre ++ srtK wt c, r', rfl, rfl, by simp, fun s hs => ?_, ?_, ?_, ?_, ?_, ?_, ?_, ?_, ?_⟩
      · rw [List.append_assoc]
        exact hpre _ (.cons _ _ (by rw [srtK_len]; exact hcl) (srtK_srtd c) hs)
      · rw [List.length_append, srtK_len]; omega
      · refine hsf.trans ?_
        rw [List.append_assoc]
        exact SameF.app (SameF.refl wt pre) (SameF.app (srtK_same c) (SameF.refl wt r'))
      · simp (maxSteps := 1000000) (disch := (first | omega | (simp only [nx_alloc, nx_upd, len_cons, len_nil, List.length_set, List.length_map, List.length_append] <;> omega) | fail)) only [go_sem, r0]
      · simp (maxSteps := 1000000) (disch := (first | omega | (simp only [nx_alloc, nx_upd, len_cons, len_nil, List.length_set, List.length_map, List.length_append] <;> omega) | fail)) only [go_sem, r1]
      · simp (maxSteps := 1000000) (disch := (first | omega | (simp only [nx_alloc, nx_upd, len_cons, len_nil, List.length_set, List.length_map, List.length_append] <;> omega) | fail)) only [go_sem, r2]
      · simp (maxSteps := 1000000) (disch := (first | omega | (simp only [nx_alloc, nx_upd, len_cons, len_nil, List.length_set, List.length_map, List.length_append] <;> omega) | fail)) only [go_sem, r6]
      · simp (maxSteps := 1000000) (disch := (first | omega | (simp only [nx_alloc, nx_upd, len_cons, len_nil, List.length_set, List.length_map, List.length_append] <;> omega) | fail)) only [go_sem]
        rw [hp]
      · simp (maxSteps := 1000000) (disch := (first | omega | (simp only [nx_alloc, nx_upd, len_cons, len_nil, List.length_set, List.length_map, List.length_append] <;> omega) | fail)) only [go_sem]
    have hle' : ¬ ((pre.length + 20 : Nat) : Int) ≤ (n : Int) := by omega
    simp (maxSteps := 1000000) (disch := (first | omega | (simp only [nx_alloc, nx_upd, len_cons, len_nil, List.length_set, List.length_map, List.length_append] <;> omega) | fail)) only [go_sem, r0, r1, r2, r6, r7, r8, exitQ_exit]
    refine ⟨_, pre, r, rfl, rfl, hpre, hl, by omega, hsf, ?_, ?_, ?_, ?_, ?_⟩
    · simp (maxSteps := 1000000) (disch := (first | omega | (simp only [nx_alloc, nx_upd, len_cons, len_nil, List.length_set, List.length_map, List.length_append] <;> omega) | fail)) only [go_sem, r0]
    · simp (maxSteps := 1000000) (disch := (first | omega | (simp only [nx_alloc, nx_upd, len_cons, len_nil, List.length_set, List.length_map, List.length_append] <;> omega) | fail)) only [go_sem, r1]
    · simp (maxSteps := 1000000) (disch := (first | omega | (simp only [nx_alloc, nx_upd, len_cons, len_nil, List.length_set, List.length_map, List.length_append] <;> omega) | fail)) only [go_sem, r2]
    · simp (maxSteps := 1000000) (disch := (first | omega | (simp only [nx_alloc, nx_upd, len_cons, len_nil, List.length_set, List.length_map, List.length_append] <;> omega) | fail)) only [go_sem, r6]
    · simp (maxSteps := 1000000) (disch := (first | omega | (simp only [nx_alloc, nx_upd, len_cons, len_nil, List.length_set, List.length_map, List.length_append] <;> omega) | fail)) only [go_sem, r7]
  rintro a' A' ⟨ρ, pre, r, rfl, rfl, hpre, hl, hr20, hsf, r0, r1, r2, r6, r7⟩
  have hDr : ∀ x ∈ r, D x := fun x hx => hD x ((hsf.mem x).2 (by simp [hx]))
  have h := inssort_ok w0 A b n v wt D hv hn63 hc hD1 pre r [] (by simpa using hl) hDr
  rw [hl] at h
  simp only [List.append_nil] at h
  have hck : Chk wt 20 (pre ++ srtK wt r) := hpre _ (.last _ (by rw [srtK_len]; omega) (srtK_srtd r))
  have hsf2 : SameF wt cs (pre ++ srtK wt r) := hsf.trans (SameF.app (SameF.refl wt pre) (srtK_same r))
  have hl2 : (pre ++ srtK wt r).length = n := by rw [List.length_append, srtK_len]; exact hl
  simp (maxSteps := 1000000) (disch := (first | omega | (simp only [nx_alloc, nx_upd, len_cons, len_nil, List.length_set, List.length_map, List.length_append] <;> omega) | fail)) only [go_sem, r0, r1, r2, r6, r7]
  refine call1 h ?_
  generalize pre ++ srtK wt r = cs2 at *
  simp (maxSteps := 1000000) (disch := (first | omega | (simp only [nx_alloc, nx_upd, len_cons, len_nil, List.length_set, List.length_map, List.length_append] <;> omega) | fail)) only [go_sem]
  refine cutL 2 (fun a' A' => A' = A.upd b (nodB (srtK wt cs)) ∧ ∃ ρ, a' = E 63 ρ []) ?_ ?_
  rotate_left
  · rintro a' A' ⟨rfl, ρ, rfl⟩
    simp (maxSteps := 1000000) (disch := (first | omega | (simp only [nx_alloc, nx_upd, len_cons, len_nil, List.length_set, List.length_map, List.length_append] <;> omega) | fail)) only [go_sem, Try.results50]
    exact gc_here ⟨rfl, rfl⟩
  refine aw_loop (fun k a A' => ∃ (ρ : Nat → Value) (bs : Nat) (cs2 : List Value), a = E 63 ρ [] ∧ k = n - bs ∧ 1 ≤ bs ∧ bs ≤ 2000000 ∧ A' = A.upd b (nodB cs2) ∧ Chk wt bs cs2 ∧ cs2.length = n ∧ SameF wt cs cs2 ∧ ρ 0 = v ∧ ρ 1 = .int .i64 n ∧ ρ 2 = cmpV ∧ ρ 6 = .int .i64 bs) (n - 20)
    ⟨_, 20, cs2, rfl, rfl, by decide, by decide, rfl, hck, hl2, hsf2, by first | rfl | exact r0, by first | rfl | exact r1, by first | rfl | exact r2, by first | rfl | exact r6⟩ ?_
  clear r0 r1 r2 r6 r7 hck hsf2 hl2 h hDr hsf hl hpre
  rintro k a A' ⟨ρ, bs, cs2, rfl, rfl, hb1, hb2, rfl, hck, hl2, hsf2, r0, r1, r2, r6⟩
  refine aw_of ?_
  by_cases hbn : bs < n
  rotate_left
  · have hbn' : ¬ (bs : Int) < (n : Int) := by omega
    simp (maxSteps := 1000000) (disch := (first | omega | (simp only [nx_alloc, nx_upd, len_cons, len_nil, List.length_set, List.length_map, List.length_append] <;> omega) | fail)) only [go_sem, r0, r1, r2, r6, exitQ_exit]
    have : cs2 = srtK wt cs := srtK_of (hck.small (by omega)) hsf2
    subst this
    first
      | exact ⟨_, rfl⟩
      | exact ⟨rfl, _, rfl⟩
  have hbn' : (bs : Int) < (n : Int) := by omega
  have h2 : (2 : Int) * (bs : Int) = ((2 * bs : Nat) : Int) := by omega
  simp (maxSteps := 1000000) (disch := (first | omega | (simp only [nx_alloc, nx_upd, len_cons, len_nil, List.length_set, List.length_map, List.length_append] <;> omega) | fail)) only [go_sem, r0, r1, r2, r6, h2]
  refine cutL 4 (fun a' A' => ∃ (ρ : Nat → Value) (pre r : List Value), a' = E 63 ρ [] ∧ A' = A.upd b (nodB (pre ++ r)) ∧ (∀ s, Chk wt (2 * bs) s → Chk wt (2 * bs) (pre ++ s)) ∧ Chk wt bs r ∧ pre.length + r.length = n ∧ r.length < 2 * bs ∧ SameF wt cs (pre ++ r) ∧ ρ 0 = v ∧ ρ 1 = .int .i64 n ∧ ρ 2 = cmpV ∧ ρ 6 = .int .i64 bs ∧ ρ 7 = .int .i64 (pre.length : Nat)) ?_ ?_
  · refine aw_loop (fun k a A' => ∃ (ρ : Nat → Value) (pre r : List Value), a = E 63 ρ [] ∧ k = r.length ∧ A' = A.upd b (nodB (pre ++ r)) ∧ (∀ s, Chk wt (2 * bs) s → Chk wt (2 * bs) (pre ++ s)) ∧ Chk wt bs r ∧ pre.length + r.length = n ∧ SameF wt cs (pre ++ r) ∧ ρ 0 = v ∧ ρ 1 = .int .i64 n ∧ ρ 2 = cmpV ∧ ρ 6 = .int .i64 bs ∧ ρ 7 = .int .i64 (pre.length : Nat) ∧ ρ 8 = .int .i64 ((pre.length + 2 * bs : Nat) : Int)) cs2.length
      ⟨_, [], cs2, rfl, rfl, rfl, (fun s h => h), hck, by simpa using hl2, hsf2, by first | rfl | exact r0, by first | rfl | exact r1, by first | rfl | exact r2, by first | rfl | exact r6, rfl, by rw [List.length_nil, Nat.zero_add]; rfl⟩ ?_
    clear r0 r1 r2 r6
    rintro k a A' ⟨ρ, pre, r, rfl, rfl, rfl, hpre, hcr, hl, hsf, r0, r1, r2, r6, r7, r8⟩
    refine aw_of ?_
    by_cases hle : pre.length + 2 * bs ≤ n
    · have hle' : ((pre.length + 2 * bs : Nat) : Int) ≤ (n : Int) := by omega
      obtain ⟨c1, r1', rfl, hcl1, sc1, hr1⟩ := hcr.head (by omega)
      rw [List.length_append] at hl
      obtain ⟨c2, r2', rfl, hcl2, sc2, hr2⟩ := hr1.head (by omega)
      rw [List.length_append] at hl
      have hD1' : ∀ x ∈ c1, D x := fun x hx => hD x ((hsf.mem x).2 (by simp [hx]))
      have hD2' : ∀ x ∈ c2, D x := fun x hx => hD x ((hsf.mem x).2 (by simp [hx]))
      have nc1 : c1 ≠ [] := fun h => by rw [h] at hcl1; simp at hcl1; omega
      have nc2 : c2 ≠ [] := fun h => by rw [h] at hcl2; simp at hcl2; omega
      have h := symmerge_ok hv hn63 hc hD1 _ pre c1 c2 r2' rfl (by omega) nc1 nc2 hD1' hD2' sc1 sc2 pre.length (pre.length + bs) (pre.length + 2 * bs) rfl (by omega) (by omega)
      have hsl : (srtK wt (c1 ++ c2)).length = 2 * bs := by rw [srtK_len, List.length_append]; omega
      have hm : (pre.length : Int) + (bs : Int) = ((pre.length + bs : Nat) : Int) := by omega
      have hp : ((pre.length + 2 * bs : Nat) : Int) = ((pre ++ srtK wt (c1 ++ c2)).length : Nat) := by rw [List.length_append, hsl]
      have hb : ((pre.length + 2 * bs : Nat) : Int) + ((2 * bs : Nat) : Int) = (((pre ++ srtK wt (c1 ++ c2)).length + 2 * bs : Nat) : Int) := by rw [List.length_append, hsl]; omega
      simp (maxSteps := 1000000) (disch := (first | omega | (simp only [nx_alloc, nx_upd, len_cons, len_nil, List.length_set, List.length_map, List.length_append] <;> omega) | fail)) only [go_sem, r0, r1, r2, r6, r7, r8, hm]
      refine call1 h ?_
      simp (maxSteps := 1000000) (disch := (first | omega | (simp only [nx_alloc, nx_upd, len_cons, len_nil, List.length_set, List.length_map, List.length_append] <;> omega) | fail)) only [go_sem, r6, r8, h2, hb]
      refine ⟨r2'.length, by simp only [List.length_append]; omega, _, pre ++ srtK wt (c1 ++ c2), r2', rfl, rfl, by simp, fun s hs => ?_, hr2, ?_, ?_, ?_, ?_, ?_, ?_, ?_, ?_⟩
      · rw [List.append_assoc]
        exact hpre _ (.cons _ _ hsl (srtK_srtd _) hs)
      · rw [List.length_append, hsl]; omega
      · refine hsf.trans ?_
        rw [List.append_assoc, ← List.append_assoc c1 c2]
        exact SameF.app (SameF.refl wt pre) (SameF.app (srtK_same _) (SameF.refl wt r2'))
      · simp (maxSteps := 1000000) (disch := (first | omega | (simp only [nx_alloc, nx_upd, len_cons, len_nil, List.length_set, List.length_map, List.length_append] <;> omega) | fail)) only [go_sem, r0]
      · simp (maxSteps := 1000000) (disch := (first | omega | (simp only [nx_alloc, nx_upd, len_cons, len_nil, List.length_set, List.length_map, List.length_append] <;> omega) | fail)) only [go_sem, r1]
      · simp (maxSteps := 1000000) (disch := (first | omega | (simp only [nx_alloc, nx_upd, len_cons, len_nil, List.length_set, List.length_map, List.length_append] <;> omega) | fail)) only [go_sem, r2]
      · simp (maxSteps := 1000000) (disch := (first | omega | (simp only [nx_alloc, nx_upd, len_cons, len_nil, List.length_set, List.length_map, List.length_append] <;> omega) | fail)) only [go_sem, r6]
      · simp (maxSteps := 1000000) (disch := (first | omega | (simp only [nx_alloc, nx_upd, len_cons, len_nil, List.length_set, List.length_map, List.length_append] <;> omega) | fail)) only [go_sem]
        rw [hp]
      · simp (maxSteps := 1000000) (disch := (first | omega | (simp only [nx_alloc, nx_upd, len_cons, len_nil, List.length_set, List.length_map, List.length_append] <;> omega) | fail)) only [go_sem]
    have hle' : ¬ ((pre.length + 2 * bs : Nat) : Int) ≤ (n : Int) := by omega
    simp (maxSteps := 1000000) (disch := (first | omega | (simp only [nx_alloc, nx_upd, len_cons, len_nil, List.length_set, List.length_map, List.length_append] <;> omega) | fail)) only [go_sem, r0, r1, r2, r6, r7, r8, exitQ_exit]
    refine ⟨_, pre, r, rfl, rfl, hpre, hcr, hl, by omega, hsf, ?_, ?_, ?_, ?_, ?_⟩
    · simp (maxSteps := 1000000) (disch := (first | omega | (simp only [nx_alloc, nx_upd, len_cons, len_nil, List.length_set, List.length_map, List.length_append] <;> omega) | fail)) only [go_sem, r0]
    · simp (maxSteps := 1000000) (disch := (first | omega | (simp only [nx_alloc, nx_upd, len_cons, len_nil, List.length_set, List.length_map, List.length_append] <;> omega) | fail)) only [go_sem, r1]
    · simp (maxSteps := 1000000) (disch := (first | omega | (simp only [nx_alloc, nx_upd, len_cons, len_nil, List.length_set, List.length_map, List.length_append] <;> omega) | fail)) only [go_sem, r2]
    · simp (maxSteps := 1000000) (disch := (first | omega | (simp only [nx_alloc, nx_upd, len_cons, len_nil, List.length_set, List.length_map, List.length_append] <;> omega) | fail)) only [go_sem, r6]
    · simp (maxSteps := 1000000) (disch := (first | omega | (simp only [nx_alloc, nx_upd, len_cons, len_nil, List.length_set, List.length_map, List.length_append] <;> omega) | fail)) only [go_sem, r7]
  clear r0 r1 r2 r6 hck hl2 hsf2 cs2
  rintro a' A' ⟨ρ, pre, r, rfl, rfl, hpre, hcr, hl, hrl, hsf, r0, r1, r2, r6, r7⟩
  have hm : (pre.length : Int) + (bs : Int) = ((pre.length + bs : Nat) : Int) := by omega
  have h2' : (bs : Int) * 2 = ((2 * bs : Nat) : Int) := by omega
  by_cases hmn : pre.length + bs < n
  · have hmn' : ((pre.length + bs : Nat) : Int) < (n : Int) := by omega
    obtain ⟨c1, r1', rfl, hcl1, sc1, hr1⟩ := hcr.head (by omega)
    rw [List.length_append] at hl hrl
    have sr1 := hr1.small (by omega)
    have hD1' : ∀ x ∈ c1, D x := fun x hx => hD x ((hsf.mem x).2 (by simp [hx]))
    have hD2' : ∀ x ∈ r1', D x := fun x hx => hD x ((hsf.mem x).2 (by simp [hx]))
    have nc1 : c1 ≠ [] := fun h => by rw [h] at hcl1; simp at hcl1; omega
    have nc2 : r1' ≠ [] := fun h => by rw [h] at hl; simp at hl; omega
    have h := symmerge_ok hv hn63 hc hD1 _ pre c1 r1' [] rfl (by simp; omega) nc1 nc2 hD1' hD2' sc1 sr1 pre.length (pre.length + bs) n rfl (by omega) (by omega)
    simp only [List.append_nil] at h
    simp (maxSteps := 1000000) (disch := (first | omega | (simp only [nx_alloc, nx_upd, len_cons, len_nil, List.length_set, List.length_map, List.length_append] <;> omega) | fail)) only [go_sem, r0, r1, r2, r6, r7, hm]
    refine call1 h ?_
    simp (maxSteps := 1000000) (disch := (first | omega | (simp only [nx_alloc, nx_upd, len_cons, len_nil, List.length_set, List.length_map, List.length_append] <;> omega) | fail)) only [go_sem, r6, h2']
    refine ⟨n - 2 * bs, by omega, _, 2 * bs, pre ++ srtK wt (c1 ++ r1'), rfl, rfl, by omega, by omega, rfl, ?_, ?_, ?_, ?_, ?_, ?_, ?_⟩
    · exact hpre _ (.last _ (by rw [srtK_len, List.length_append]; omega) (srtK_srtd _))
    · rw [List.length_append, srtK_len, List.length_append]; omega
    · exact hsf.trans (SameF.app (SameF.refl wt pre) (srtK_same _))
    · simp (maxSteps := 1000000) (disch := (first | omega | (simp only [nx_alloc, nx_upd, len_cons, len_nil, List.length_set, List.length_map, List.length_append] <;> omega) | fail)) only [go_sem, r0]
    · simp (maxSteps := 1000000) (disch := (first | omega | (simp only [nx_alloc, nx_upd, len_cons, len_nil, List.length_set, List.length_map, List.length_append] <;> omega) | fail)) only [go_sem, r1]
    · simp (maxSteps := 1000000) (disch := (first | omega | (simp only [nx_alloc, nx_upd, len_cons, len_nil, List.length_set, List.length_map, List.length_append] <;> omega) | fail)) only [go_sem, r2]
    · simp (maxSteps := 1000000) (disch := (first | omega | (simp only [nx_alloc, nx_upd, len_cons, len_nil, List.length_set, List.length_map, List.length_append] <;> omega) | fail)) only [go_sem]
  · have hmn' : ¬ ((pre.length + bs : Nat) : Int) < (n : Int) := by omega
    simp (maxSteps := 1000000) (disch := (first | omega | (simp only [nx_alloc, nx_upd, len_cons, len_nil, List.length_set, List.length_map, List.length_append] <;> omega) | fail)) only [go_sem, r0, r1, r2, r6, r7, hm, h2']
    refine ⟨n - 2 * bs, by omega, _, 2 * bs, pre ++ r, rfl, rfl, by omega, by omega, rfl, ?_, ?_, ?_, ?_, ?_, ?_, ?_⟩
    · exact hpre _ (.last _ (by omega) (hcr.small (by omega)))
    · rw [List.length_append]; omega
    · exact hsf
    · simp (maxSteps := 1000000) (disch := (first | omega | (simp only [nx_alloc, nx_upd, len_cons, len_nil, List.length_set, List.length_map, List.length_append] <;> omega) | fail)) only [go_sem, r0]
    · simp (maxSteps := 1000000) (disch := (first | omega | (simp only [nx_alloc, nx_upd, len_cons, len_nil, List.length_set, List.length_map, List.length_append] <;> omega) | fail)) only [go_sem, r1]
    · simp (maxSteps := 1000000) (disch := (first | omega | (simp only [nx_alloc, nx_upd, len_cons, len_nil, List.length_set, List.length_map, List.length_append] <;> omega) | fail)) only [go_sem, r2]
    · simp (maxSteps := 1000000) (disch := (first | omega | (simp only [nx_alloc, nx_upd, len_cons, len_nil, List.length_set, List.length_map, List.length_append] <;> omega) | fail)) only [go_sem]
theorem sortstable_ok (hv : RowV v b n) (hln : ∀ X, lenU X (some (.slice 80)) v = some (.int .i64 n, X)) (hn63 : n ≤ 1000000) (hc : CmpOk w0 A b wt D) (hD1 : ∀ x, D x → one1 x = true) (cs : List Value) (hlen : cs.length = n) (hD : ∀ x ∈ cs, D x) :
    ACalls Try.prog w0 39 #[v, cmpV] (A.upd b (nodB cs)) (fin (.tuple #[]) (A.upd b (nodB (srtK wt cs)))) := by
  refine call_E (l := [v, cmpV]) Try.enters39 Try.func39 rfl (Nat.le_of_ble_eq_true rfl) fun hw hbd => ?_
  simp (maxSteps := 1000000) (disch := (first | omega | (simp only [nx_alloc, nx_upd, len_cons, len_nil, List.length_set, List.length_map, List.length_append] <;> omega) | fail)) only [go_sem, Try.ntmps39, Try.results39, hln]
  refine call1 (stable_ok hv hn63 hc hD1 cs hlen hD) ?_
  simp (maxSteps := 1000000) (disch := (first | omega | (simp only [nx_alloc, nx_upd, len_cons, len_nil, List.length_set, List.length_map, List.length_append] <;> omega) | fail)) only [go_sem, Try.results39]
  exact gc_here ⟨rfl, rfl⟩
end Go.Fw
