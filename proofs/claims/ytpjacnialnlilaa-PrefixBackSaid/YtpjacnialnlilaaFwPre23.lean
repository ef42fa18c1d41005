import Derived.Test.YtpjacnialnlilaaFwPre22
set_option linter.unusedSimpArgs false
set_option linter.unusedVariables false
set_option maxRecDepth 4000
namespace Go.Fw
open Go.Proofs Go.RowKit
/-! Kraft, the program's and the document's. -/
theorem Try.enters16 : Enters Try.prog 16 := enters_of Try.func16 rfl (by kernel_rfl)
theorem Try.enters17 : Enters Try.prog 17 := enters_of Try.func17 rfl (by kernel_rfl)
theorem ishl_kr {x : Int} (h1 : 1 ≤ x) (h2 : x ≤ 15) : ishl .i64 1 (15 - x) = ((krT x : Nat) : Int) := by
  obtain ⟨n, rfl⟩ := Int.eq_ofNat_of_zero_le (show 0 ≤ x by omega)
  have : ∀ L : Fin 16, 1 ≤ L.1 → ishl .i64 1 (15 - (L.1 : Int)) = ((krT (L.1 : Int) : Nat) : Int) := by decide
  exact this ⟨n, by omega⟩ (by show 1 ≤ n; omega)
set_option maxHeartbeats 2000000 in
theorem kraft_ok (w0 : World) (A : St) (l : List Int) (v : Value) (hv : InView A l v) (hl : l.length ≤ 1000) : ACalls Try.prog w0 16 #[v] A (fin (.int .i64 (kr l : Nat)) A) := by
  refine call_E (l := [v]) Try.enters16 Try.func16 rfl (Nat.le_of_ble_eq_true rfl) fun hw hbd => ?_
  have hlen : ∀ X, lenU X (some (.slice 3)) v = some (.int .i64 l.length, X) := View.lenX hv
  simp (maxSteps := 1000000) (disch := (first | omega | (simp only [nx_alloc, nx_upd, len_cons, len_nil, List.length_set, List.length_map, List.length_append] <;> omega) | fail)) only [go_sem, Try.ntmps16, Try.results16, hlen]
  refine aw_loop (fun k x A' => ∃ (ρ : Nat → Value) (i : Nat), x = E 25 ρ [] ∧ A' = A ∧ k = l.length - i ∧ i ≤ l.length ∧ ρ 3 = .int .i64 (kr (l.take i) : Nat) ∧ ρ 6 = v ∧ ρ 7 = .int .i64 l.length ∧ ρ 8 = .int .i64 i) l.length
    ⟨_, 0, rfl, rfl, rfl, Nat.zero_le _, rfl, rfl, rfl, rfl⟩ ?_
  rintro k x A' ⟨ρ, i, rfl, rfl, hk, hi, g3, g6, g7, g8⟩
  refine aw_of ?_
  have hkl := kr_le (l.take i)
  have htl : (l.take i).length ≤ i := List.length_take_le ..
  by_cases hend : i = l.length
  · have e1 : ¬ ((i : Int) < l.length) := by omega
    rw [hend, List.take_length] at g3
    simp (maxSteps := 1000000) (disch := (first | omega | (simp only [nx_alloc, nx_upd, len_cons, len_nil, List.length_set, List.length_map, List.length_append] <;> omega) | fail)) only [go_sem, g3, g6, g7, g8, e1, Try.results16]
    exact gc_here ⟨rfl, rfl⟩
  have e1 : ((i : Int) < l.length) := by omega
  obtain ⟨n, hx⟩ : ∃ x, l[i]? = some x := ⟨_, List.getElem?_eq_getElem (by omega)⟩
  obtain ⟨pb, po, hb1, hb2, hb3, cells, e', md, hb4, hb5⟩ := View.at1 (P := Try.prog) (e := 3) hv Try.sz3 (i64E_at _ i n hx)
  have hkt := krT_le n
  have hs : kr (l.take (i + 1)) = kr (l.take i) + krT n := by rw [List.take_add_one, hx]; exact kr_snoc _ _
  by_cases h1 : n ≥ 1
  · by_cases h2 : n ≤ 15
    · have hsh := ishl_kr h1 h2
      simp (maxSteps := 1000000) (disch := (first | omega | (simp only [nx_alloc, nx_upd, len_cons, len_nil, List.length_set, List.length_map, List.length_append] <;> omega) | fail)) only [go_sem, g3, g6, g7, g8, e1, hb3, hb4, hb5, h1, h2, hsh]
      refine ⟨k - 1, by omega, _, i + 1, rfl, by omega, by omega, ?_, ?_, ?_, ?_⟩
      · simp (maxSteps := 1000000) (disch := (first | omega | (simp only [nx_alloc, nx_upd, len_cons, len_nil, List.length_set, List.length_map, List.length_append] <;> omega) | fail)) only [go_sem]
        rw [hs]; rfl
      · simp (maxSteps := 1000000) (disch := (first | omega | (simp only [nx_alloc, nx_upd, len_cons, len_nil, List.length_set, List.length_map, List.length_append] <;> omega) | fail)) only [go_sem, g6]
      · simp (maxSteps := 1000000) (disch := (first | omega | (simp only [nx_alloc, nx_upd, len_cons, len_nil, List.length_set, List.length_map, List.length_append] <;> omega) | fail)) only [go_sem, g7]
      · simp (maxSteps := 1000000) (disch := (first | omega | (simp only [nx_alloc, nx_upd, len_cons, len_nil, List.length_set, List.length_map, List.length_append] <;> omega) | fail)) only [go_sem]
        rfl
    · have hz : krT n = 0 := if_neg (by omega)
      simp (maxSteps := 1000000) (disch := (first | omega | (simp only [nx_alloc, nx_upd, len_cons, len_nil, List.length_set, List.length_map, List.length_append] <;> omega) | fail)) only [go_sem, g3, g6, g7, g8, e1, hb3, hb4, hb5, h1, h2]
      refine ⟨k - 1, by omega, _, i + 1, rfl, by omega, by omega, ?_, ?_, ?_, ?_⟩
      · simp (maxSteps := 1000000) (disch := (first | omega | (simp only [nx_alloc, nx_upd, len_cons, len_nil, List.length_set, List.length_map, List.length_append] <;> omega) | fail)) only [go_sem, g3]
        rw [hs, hz]; rfl
      · simp (maxSteps := 1000000) (disch := (first | omega | (simp only [nx_alloc, nx_upd, len_cons, len_nil, List.length_set, List.length_map, List.length_append] <;> omega) | fail)) only [go_sem, g6]
      · simp (maxSteps := 1000000) (disch := (first | omega | (simp only [nx_alloc, nx_upd, len_cons, len_nil, List.length_set, List.length_map, List.length_append] <;> omega) | fail)) only [go_sem, g7]
      · simp (maxSteps := 1000000) (disch := (first | omega | (simp only [nx_alloc, nx_upd, len_cons, len_nil, List.length_set, List.length_map, List.length_append] <;> omega) | fail)) only [go_sem]
        rfl
  · have hz : krT n = 0 := if_neg (by omega)
    simp (maxSteps := 1000000) (disch := (first | omega | (simp only [nx_alloc, nx_upd, len_cons, len_nil, List.length_set, List.length_map, List.length_append] <;> omega) | fail)) only [go_sem, g3, g6, g7, g8, e1, hb3, hb4, hb5, h1]
    refine ⟨k - 1, by omega, _, i + 1, rfl, by omega, by omega, ?_, ?_, ?_, ?_⟩
    · simp (maxSteps := 1000000) (disch := (first | omega | (simp only [nx_alloc, nx_upd, len_cons, len_nil, List.length_set, List.length_map, List.length_append] <;> omega) | fail)) only [go_sem, g3]
      rw [hs, hz]; rfl
    · simp (maxSteps := 1000000) (disch := (first | omega | (simp only [nx_alloc, nx_upd, len_cons, len_nil, List.length_set, List.length_map, List.length_append] <;> omega) | fail)) only [go_sem, g6]
    · simp (maxSteps := 1000000) (disch := (first | omega | (simp only [nx_alloc, nx_upd, len_cons, len_nil, List.length_set, List.length_map, List.length_append] <;> omega) | fail)) only [go_sem, g7]
    · simp (maxSteps := 1000000) (disch := (first | omega | (simp only [nx_alloc, nx_upd, len_cons, len_nil, List.length_set, List.length_map, List.length_append] <;> omega) | fail)) only [go_sem]
      rfl
set_option maxHeartbeats 2000000 in
theorem rkraft_ok (w0 : World) (A : St) (l : List Int) (v : Value) (hv : InView A l v) (hl : l.length ≤ 1000) : ACalls Try.prog w0 17 #[v] A (fin (.int .i64 (kr l : Nat)) A) := by
  refine call_E (l := [v]) Try.enters17 Try.func17 rfl (Nat.le_of_ble_eq_true rfl) fun hw hbd => ?_
  have hlen : ∀ X, lenU X (some (.slice 3)) v = some (.int .i64 l.length, X) := View.lenX hv
  simp (maxSteps := 1000000) (disch := (first | omega | (simp only [nx_alloc, nx_upd, len_cons, len_nil, List.length_set, List.length_map, List.length_append] <;> omega) | fail)) only [go_sem, Try.ntmps17, Try.results17]
  refine aw_loop (fun k x A' => ∃ (ρ : Nat → Value) (i : Nat), x = E 32 ρ [] ∧ A' = A ∧ k = l.length - i ∧ i ≤ l.length ∧ ρ 0 = v ∧ ρ 3 = .int .i64 (kr (l.take i) : Nat) ∧ ρ 4 = .int .i64 i) l.length
    ⟨_, 0, rfl, rfl, rfl, Nat.zero_le _, rfl, rfl, rfl⟩ ?_
  rintro k x A' ⟨ρ, i, rfl, rfl, hk, hi, g0, g3, g4⟩
  refine aw_of ?_
  have hkl := kr_le (l.take i)
  have htl : (l.take i).length ≤ i := List.length_take_le ..
  by_cases hend : i = l.length
  · have e1 : ¬ ((i : Int) < l.length) := by omega
    rw [hend, List.take_length] at g3
    simp (maxSteps := 1000000) (disch := (first | omega | (simp only [nx_alloc, nx_upd, len_cons, len_nil, List.length_set, List.length_map, List.length_append] <;> omega) | fail)) only [go_sem, g0, g3, g4, hlen, e1, Try.results17]
    exact gc_here ⟨rfl, rfl⟩
  have e1 : ((i : Int) < l.length) := by omega
  obtain ⟨n, hx⟩ : ∃ x, l[i]? = some x := ⟨_, List.getElem?_eq_getElem (by omega)⟩
  obtain ⟨pb, po, hb1, hb2, hb3, cells, e', md, hb4, hb5⟩ := View.at1 (P := Try.prog) (e := 3) hv Try.sz3 (i64E_at _ i n hx)
  have hkt := krT_le n
  have hs : kr (l.take (i + 1)) = kr (l.take i) + krT n := by rw [List.take_add_one, hx]; exact kr_snoc _ _
  by_cases h1 : n ≥ 1
  · by_cases h2 : n ≤ 15
    · have hsh := ishl_kr h1 h2
      simp (maxSteps := 1000000) (disch := (first | omega | (simp only [nx_alloc, nx_upd, len_cons, len_nil, List.length_set, List.length_map, List.length_append] <;> omega) | fail)) only [go_sem, g0, g3, g4, hlen, e1, hb3, hb4, hb5, h1, h2, hsh]
      refine ⟨k - 1, by omega, _, i + 1, rfl, by omega, by omega, ?_, ?_, ?_⟩
      · simp (maxSteps := 1000000) (disch := (first | omega | (simp only [nx_alloc, nx_upd, len_cons, len_nil, List.length_set, List.length_map, List.length_append] <;> omega) | fail)) only [go_sem, g0]
      · simp (maxSteps := 1000000) (disch := (first | omega | (simp only [nx_alloc, nx_upd, len_cons, len_nil, List.length_set, List.length_map, List.length_append] <;> omega) | fail)) only [go_sem]
        rw [hs]; rfl
      · simp (maxSteps := 1000000) (disch := (first | omega | (simp only [nx_alloc, nx_upd, len_cons, len_nil, List.length_set, List.length_map, List.length_append] <;> omega) | fail)) only [go_sem]
        rfl
    · have hz : krT n = 0 := if_neg (by omega)
      simp (maxSteps := 1000000) (disch := (first | omega | (simp only [nx_alloc, nx_upd, len_cons, len_nil, List.length_set, List.length_map, List.length_append] <;> omega) | fail)) only [go_sem, g0, g3, g4, hlen, e1, hb3, hb4, hb5, h1, h2]
      refine ⟨k - 1, by omega, _, i + 1, rfl, by omega, by omega, ?_, ?_, ?_⟩
      · simp (maxSteps := 1000000) (disch := (first | omega | (simp only [nx_alloc, nx_upd, len_cons, len_nil, List.length_set, List.length_map, List.length_append] <;> omega) | fail)) only [go_sem, g0]
      · simp (maxSteps := 1000000) (disch := (first | omega | (simp only [nx_alloc, nx_upd, len_cons, len_nil, List.length_set, List.length_map, List.length_append] <;> omega) | fail)) only [go_sem, g3]
        rw [hs, hz]; rfl
      · simp (maxSteps := 1000000) (disch := (first | omega | (simp only [nx_alloc, nx_upd, len_cons, len_nil, List.length_set, List.length_map, List.length_append] <;> omega) | fail)) only [go_sem]
        rfl
  · have hz : krT n = 0 := if_neg (by omega)
    simp (maxSteps := 1000000) (disch := (first | omega | (simp only [nx_alloc, nx_upd, len_cons, len_nil, List.length_set, List.length_map, List.length_append] <;> omega) | fail)) only [go_sem, g0, g3, g4, hlen, e1, hb3, hb4, hb5, h1]
    refine ⟨k - 1, by omega, _, i + 1, rfl, by omega, by omega, ?_, ?_, ?_⟩
    · simp (maxSteps := 1000000) (disch := (first | omega | (simp only [nx_alloc, nx_upd, len_cons, len_nil, List.length_set, List.length_map, List.length_append] <;> omega) | fail)) only [go_sem, g0]
    · simp (maxSteps := 1000000) (disch := (first | omega | (simp only [nx_alloc, nx_upd, len_cons, len_nil, List.length_set, List.length_map, List.length_append] <;> omega) | fail)) only [go_sem, g3]
      rw [hs, hz]; rfl
    · simp (maxSteps := 1000000) (disch := (first | omega | (simp only [nx_alloc, nx_upd, len_cons, len_nil, List.length_set, List.length_map, List.length_append] <;> omega) | fail)) only [go_sem]
      rfl
end Go.Fw
