import Derived.Test.YtpjacnialnlilaaFwPre31
import Derived.Test.YtpjacnialnlilaaFwPre30
set_option linter.unusedSimpArgs false
set_option linter.unusedVariables false
set_option maxRecDepth 4000
namespace Go.Fw
open Go.Proofs Go.RowKit
/-! The words of a code, the document's way. -/
theorem Try.enters32 : Enters Try.prog 32 := enters_of Try.func32 rfl (by kernel_rfl)
theorem Try.enters15 : Enters Try.prog 15 := enters_of Try.func15 rfl (by kernel_rfl)
theorem one_used {l : List Int} (h : ∀ x ∈ l, 0 ≤ x ∧ x ≤ 15) (hk : kr l = 16384) : lng l 0 = 1 ↔ mny l 1 = 1 := by
  have e := kr_ks l
  simp only [ks] at e
  have e1 := lng_step l 0
  have e2 := lng_step l 1
  have e3 := lng_step l 2
  have e4 := lng_step l 3
  have e5 := lng_step l 4
  have e6 := lng_step l 5
  have e7 := lng_step l 6
  have e8 := lng_step l 7
  have e9 := lng_step l 8
  have e10 := lng_step l 9
  have e11 := lng_step l 10
  have e12 := lng_step l 11
  have e13 := lng_step l 12
  have e14 := lng_step l 13
  have e15 := lng_step l 14
  have e16 := lng_15 h
  simp only [Nat.zero_add, Nat.reduceAdd] at e e1 e2 e3 e4 e5 e6 e7 e8 e9 e10 e11 e12 e13 e14 e15 e16
  simp only [Nat.reduceSub, Nat.reducePow] at e
  omega
theorem code_eq2 {l : List Int} (h : ∀ x ∈ l, 0 ≤ x ∧ x ≤ 15) : isCode l = (decide (l.length ≤ 300) && (decide (kr l = 32768) || decide (lng l 0 = 1) && decide (kr l = 16384))) := by
  rw [code_eq h]
  by_cases hk : kr l = 16384
  · rw [decide_eq_decide.2 (one_used h hk)]
  · rw [decide_eq_false hk, Bool.and_false, Bool.and_false]
theorem lng_snoc (l : List Int) (x : Int) (k : Nat) : lng (l ++ [x]) k = lng l k + if (k : Int) < x then 1 else 0 := by
  unfold lng
  rw [List.countP_append, List.countP_singleton]
  congr 1
  by_cases h : (k : Int) < x
  · rw [if_pos h, if_pos (by simpa using h)]
  · rw [if_neg h, if_neg (by simpa using h)]
set_option maxHeartbeats 4000000 in
theorem rright_ok (w0 : World) (A : St) (l : List Int) (v : Value) (hv : InView A l v) (hl : l.length ≤ 1000) : ACalls Try.prog w0 32 #[v] A (fin (.bool (isCode l)) A) := by
  refine call_E (l := [v]) Try.enters32 Try.func32 rfl (Nat.le_of_ble_eq_true rfl) fun hw hbd => ?_
  have hlv : ∀ X, lenU X (some (.slice 3)) v = some (.int .i64 l.length, X) := View.lenX hv
  simp (maxSteps := 1000000) (disch := (first | omega | (simp only [nx_alloc, nx_upd, len_cons, len_nil, List.length_set, List.length_map, List.length_append] <;> omega) | fail)) only [go_sem, Try.ntmps32, Try.results32]
  refine aw_loop (fun k x A' => ∃ (ρ : Nat → Value) (i : Nat), x = E 47 ρ [] ∧ A' = A ∧ k = l.length - i ∧ i ≤ l.length ∧ (∀ x ∈ l.take i, 0 ≤ x ∧ x ≤ 15) ∧ ρ 0 = v ∧ ρ 3 = .int .i64 (lng (l.take i) 0 : Nat) ∧ ρ 4 = .int .i64 i) l.length
    ⟨_, 0, rfl, rfl, rfl, Nat.zero_le _, fun x hx => (by simp at hx), rfl, rfl, rfl⟩ ?_
  rintro k x A' ⟨ρ, i, rfl, rfl, hk, hi, hok, r0, r3, r4⟩
  refine aw_of ?_
  have hlg := lng_le (l.take i) 0
  have htl : (l.take i).length ≤ i := List.length_take_le ..
  by_cases hend : i = l.length
  rotate_left
  · have e1 : (i : Int) < (l.length : Int) := by omega
    obtain ⟨n, hx⟩ : ∃ x, l[i]? = some x := ⟨_, List.getElem?_eq_getElem (by omega)⟩
    obtain ⟨pb, po, hb1, hb2, hb3, cells, e', md, hb4, hb5⟩ := View.at1 (P := Try.prog) (e := 3) hv Try.sz3 (i64E_at _ i n hx)
    have htk : l.take (i + 1) = l.take i ++ [n] := by rw [List.take_add_one, hx]; rfl
    have hmem := List.mem_of_getElem? hx
    have hsn := lng_snoc (l.take i) n 0
    rw [← htk] at hsn
    by_cases b1 : n < 0
    · simp (maxSteps := 1000000) (disch := (first | omega | (simp only [nx_alloc, nx_upd, len_cons, len_nil, List.length_set, List.length_map, List.length_append] <;> omega) | fail)) only [go_sem, r0, r3, r4, hlv, e1, hb3, hb4, hb5, b1, Try.results32]
      exact gc_here ⟨by rw [code_no hmem (.inl b1)], rfl⟩
    by_cases b2 : n > 15
    · simp (maxSteps := 1000000) (disch := (first | omega | (simp only [nx_alloc, nx_upd, len_cons, len_nil, List.length_set, List.length_map, List.length_append] <;> omega) | fail)) only [go_sem, r0, r3, r4, hlv, e1, hb3, hb4, hb5, b1, b2, Try.results32]
      exact gc_here ⟨by rw [code_no hmem (.inr b2)], rfl⟩
    have hok2 : ∀ x ∈ l.take (i + 1), 0 ≤ x ∧ x ≤ 15 := fun x hx => by
      rw [htk] at hx
      rcases List.mem_append.1 hx with hx | hx
      · exact hok x hx
      · rw [List.mem_singleton.1 hx]; omega
    by_cases b3 : n > 0
    · rw [if_pos (by omega)] at hsn
      simp (maxSteps := 1000000) (disch := (first | omega | (simp only [nx_alloc, nx_upd, len_cons, len_nil, List.length_set, List.length_map, List.length_append] <;> omega) | fail)) only [go_sem, r0, r3, r4, hlv, e1, hb3, hb4, hb5, b1, b2, b3]
      refine ⟨k - 1, by omega, _, i + 1, rfl, by omega, by omega, hok2, ?_, ?_, ?_⟩
      · simp (maxSteps := 1000000) (disch := (first | omega | (simp only [nx_alloc, nx_upd, len_cons, len_nil, List.length_set, List.length_map, List.length_append] <;> omega) | fail)) only [go_sem, r0]
      · simp (maxSteps := 1000000) (disch := (first | omega | (simp only [nx_alloc, nx_upd, len_cons, len_nil, List.length_set, List.length_map, List.length_append] <;> omega) | fail)) only [go_sem]
        rw [hsn]; rfl
      · simp (maxSteps := 1000000) (disch := (first | omega | (simp only [nx_alloc, nx_upd, len_cons, len_nil, List.length_set, List.length_map, List.length_append] <;> omega) | fail)) only [go_sem]
        rfl
    · rw [if_neg (by omega)] at hsn
      simp (maxSteps := 1000000) (disch := (first | omega | (simp only [nx_alloc, nx_upd, len_cons, len_nil, List.length_set, List.length_map, List.length_append] <;> omega) | fail)) only [go_sem, r0, r3, r4, hlv, e1, hb3, hb4, hb5, b1, b2, b3]
      refine ⟨k - 1, by omega, _, i + 1, rfl, by omega, by omega, hok2, ?_, ?_, ?_⟩
      · simp (maxSteps := 1000000) (disch := (first | omega | (simp only [nx_alloc, nx_upd, len_cons, len_nil, List.length_set, List.length_map, List.length_append] <;> omega) | fail)) only [go_sem, r0]
      · simp (maxSteps := 1000000) (disch := (first | omega | (simp only [nx_alloc, nx_upd, len_cons, len_nil, List.length_set, List.length_map, List.length_append] <;> omega) | fail)) only [go_sem, r3]
        rw [hsn]; rfl
      · simp (maxSteps := 1000000) (disch := (first | omega | (simp only [nx_alloc, nx_upd, len_cons, len_nil, List.length_set, List.length_map, List.length_append] <;> omega) | fail)) only [go_sem]
        rfl
  have e1 : ¬ ((i : Int) < (l.length : Int)) := by omega
  rw [hend, List.take_length] at hok r3 hlg
  have hce := code_eq2 hok
  have hkr := rkraft_ok w0 A' l v hv hl
  have hkc : ∃ v1, ACallV Try.prog w0 (.func (.func 17) #[] #[]) #[v] A' (fin v1 A') := ⟨_, hkr⟩
  by_cases c1 : l.length ≤ 300
  rotate_left
  · have d1 : ¬ ((l.length : Nat) : Int) ≤ 300 := by omega
    simp (maxSteps := 1000000) (disch := (first | omega | (simp only [nx_alloc, nx_upd, len_cons, len_nil, List.length_set, List.length_map, List.length_append] <;> omega) | fail)) only [go_sem, r0, r3, r4, hlv, e1, d1, Try.results32]
    exact gc_here ⟨by rw [hce, decide_eq_false c1]; rfl, rfl⟩
  have d1 : ((l.length : Nat) : Int) ≤ 300 := by omega
  simp (maxSteps := 1000000) (disch := (first | omega | (simp only [nx_alloc, nx_upd, len_cons, len_nil, List.length_set, List.length_map, List.length_append] <;> omega) | fail)) only [go_sem, r0, r3, r4, hlv, e1, d1]
  refine call1 hkr ?_
  by_cases c2 : kr l = 32768
  · have d2 : ((kr l : Nat) : Int) = 32768 := by omega
    simp (maxSteps := 1000000) (disch := (first | omega | (simp only [nx_alloc, nx_upd, len_cons, len_nil, List.length_set, List.length_map, List.length_append] <;> omega) | fail)) only [go_sem, r0, r3, d2, Try.results32]
    exact gc_here ⟨by rw [hce, decide_eq_true c1, decide_eq_true c2]; rfl, rfl⟩
  have d2 : ¬ ((kr l : Nat) : Int) = 32768 := by omega
  by_cases c3 : lng l 0 = 1
  rotate_left
  · have d3 : ¬ ((lng l 0 : Nat) : Int) = 1 := by omega
    simp (maxSteps := 1000000) (disch := (first | omega | (simp only [nx_alloc, nx_upd, len_cons, len_nil, List.length_set, List.length_map, List.length_append] <;> omega) | fail)) only [go_sem, r0, r3, d2, d3, Try.results32]
    exact gc_here ⟨by rw [hce, decide_eq_true c1, decide_eq_false c2, decide_eq_false c3]; rfl, rfl⟩
  have d3 : ((lng l 0 : Nat) : Int) = 1 := by omega
  simp (maxSteps := 1000000) (disch := (first | omega | (simp only [nx_alloc, nx_upd, len_cons, len_nil, List.length_set, List.length_map, List.length_append] <;> omega) | fail)) only [go_sem, r0, r3, d2, d3]
  refine call1 hkr ?_
  by_cases c4 : kr l = 16384
  · have d4 : ((kr l : Nat) : Int) = 16384 := by omega
    simp (maxSteps := 1000000) (disch := (first | omega | (simp only [nx_alloc, nx_upd, len_cons, len_nil, List.length_set, List.length_map, List.length_append] <;> omega) | fail)) only [go_sem, d4, Try.results32]
    exact gc_here ⟨by rw [hce, decide_eq_true c1, decide_eq_false c2, decide_eq_true c3, decide_eq_true c4]; rfl, rfl⟩
  · have d4 : ¬ ((kr l : Nat) : Int) = 16384 := by omega
    simp (maxSteps := 1000000) (disch := (first | omega | (simp only [nx_alloc, nx_upd, len_cons, len_nil, List.length_set, List.length_map, List.length_append] <;> omega) | fail)) only [go_sem, d4, Try.results32]
    exact gc_here ⟨by rw [hce, decide_eq_true c1, decide_eq_false c2, decide_eq_true c3, decide_eq_false c4]; rfl, rfl⟩
theorem u32_bit {n i : Nat} (hn : n < 4294967296) (hi : i ≤ 32) : ibits .and .u32 (ishr .u32 (n : Int) (i : Int)) 1 = ((n / 2 ^ i % 2 : Nat) : Int) := by
  have hb : (2 : Nat) ^ IntKind.u32.bits = 4294967296 := rfl
  rw [u32_sr n i hi, Nat.shiftRight_eq_div_pow]
  have h1 : n / 2 ^ i < 4294967296 := Nat.lt_of_le_of_lt (Nat.div_le_self _ _) hn
  have := bits_and .u32 rfl (n / 2 ^ i) 1 (by rw [hb]; exact h1) (by rw [hb]; decide)
  rw [show (1 : Int) = ((1 : Nat) : Int) from rfl, this, Nat.and_one_is_mod]
theorem u32_or1 {n b : Nat} (hn : n < 1073741824) (hb : b < 2) : ibits .or .u32 (ishl .u32 (n : Int) 1) (b : Int) = ((2 * n + b : Nat) : Int) := by
  have hbb : (2 : Nat) ^ IntKind.u32.bits = 4294967296 := rfl
  have e := u32_sl (a := n) (s := 1) (by decide) (by omega)
  rw [show (1 : Int) = ((1 : Nat) : Int) from rfl, e, bits_or .u32 rfl _ _ (by rw [hbb, Nat.shiftLeft_eq]; omega) (by rw [hbb]; omega)]
  congr 1
  rw [← Nat.shiftLeft_add_eq_or_of_lt (by simpa using hb), Nat.shiftLeft_eq]; omega
set_option maxHeartbeats 4000000 in
theorem turned_ok (w0 : World) (A : St) (n k : Nat) (hn : n < 4294967296) (hk : k ≤ 24) : ACalls Try.prog w0 33 #[.int .u32 n, .int .i64 k] A (fin (.int .u32 (rv k n : Nat)) A) := by
  refine call_E (l := [.int .u32 n, .int .i64 k]) Try.enters33 Try.func33 rfl (Nat.le_of_ble_eq_true rfl) fun hw hbd => ?_
  simp (maxSteps := 1000000) (disch := (first | omega | (simp only [nx_alloc, nx_upd, len_cons, len_nil, List.length_set, List.length_map, List.length_append] <;> omega) | fail)) only [go_sem, Try.ntmps33, Try.results33]
  refine aw_loop (fun j x A' => ∃ (ρ : Nat → Value) (i : Nat), x = E 20 ρ [] ∧ A' = A ∧ j = k - i ∧ i ≤ k ∧ ρ 0 = .int .u32 n ∧ ρ 1 = .int .i64 k ∧ ρ 5 = .int .u32 (rv i n : Nat) ∧ ρ 6 = .int .i64 i) k
    ⟨_, 0, rfl, rfl, rfl, Nat.zero_le _, rfl, rfl, rfl, rfl⟩ ?_
  rintro j x A' ⟨ρ, i, rfl, rfl, hj, hi, r0, r1, r5, r6⟩
  refine aw_of ?_
  by_cases hend : i = k
  · have e1 : ¬ ((i : Int) < (k : Int)) := by omega
    rw [hend] at r5
    simp (maxSteps := 1000000) (disch := (first | omega | (simp only [nx_alloc, nx_upd, len_cons, len_nil, List.length_set, List.length_map, List.length_append] <;> omega) | fail)) only [go_sem, r0, r1, r5, r6, e1, Try.results33]
    exact gc_here ⟨rfl, rfl⟩
  have e1 : ((i : Int) < (k : Int)) := by omega
  have hlt := rv_lt i n
  have h23 : 2 ^ i ≤ 2 ^ 24 := Nat.pow_le_pow_right (by decide) (by omega)
  have h24 : (2 : Nat) ^ 24 = 16777216 := rfl
  have hb := u32_bit (n := n) (i := i) hn (by omega)
  have hm2 : n / 2 ^ i % 2 < 2 := Nat.mod_lt _ (by decide)
  have ho := u32_or1 (n := rv i n) (b := n / 2 ^ i % 2) (by omega) hm2
  simp (maxSteps := 1000000) (disch := (first | omega | (simp only [nx_alloc, nx_upd, len_cons, len_nil, List.length_set, List.length_map, List.length_append] <;> omega) | fail)) only [go_sem, r0, r1, r5, r6, e1, hb, ho]
  refine ⟨j - 1, by omega, _, i + 1, rfl, by omega, by omega, ?_, ?_, ?_, ?_⟩
  · simp (maxSteps := 1000000) (disch := (first | omega | (simp only [nx_alloc, nx_upd, len_cons, len_nil, List.length_set, List.length_map, List.length_append] <;> omega) | fail)) only [go_sem, r0]
  · simp (maxSteps := 1000000) (disch := (first | omega | (simp only [nx_alloc, nx_upd, len_cons, len_nil, List.length_set, List.length_map, List.length_append] <;> omega) | fail)) only [go_sem, r1]
  · simp (maxSteps := 1000000) (disch := (first | omega | (simp only [nx_alloc, nx_upd, len_cons, len_nil, List.length_set, List.length_map, List.length_append] <;> omega) | fail)) only [go_sem]
    rfl
  · simp (maxSteps := 1000000) (disch := (first | omega | (simp only [nx_alloc, nx_upd, len_cons, len_nil, List.length_set, List.length_map, List.length_append] <;> omega) | fail)) only [go_sem]
    rfl
end Go.Fw
