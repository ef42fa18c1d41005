import Derived.Test.YtfmbflmknjlefaaFwWire1
import Derived.Test.YtfmbflmknjlefaaFwHeader12
set_option linter.unusedSimpArgs false
set_option linter.unusedVariables false
set_option maxRecDepth 4000
namespace Go.Fw
open Go.Proofs Go.RowKit
theorem Try.enters37 : Enters Try.prog 37 := enters_of Try.func37 rfl (by kernel_rfl)
theorem Try.enters35 : Enters Try.prog 35 := enters_of Try.func35 rfl (by kernel_rfl)
theorem Try.enters26 : Enters Try.prog 26 := enters_of Try.func26 rfl (by kernel_rfl)
theorem Try.enters10 : Enters Try.prog 10 := enters_of Try.func10 rfl (by kernel_rfl)
def cliB (c : Int) : Bool := decide (0 ≤ c ∧ c < 3)
def endB (n : Int) : Bool := decide (0 ≤ n ∧ n < 3) || cliB (n - 10)
/-- May a request be? -/
def rightB (r : ReqT) : Bool := cliB r.client && decide (1 ≤ r.op.kind) && decide (r.op.kind ≤ 5) && mayB r.op.v && (if r.op.kind = 1 then decide (r.op.id = 0) else eqV r.op.v verN)
theorem cli_f {c : Int} (h : ¬ 0 ≤ c) : cliB c = false := by unfold cliB; rw [decide_eq_false (fun x => h x.1)]
theorem client_ok (w0 : World) (A : St) (c : Int) : ACalls Try.prog w0 37 #[.int .i64 c] A (fin (.bool (cliB c)) A) := by
  refine call_E Try.enters37 Try.func37 rfl (Nat.le_of_ble_eq_true rfl) fun hw hbd => ?_
  by_cases h0 : 0 ≤ c
  · have h0' : c ≥ 0 := h0
    simp (maxSteps := 1000000) (disch := (first | omega | (simp only [nx_alloc, nx_upd, len_cons, len_nil, List.length_set, List.length_map, List.length_append] <;> omega) | fail)) only [go_sem, Try.ntmps37, Try.results37]
    exact gc_fin' hw (Over.refl _) (congrArg Value.bool (by unfold cliB; simp [h0])) (.bool _)
  · have h0' : ¬ c ≥ 0 := h0
    simp (maxSteps := 1000000) (disch := (first | omega | (simp only [nx_alloc, nx_upd, len_cons, len_nil, List.length_set, List.length_map, List.length_append] <;> omega) | fail)) only [go_sem, Try.ntmps37, Try.results37]
    exact gc_fin' hw (Over.refl _) (by rw [cli_f h0]) (.bool _)
theorem cli_wrap (n : Int) (h1 : -9223372036854775808 ≤ n) (h2 : n ≤ 9223372036854775807) : cliB (IntKind.wrap .i64 (n - 10)) = cliB (n - 10) := by
  by_cases h : n < -9223372036854775798
  · have e : IntKind.wrap .i64 (n - 10) = n - 10 + 18446744073709551616 := by
      simp only [IntKind.wrap, IntKind.signed, IntKind.bits, Bool.true_and, decide_eq_true_eq]
      simp only [Nat.reduceSub, Nat.reducePow, Int.reducePow]
      split
      · rename_i hh; have hh' := of_decide_eq_true hh; omega
      · omega
    rw [e]
    unfold cliB
    rw [decide_eq_false (by omega), decide_eq_false (by omega)]
  · rw [IntWalk.i64_in (n - 10) (by constructor <;> omega)]
theorem end_ok (w0 : World) (A : St) (n : Int) (hn : i64Ok n) : ACalls Try.prog w0 35 #[.int .i64 n] A (fin (.bool (endB n)) A) := by
  refine call_E Try.enters35 Try.func35 rfl (Nat.le_of_ble_eq_true rfl) fun hw hbd => ?_
  unfold i64Ok at hn
  have hcw := cli_wrap n hn.1 hn.2
  by_cases h0 : 0 ≤ n
  · have h0' : n ≥ 0 := h0
    by_cases h3 : n < 3
    · simp (maxSteps := 1000000) (disch := (first | omega | (simp only [nx_alloc, nx_upd, len_cons, len_nil, List.length_set, List.length_map, List.length_append] <;> omega) | fail)) only [go_sem, Try.ntmps35, Try.results35]
      exact gc_fin' hw (Over.refl _) (congrArg Value.bool (by unfold endB; simp [h0, h3])) (.bool _)
    · simp (maxSteps := 1000000) (disch := (first | omega | (simp only [nx_alloc, nx_upd, len_cons, len_nil, List.length_set, List.length_map, List.length_append] <;> omega) | fail)) only [go_sem, Try.ntmps35, Try.results35]
      refine call1 (client_ok w0 A (n - 10)) ?_
      simp (maxSteps := 1000000) (disch := (first | omega | (simp only [nx_alloc, nx_upd, len_cons, len_nil, List.length_set, List.length_map, List.length_append] <;> omega) | fail)) only [go_sem, Try.results35]
      exact gc_fin' hw (Over.refl _) (congrArg Value.bool (by unfold endB; simp [h0, h3])) (.bool _)
  · have h0' : ¬ n ≥ 0 := h0
    have hend : endB n = cliB (n - 10) := by unfold endB; simp [h0]
    rw [hend, ← hcw]
    by_cases hl : n < -9223372036854775798
    · simp (maxSteps := 1000000) (disch := (first | omega | (simp only [nx_alloc, nx_upd, len_cons, len_nil, List.length_set, List.length_map, List.length_append] <;> omega) | fail)) only [go_sem, Try.ntmps35, Try.results35]
      refine call1 (client_ok w0 A _) ?_
      simp (maxSteps := 1000000) (disch := (first | omega | (simp only [nx_alloc, nx_upd, len_cons, len_nil, List.length_set, List.length_map, List.length_append] <;> omega) | fail)) only [go_sem, Try.results35]
      exact gc_fin' hw (Over.refl _) rfl (.bool _)
    · rw [IntWalk.i64_in (n - 10) (by constructor <;> omega)]
      simp (maxSteps := 1000000) (disch := (first | omega | (simp only [nx_alloc, nx_upd, len_cons, len_nil, List.length_set, List.length_map, List.length_append] <;> omega) | fail)) only [go_sem, Try.ntmps35, Try.results35]
      refine call1 (client_ok w0 A _) ?_
      simp (maxSteps := 1000000) (disch := (first | omega | (simp only [nx_alloc, nx_upd, len_cons, len_nil, List.length_set, List.length_map, List.length_append] <;> omega) | fail)) only [go_sem, Try.results35]
      exact gc_fin' hw (Over.refl _) rfl (.bool _)
set_option maxHeartbeats 4000000 in
theorem right_ok (w0 : World) (A : St) (r : ReqT) (rc : List Value) (hr : ReqC A r rc) (hs : r.op.v.small) : ACalls Try.prog w0 26 #[.agg rc.toArray] A (fin (.bool (rightB r)) A) := by
  have hrl := hr.len
  have hcell := hr.cell
  obtain ⟨oc, rfl, vs, rfl, hvs⟩ := hr
  have hvl := hvs.len
  have hvtk : vs.take 4 = vs := List.take_of_length_le (by omega)
  refine call_E Try.enters26 Try.func26 rfl (Nat.le_of_ble_eq_true rfl) fun hw hbd => ?_
  obtain ⟨A1, hA1⟩ : ∃ A1, A1 = A.alloc (.cells (.int .i64 r.client :: .int .u32 r.seq :: .int .i64 r.op.kind :: .int .u32 r.op.id :: vs) 31 (some 0)) := ⟨_, rfl⟩
  have o1 : Over A A1 := hA1 ▸ (Over.refl A).alloc _
  have g1 : A1.get A.next = some (.cells (.int .i64 r.client :: .int .u32 r.seq :: .int .i64 r.op.kind :: .int .u32 r.op.id :: vs) 31 (some 0)) := by rw [hA1]; exact get_alloc_same ..
  have ld4 := ld_agg (sz := 4) (off := 4) (e' := 31) (m := some 0) (cells := .int .i64 r.client :: .int .u32 r.seq :: .int .i64 r.op.kind :: .int .u32 r.op.id :: vs) (cs := vs) (by simp; omega) (by rw [List.drop_succ_cons, List.drop_succ_cons, List.drop_succ_cons, List.drop_succ_cons, List.drop_zero, hvtk])
  have hv1 := (hvs.ge o1.ge).ver
  simp (maxSteps := 1000000) (disch := (first | omega | (simp only [nx_alloc, nx_upd, len_cons, len_nil, List.length_set, List.length_map, List.length_append] <;> omega) | fail)) only [go_sem, Try.ntmps26, Try.results26]
  rw [← hA1]
  refine call1 (client_ok w0 A1 r.client) ?_
  cases hc : cliB r.client
  · simp (maxSteps := 1000000) (disch := (first | omega | (simp only [nx_alloc, nx_upd, len_cons, len_nil, List.length_set, List.length_map, List.length_append] <;> omega) | fail)) only [go_sem, Try.results26]
    exact gc_fin' hw o1 (by unfold rightB; rw [hc]; rfl) (.bool _)
  by_cases h1 : 1 ≤ r.op.kind
  rotate_left
  · have h1' : ¬ (r.op.kind ≥ 1) := h1
    simp (maxSteps := 1000000) (disch := (first | omega | (simp only [nx_alloc, nx_upd, len_cons, len_nil, List.length_set, List.length_map, List.length_append] <;> omega) | fail)) only [go_sem, g1, h1', Try.results26]
    exact gc_fin' hw o1 (by unfold rightB; rw [decide_eq_false h1]; simp) (.bool _)
  have h1' : r.op.kind ≥ 1 := h1
  by_cases h5 : r.op.kind ≤ 5
  rotate_left
  · simp (maxSteps := 1000000) (disch := (first | omega | (simp only [nx_alloc, nx_upd, len_cons, len_nil, List.length_set, List.length_map, List.length_append] <;> omega) | fail)) only [go_sem, g1, h1', h5, Try.results26]
    exact gc_fin' hw o1 (by unfold rightB; rw [decide_eq_false h5]; simp) (.bool _)
  simp (maxSteps := 1000000) (disch := (first | omega | (simp only [nx_alloc, nx_upd, len_cons, len_nil, List.length_set, List.length_map, List.length_append] <;> omega) | fail)) only [go_sem, g1, h1', h5, ld4, hvtk]
  refine call1 (may_ok w0 A1 r.op.v _ hv1 hs) ?_
  cases hm : mayB r.op.v
  · simp (maxSteps := 1000000) (disch := (first | omega | (simp only [nx_alloc, nx_upd, len_cons, len_nil, List.length_set, List.length_map, List.length_append] <;> omega) | fail)) only [go_sem, Try.results26]
    exact gc_fin' hw o1 (by unfold rightB; rw [hm]; simp) (.bool _)
  have hb : rightB r = if r.op.kind = 1 then decide (r.op.id = 0) else eqV r.op.v verN := by unfold rightB; rw [hc, hm, decide_eq_true h1, decide_eq_true h5]; rfl
  rw [hb]
  by_cases hk : r.op.kind = 1
  · rw [if_pos hk]
    by_cases hid : r.op.id = 0
    · simp (maxSteps := 1000000) (disch := (first | omega | (simp only [nx_alloc, nx_upd, len_cons, len_nil, List.length_set, List.length_map, List.length_append] <;> omega) | fail)) only [go_sem, g1, hk, hid, Try.results26]
      exact gc_fin' hw o1 rfl (.bool _)
    · simp (maxSteps := 1000000) (disch := (first | omega | (simp only [nx_alloc, nx_upd, len_cons, len_nil, List.length_set, List.length_map, List.length_append] <;> omega) | fail)) only [go_sem, g1, hk, hid, Try.results26]
      exact gc_fin' hw o1 rfl (.bool _)
  · rw [if_neg hk]
    simp (maxSteps := 1000000) (disch := (first | omega | (simp only [nx_alloc, nx_upd, len_cons, len_nil, List.length_set, List.length_map, List.length_append] <;> omega) | fail)) only [go_sem, g1, hk, ld4, hvtk]
    refine call1 (vsame_ok w0 A1 r.op.v verN _ _ hv1 (verN_c A1).ver hs verN_small) ?_
    simp (maxSteps := 1000000) (disch := (first | omega | (simp only [nx_alloc, nx_upd, len_cons, len_nil, List.length_set, List.length_map, List.length_append] <;> omega) | fail)) only [go_sem, Try.results26]
    exact gc_fin' hw o1 rfl (.bool _)
theorem may_facts' {V : VerT} (h : mayB V = true) : V.names.length ≤ 12 ∧ V.names.length = V.sizes.length ∧ V.blocks.length ≤ 15 ∧ ∀ j, j < V.names.length → okAt V.names V.sizes j := by
  obtain ⟨h1, h2, h3, h4⟩ := (may_iff V).1 h
  refine ⟨h1, h2, ?_, h4⟩
  have := sumSz_le V.sizes
  unfold blocksN at h3
  omega
theorem namL_bound : ∀ (N : List ByteArray) (S : List Int), (∀ (j : Nat) (s : ByteArray) (k : Int), N[j]? = some s → S[j]? = some k → s.size ≤ 20 ∧ k ≤ 300) → (namL (N.zip S)).length ≤ 30 * N.length
  | [], S, h => by simp [namL]
  | x :: N, [], h => by simp [namL]
  | x :: N, k :: S, h => by
    obtain ⟨h1, h2⟩ := h 0 x k rfl rfl
    have ih := namL_bound N S (fun j s k hs hk => h (j + 1) s k (by simpa using hs) (by simpa using hk))
    have e1 := enc_len 0 x.size (by omega)
    have e2 := enc_len 1 k.toNat (by omega)
    rw [List.zip_cons_cons, namL_cons]
    have hn : (nums x).length = x.size := nums_length x
    simp only [List.length_append, List.length_cons, hn]
    omega
theorem encV_bound {V : VerT} (h : mayB V = true) : (encV V).length ≤ 1000 := by
  obtain ⟨h1, h2, h3, h4⟩ := may_facts' h
  have hb := namL_bound V.names V.sizes (fun j s k hs hk => by
    have hj := (List.getElem?_eq_some_iff.1 hs).1
    obtain ⟨_, q2, _, q4, _⟩ := h4 j hj
    unfold nmN at q2
    unfold szN at q4
    simp [hs] at q2
    simp [hk] at q4
    exact ⟨q2, q4⟩)
  have e1 := enc_len 0 V.blocks.length (by omega)
  have e2 := enc_len 0 V.names.length (by omega)
  unfold encV
  simp only [List.length_append, bigL_length, blkL_len]
  omega
/-- A request's bytes. -/
def putL (r : ReqT) : List Int := r.client :: (bigL r.seq.toNat 4 ++ (r.op.kind :: (bigL r.op.id.toNat 4 ++ (if r.op.kind = 1 then encV r.op.v else []))))
def putR (r : ReqT) : ByteArray := if rightB r then strOfNums (putL r) else ByteArray.empty
set_option maxHeartbeats 8000000 in
theorem put_req_ok (w0 : World) (A : St) (r : ReqT) (rc : List Value) (hr : ReqC A r rc) (hs : r.op.v.small) (hk : r.okA) : ACalls Try.prog w0 10 #[.agg rc.toArray] A (fin (.string (putR r)) A) := by
  have hrl := hr.len
  have hcell := hr.cell
  have hr0 := hr
  obtain ⟨oc, rfl, vs, rfl, hvs⟩ := hr
  have hvl := hvs.len
  have hvtk : vs.take 4 = vs := List.take_of_length_le (by omega)
  refine call_E Try.enters10 Try.func10 rfl (Nat.le_of_ble_eq_true rfl) fun hw hbd => ?_
  obtain ⟨A1, hA1⟩ : ∃ A1, A1 = A.alloc (.cells (.int .i64 r.client :: .int .u32 r.seq :: .int .i64 r.op.kind :: .int .u32 r.op.id :: vs) 31 (some 0)) := ⟨_, rfl⟩
  have o1 : Over A A1 := hA1 ▸ (Over.refl A).alloc _
  have g1 : A1.get A.next = some (.cells (.int .i64 r.client :: .int .u32 r.seq :: .int .i64 r.op.kind :: .int .u32 r.op.id :: vs) 31 (some 0)) := by rw [hA1]; exact get_alloc_same ..
  have n1 : A1.next = A.next + 1 := by rw [hA1]; rfl
  have hld8 := ldN (e := 31) (m := some 0) hrl
  have ld4 := ld_agg (sz := 4) (off := 4) (e' := 31) (m := some 0) (cells := .int .i64 r.client :: .int .u32 r.seq :: .int .i64 r.op.kind :: .int .u32 r.op.id :: vs) (cs := vs) (by simp; omega) (by rw [List.drop_succ_cons, List.drop_succ_cons, List.drop_succ_cons, List.drop_succ_cons, List.drop_zero, hvtk])
  obtain ⟨k1, k2, k3, k4, k5⟩ := hk
  simp (maxSteps := 1000000) (disch := (first | omega | (simp only [nx_alloc, nx_upd, len_cons, len_nil, List.length_set, List.length_map, List.length_append] <;> omega) | fail)) only [go_sem, Try.ntmps10, Try.results10]
  rw [← hA1]
  simp (maxSteps := 1000000) (disch := (first | omega | (simp only [nx_alloc, nx_upd, len_cons, len_nil, List.length_set, List.length_map, List.length_append] <;> omega) | fail)) only [go_sem, g1, hld8, hvtk]
  refine call1 (right_ok w0 A1 r _ (hr0.ge o1.ge) hs) ?_
  cases hb : rightB r
  · simp (maxSteps := 1000000) (disch := (first | omega | (simp only [nx_alloc, nx_upd, len_cons, len_nil, List.length_set, List.length_map, List.length_append] <;> omega) | fail)) only [go_sem, Try.results10]
    exact gc_fin' hw o1 (by unfold putR; rw [hb]; rfl) (.string _)
  obtain ⟨hcl, hk1, hk5, hm⟩ : cliB r.client = true ∧ 1 ≤ r.op.kind ∧ r.op.kind ≤ 5 ∧ mayB r.op.v = true := by
    unfold rightB at hb
    simp only [Bool.and_eq_true, decide_eq_true_eq] at hb
    exact ⟨hb.1.1.1.1, hb.1.1.1.2, hb.1.1.2, hb.1.2⟩
  have hc3 : 0 ≤ r.client ∧ r.client < 3 := by unfold cliB at hcl; simpa using hcl
  obtain ⟨c, hc⟩ := Int.eq_ofNat_of_zero_le hc3.1
  obtain ⟨q, hq⟩ := Int.eq_ofNat_of_zero_le k1
  obtain ⟨i, hi⟩ := Int.eq_ofNat_of_zero_le k3
  have hwc : IntKind.wrap .u8 r.client = r.client := IntWalk.u8_in _ (by constructor <;> omega)
  have hwk : IntKind.wrap .u8 r.op.kind = r.op.kind := IntWalk.u8_in _ (by constructor <;> omega)
  have htx : ∀ (X : St) (x : Int), textC X (some (.cells [.int .u8 x] 5 (some 0))) 0 1 = some (.string (strOfNums [x]), X) := fun X x => textC_some (l := [x]) (by simp) rfl
  have hbig := fun (X : St) (n : Nat) (hn : n < 18446744073709551616) => big_ok w0 X n 4 hn
  have hbs : ∀ n : Nat, bigS n 4 = bigL n 4 := fun n => rfl
  have hq64 : q < 18446744073709551616 := by omega
  have hi64 : i < 18446744073709551616 := by omega
  have z1 : (strOfNums [r.client]).size = 1 := str_size _
  have z2 : (strOfNums [r.op.kind]).size = 1 := str_size _
  have z3 : ∀ n, (strOfNums (bigL n 4)).size = 4 := fun n => by rw [str_size, bigL_length]
  have z3q := z3 q
  have z3i := z3 i
  have zA : (strOfNums [r.client] ++ strOfNums (bigL q 4)).size = 5 := by rw [ByteArray.size_append]; omega
  have zB : (strOfNums [r.client] ++ strOfNums (bigL q 4) ++ strOfNums [r.op.kind]).size = 6 := by rw [ByteArray.size_append]; omega
  simp (maxSteps := 1000000) (disch := (first | omega | (simp only [nx_alloc, nx_upd, len_cons, len_nil, List.length_set, List.length_map, List.length_append] <;> omega) | fail)) only [go_sem]
  refine AW.mono (Q := fun e a A9 => e = .normal ∧ ∃ ρ', a = E 47 ρ' [] ∧ ρ' 1 = .pointer (some ⟨A.next, 0, none⟩) ∧ ρ' 3 = .string (strOfNums [r.client] ++ strOfNums (bigL q 4) ++ strOfNums [r.op.kind] ++ strOfNums (bigL i 4)) ∧ Over A1 A9) ?_ ?_
  · refine aw_drawS (by kernel_rfl) ?_
    refine Ords.split 3 14 rfl ?_ ?_
    · refine Ords.run [⟨false, [], [0]⟩, ⟨false, [0], [0]⟩, ⟨false, [1, 0], [0]⟩, ⟨true, [2, 1, 0], [0]⟩, ⟨false, [3, 2, 1, 0], [1, 2]⟩, ⟨false, [], [0, 1, 2]⟩, ⟨false, [5], [0, 1, 2]⟩, ⟨false, [6, 5], [0, 1, 2]⟩, ⟨false, [7, 6, 5], [0, 1, 2]⟩, ⟨false, [4, 8, 3, 7, 2, 6, 1, 5, 0], [1, 2]⟩, ⟨false, [], [0, 1]⟩, ⟨false, [10], [0, 1]⟩, ⟨false, [11, 10], [0, 1]⟩, ⟨false, [12, 11, 10], [0, 1]⟩, ⟨true, [13, 3, 12, 2, 11, 1, 10, 0], [1]⟩, ⟨false, [14, 13, 3, 12, 2, 11, 1, 10, 0], [2]⟩, ⟨false, [9, 15, 4, 8, 14, 3, 7, 13, 2, 6, 12, 1, 5, 11, 0, 10], [2]⟩, ⟨false, [], [0, 1, 2]⟩, ⟨false, [17], [0, 1, 2]⟩, ⟨false, [18, 17], [0, 1, 2]⟩, ⟨false, [19, 18, 17], [0, 1, 2]⟩, ⟨false, [20, 8, 19, 7, 18, 6, 17, 5], [0, 1, 2]⟩, ⟨false, [16, 21, 9, 15, 20, 8, 4, 14, 19, 7, 3, 13, 18, 6, 2, 12, 17, 5, 1, 11, 0, 10], [2]⟩, ⟨false, [22, 21, 0, 1, 2, 3, 4, 5, 6, 7, 8, 9, 10, 11, 12, 13, 14, 15, 16, 17, 18, 19, 20], [2]⟩] [A1, A1.alloc (.cells [.int .u8 r.client] 5 (some 0)), (A1.alloc (.cells [.int .u8 r.client] 5 (some 0))).alloc (.cells [.int .u8 r.op.kind] 5 (some 0))] 2 (by kernel_rfl) (by kernel_rfl) rfl ?_
      simp (maxSteps := 1000000) (disch := (first | omega | (simp only [nx_alloc, nx_upd, len_cons, len_nil, List.length_set, List.length_map, List.length_append] <;> omega) | fail)) only [go_sem, g1, hwc, hwk, htx, hq, hi]
      refine ⟨_, hbig A1 q hq64, ⟨⟨_, hbig _ q hq64, rfl⟩, ⟨_, hbig _ q hq64, rfl⟩⟩, ?_⟩
      rw [hbs]
      simp (maxSteps := 1000000) (disch := (first | omega | (simp only [nx_alloc, nx_upd, len_cons, len_nil, List.length_set, List.length_map, List.length_append] <;> omega) | fail)) only [go_sem, g1, hwk, htx, hi]
      refine ⟨_, hbig _ i hi64, ⟨⟨_, hbig _ i hi64, rfl⟩, ⟨_, hbig _ i hi64, rfl⟩⟩, ?_⟩
      rw [hbs]
      simp (maxSteps := 1000000) (disch := (first | omega | (simp only [nx_alloc, nx_upd, len_cons, len_nil, List.length_set, List.length_map, List.length_append] <;> omega) | fail)) only [go_sem]
      refine ⟨_, rfl, ?_, ?_, ((Over.refl A1).alloc _).alloc _⟩
      · simp (maxSteps := 1000000) (disch := (first | omega | (simp only [nx_alloc, nx_upd, len_cons, len_nil, List.length_set, List.length_map, List.length_append] <;> omega) | fail)) only [go_sem]
      · simp (maxSteps := 1000000) (disch := (first | omega | (simp only [nx_alloc, nx_upd, len_cons, len_nil, List.length_set, List.length_map, List.length_append] <;> omega) | fail)) only [go_sem]
    · refine Ords.run [⟨false, [], [0, 1]⟩, ⟨false, [0], [0, 1]⟩, ⟨false, [1, 0], [0, 1]⟩, ⟨true, [2, 14, 1, 13, 0, 12, 11, 10], [1]⟩, ⟨false, [3, 2, 14, 1, 13, 0, 12, 11, 10], [2]⟩, ⟨false, [], [0, 1, 2]⟩, ⟨false, [5], [0, 1, 2]⟩, ⟨false, [6, 5], [0, 1, 2]⟩, ⟨false, [7, 6, 5], [0, 1, 2]⟩, ⟨false, [4, 8, 3, 7, 2, 14, 6, 1, 13, 5, 0, 12, 11, 10], [2]⟩, ⟨false, [], [0]⟩, ⟨false, [10], [0]⟩, ⟨false, [11, 10], [0]⟩, ⟨false, [12, 11, 10], [0]⟩, ⟨true, [13, 12, 11, 10], [0]⟩, ⟨false, [14, 13, 12, 11, 10], [1, 2]⟩, ⟨false, [9, 15, 4, 8, 14, 3, 7, 13, 2, 6, 12, 1, 5, 11, 0, 10], [2]⟩, ⟨false, [], [0, 1, 2]⟩, ⟨false, [17], [0, 1, 2]⟩, ⟨false, [18, 17], [0, 1, 2]⟩, ⟨false, [19, 18, 17], [0, 1, 2]⟩, ⟨false, [20, 8, 19, 7, 18, 6, 17, 5], [0, 1, 2]⟩, ⟨false, [16, 21, 9, 15, 20, 8, 4, 14, 19, 7, 3, 13, 18, 6, 2, 12, 17, 5, 1, 11, 0, 10], [2]⟩, ⟨false, [22, 21, 0, 1, 2, 3, 4, 5, 6, 7, 8, 9, 10, 11, 12, 13, 14, 15, 16, 17, 18, 19, 20], [2]⟩] [A1, A1.alloc (.cells [.int .u8 r.op.kind] 5 (some 0)), (A1.alloc (.cells [.int .u8 r.op.kind] 5 (some 0))).alloc (.cells [.int .u8 r.client] 5 (some 0))] 2 (by kernel_rfl) (by kernel_rfl) rfl ?_
      simp (maxSteps := 1000000) (disch := (first | omega | (simp only [nx_alloc, nx_upd, len_cons, len_nil, List.length_set, List.length_map, List.length_append] <;> omega) | fail)) only [go_sem, g1, hwc, hwk, htx, hq, hi]
      refine ⟨_, hbig A1 q hq64, ⟨⟨_, hbig _ q hq64, rfl⟩, ⟨_, hbig _ q hq64, rfl⟩⟩, ?_⟩
      rw [hbs]
      simp (maxSteps := 1000000) (disch := (first | omega | (simp only [nx_alloc, nx_upd, len_cons, len_nil, List.length_set, List.length_map, List.length_append] <;> omega) | fail)) only [go_sem, g1, hwk, htx, hi]
      refine ⟨_, hbig _ i hi64, ⟨⟨_, hbig _ i hi64, rfl⟩, ⟨_, hbig _ i hi64, rfl⟩⟩, ?_⟩
      rw [hbs]
      simp (maxSteps := 1000000) (disch := (first | omega | (simp only [nx_alloc, nx_upd, len_cons, len_nil, List.length_set, List.length_map, List.length_append] <;> omega) | fail)) only [go_sem]
      refine ⟨_, rfl, ?_, ?_, ((Over.refl A1).alloc _).alloc _⟩
      · simp (maxSteps := 1000000) (disch := (first | omega | (simp only [nx_alloc, nx_upd, len_cons, len_nil, List.length_set, List.length_map, List.length_append] <;> omega) | fail)) only [go_sem]
      · simp (maxSteps := 1000000) (disch := (first | omega | (simp only [nx_alloc, nx_upd, len_cons, len_nil, List.length_set, List.length_map, List.length_append] <;> omega) | fail)) only [go_sem]
  · rintro e a A9 ⟨rfl, ρ', rfl, r1, r3, o9⟩
    have g9 : A9.get A.next = _ := (o9.get _ (by omega)).trans g1
    have happ : ∀ a b : List Int, strOfNums a ++ strOfNums b = strOfNums (a ++ b) := str_append
    by_cases hk : r.op.kind = 1
    · have henc := encode_ok w0 A9 r.op.v _ ((hvs.ge (o1.trans o9).ge).ver) hs k5
      have he : encR r.op.v = (strOfNums (encV r.op.v), 0) := by unfold encR; rw [hm]; rfl
      rw [he] at henc
      simp (maxSteps := 1000000) (disch := (first | omega | (simp only [nx_alloc, nx_upd, len_cons, len_nil, List.length_set, List.length_map, List.length_append] <;> omega) | fail)) only [go_sem, r1, r3, g9, hk, ld4, hvtk]
      refine call1 henc ?_
      have hvb := encV_bound hm
      have zV : (strOfNums (encV r.op.v)).size = (encV r.op.v).length := str_size _
      have zC : (strOfNums [r.client] ++ strOfNums (bigL q 4) ++ strOfNums [r.op.kind] ++ strOfNums (bigL i 4)).size = 10 := by rw [ByteArray.size_append]; omega
      unfold strIntV
      rw [hk] at zC r3
      simp (maxSteps := 1000000) (disch := (first | omega | (simp only [nx_alloc, nx_upd, len_cons, len_nil, List.length_set, List.length_map, List.length_append] <;> omega) | fail)) only [go_sem, r3, Try.results10]
      refine gc_fin' hw (o1.trans o9) (congrArg Value.string ?_) (.string _)
      unfold putR putL
      rw [hb, if_pos rfl, if_pos hk, happ, happ, happ, happ, hk, hq, hi, Int.toNat_natCast, Int.toNat_natCast]
      simp
    · simp (maxSteps := 1000000) (disch := (first | omega | (simp only [nx_alloc, nx_upd, len_cons, len_nil, List.length_set, List.length_map, List.length_append] <;> omega) | fail)) only [go_sem, r1, r3, g9, hk, Try.results10]
      refine gc_fin' hw (o1.trans o9) (congrArg Value.string ?_) (.string _)
      unfold putR putL
      rw [hb, if_pos rfl, if_neg hk, happ, happ, happ, hq, hi, Int.toNat_natCast, Int.toNat_natCast]
      simp
end Go.Fw
