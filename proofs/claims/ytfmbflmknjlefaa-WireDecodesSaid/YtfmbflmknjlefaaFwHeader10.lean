import Derived.Test.YtfmbflmknjlefaaFwHeader9
set_option linter.unusedSimpArgs false
set_option linter.unusedVariables false
set_option maxRecDepth 4000
namespace Go.Fw
open Go.Proofs Go.RowKit
theorem Try.enters85 : Enters Try.prog 85 := enters_of Try.func85 rfl (by kernel_rfl)
theorem Try.enters60 : Enters Try.prog 60 := enters_of Try.func60 rfl (by kernel_rfl)
theorem hashS_err {s : RS} (h : s.2 ≠ 0) : hashS s = (zeroH, s) := if_pos h
theorem manyS_err {m : Int} {s : RS} (h : s.2 ≠ 0) : manyS m s = (0, s) := if_pos h
theorem textS_err {s : RS} (h : s.2 ≠ 0) : textS s = ([], s) := if_pos h
theorem hashN_err : ∀ (k : Nat) (s : RS) (acc : List HashT), s.2 ≠ 0 → (hashN k s acc).2 = s
  | 0, s, acc, h => rfl
  | k + 1, s, acc, h => by rw [hashN, hashS_err h]; exact hashN_err k s _ h
theorem pairN_err : ∀ (k : Nat) (s : RS) (a : List ByteArray) (b : List Int), s.2 ≠ 0 → (pairN k s a b).2 = s
  | 0, s, a, b, h => rfl
  | k + 1, s, a, b, h => by rw [pairN, textS_err h, manyS_err h]; exact pairN_err k s _ _ h
theorem progR_eP {r : List Int} (h : (readP r).2.2 ≠ 0) : progR r = (V0, [], (readP r).2.2) := if_pos h
theorem readP_eK {r : List Int} (h : (readK r).2.2 ≠ 0) : (readP r).2 = (readK r).2 := pairN_err _ _ _ _ h
theorem progR_eK {r : List Int} (h : (readK r).2.2 ≠ 0) : progR r = (V0, [], (readK r).2.2) := by rw [← readP_eK h]; exact progR_eP (by rw [readP_eK h]; exact h)
theorem readK_eB {r : List Int} (h : (readB r).2.2 ≠ 0) : (readK r).2 = (readB r).2 := by unfold readK; rw [manyS_err h]
theorem progR_eB {r : List Int} (h : (readB r).2.2 ≠ 0) : progR r = (V0, [], (readB r).2.2) := by rw [← readK_eB h]; exact progR_eK (by rw [readK_eB h]; exact h)
theorem readB_eN {r : List Int} (h : (readN r).2.2 ≠ 0) : (readB r).2 = (readN r).2 := hashN_err _ _ _ h
theorem progR_eN {r : List Int} (h : (readN r).2.2 ≠ 0) : progR r = (V0, [], (readN r).2.2) := by rw [← readB_eN h]; exact progR_eB (by rw [readB_eN h]; exact h)
theorem readN_eI {r : List Int} (h : (readI r).2.2 ≠ 0) : (readN r).2 = (readI r).2 := by unfold readN; rw [manyS_err h]
theorem progR_eI {r : List Int} (h : (readI r).2.2 ≠ 0) : progR r = (V0, [], (readI r).2.2) := by rw [← readN_eI h]; exact progR_eN (by rw [readN_eI h]; exact h)
def hashR (r : List Int) : HashT × List Int × Int := if h : 32 ≤ r.length then (⟨r.take 32, by rw [List.length_take]; omega⟩, r.drop 32, 0) else (zeroH, [], 40)
def hashRV (x : HashT × List Int × Int) : Value := .tuple #[.agg (hsC x.1).toArray, .string (strOfNums x.2.1), .int .i64 x.2.2]
theorem bndHs (n : Nat) (h : HashT) : Bnd n (.agg (hsC h).toArray) := by
  refine .agg _ fun i v hv => ?_
  have hv : v ∈ hsC h := List.mem_of_getElem? (by simpa using hv)
  obtain ⟨i, _, rfl⟩ := List.mem_map.1 hv
  exact .int _ _
theorem bnd_hashRV (n : Nat) (x : HashT × List Int × Int) : Bnd n (hashRV x) := by
  have := bndHs n x.1
  unfold hashRV; simp only [bnd_tuple, bndL_cons, bndL_nil, bnd_int, bnd_string, and_self, this]
theorem buildH : abuild Try.prog 43 #[] = some (.agg (hsC zeroH).toArray) := by kernel_rfl
theorem storeHs (X : St) (b : Nat) (z : List Value) (h : HashT) (hz : z.length = 32) : storeC X (some 32) (some (.cells z 43 (some 0))) b 0 (.agg (hsC h).toArray) = some (X.upd b (some (.cells (hsC h) 43 (some 0)))) := by
  rw [storeC_aggS _ _ _ _ _ _ _ (hsC_len h).symm (Nat.le_refl _) (by omega), hsC_cell, guardO_true, set_all _ _ (by rw [hsC_len, hz])]
theorem loadHs (h : HashT) : loadC (some true) (some 32) (some (.cells (hsC h) 43 (some 0))) 0 = some (.agg (hsC h).toArray) := by
  rw [loadC_agg _ _ _ _ _ (by rw [hsC_len]; omega), List.drop_zero, List.take_of_length_le (by rw [hsC_len]; omega)]
def cutH (r : List Int) (i : Nat) : List Value := ((r.take i).map (Value.int .u8 ·)) ++ List.replicate (32 - i) (.int .u8 0)
theorem cutH_len (r : List Int) (i : Nat) (hi : i ≤ 32) (hr : 32 ≤ r.length) : (cutH r i).length = 32 := by
  unfold cutH; rw [List.length_append, List.length_map, List.length_take, List.length_replicate]; omega
theorem cutH_set (r : List Int) (i : Nat) (hi : i < 32) (hr : 32 ≤ r.length) (c : Int) (hc : r[i]? = some c) : (cutH r i).set i (.int .u8 c) = cutH r (i + 1) := by
  unfold cutH
  have hl : ((r.take i).map (Value.int .u8 ·)).length = i := by rw [List.length_map, List.length_take]; omega
  rw [List.set_append_right _ _ (by omega), hl, Nat.sub_self, show 32 - i = (32 - (i + 1)) + 1 by omega, List.replicate_succ, List.set_cons_zero, List.take_add_one, hc, List.map_append, List.append_assoc]
  rfl
set_option maxHeartbeats 4000000 in
theorem rfhash_ok (w0 : World) (A : St) (r : List Int) (hb : ∀ x ∈ r, Byte x) (hl : r.length ≤ 1048576) :
    ACalls Try.prog w0 85 #[.string (strOfNums r)] A (fin (hashRV (hashR r)) A) := by
  refine call_E Try.enters85 Try.func85 rfl (Nat.le_of_ble_eq_true rfl) fun hw hbd => ?_
  have hsz := str_size r
  have hn := nums_str hb
  by_cases h32 : 32 ≤ r.length
  rotate_left
  · have hr : hashR r = (zeroH, [], 40) := dif_neg h32
    have h32' : ((strOfNums r).size : Int) < 32 := by omega
    rw [hr]
    simp (maxSteps := 1000000) (disch := (first | omega | (simp only [nx_alloc, nx_upd, len_cons, len_nil, List.length_set, List.length_map, List.length_append] <;> omega) | fail)) only [go_sem, Try.ntmps85, Try.results85, buildH, storeHs, loadHs]
    exact gc_fin' hw ((((Over.refl A).alloc _).alloc _).upd (by omega) _ |>.upd (by omega) _) rfl (bnd_hashRV _ _)
  have hr : hashR r = (⟨r.take 32, by rw [List.length_take]; omega⟩, r.drop 32, 0) := dif_pos h32
  have h32' : ¬ ((strOfNums r).size : Int) < 32 := by omega
  rw [hr]
  simp (maxSteps := 1000000) (disch := (first | omega | (simp only [nx_alloc, nx_upd, len_cons, len_nil, List.length_set, List.length_map, List.length_append] <;> omega) | fail)) only [go_sem, Try.ntmps85, Try.results85, buildH, storeHs]
  refine aw_loop (fun k x A' => ∃ (ρ : Nat → Value) (i : Nat), x = E 24 ρ [] ∧ k = 32 - i ∧ i ≤ 32 ∧ Over A A' ∧ A'.next = A.next + 2 ∧ A'.get A.next = some (.cells (hsC zeroH) 43 (some 0)) ∧ A'.get (A.next + 1) = some (.cells (cutH r i) 43 (some 0)) ∧
      ρ 0 = .string (strOfNums r) ∧ ρ 2 = .pointer (some ⟨A.next, 0, none⟩) ∧ ρ 5 = .pointer (some ⟨A.next + 1, 0, none⟩) ∧ ρ 6 = .int .i64 i) 32
    ⟨_, 0, rfl, rfl, Nat.zero_le _, ((((Over.refl A).alloc _).alloc _).upd (by omega) _), rfl, by simp (disch := (first | omega | (simp only [nx_alloc, nx_upd, len_cons, len_nil, List.length_set, List.length_map, List.length_append] <;> omega) | fail)) only [St.get_upd, St.get_alloc, St.next_alloc, St.next_upd, ↓reduceIte, natF_lt, natF_gt, natF_ne, Nat.add_assoc, Nat.reduceAdd, Nat.reduceEqDiff, Nat.add_left_cancel_iff]; rfl, by simp (disch := (first | omega | (simp only [nx_alloc, nx_upd, len_cons, len_nil, List.length_set, List.length_map, List.length_append] <;> omega) | fail)) only [St.get_upd, St.get_alloc, St.next_alloc, St.next_upd, ↓reduceIte, natF_lt, natF_gt, natF_ne, Nat.add_assoc, Nat.reduceAdd, Nat.reduceEqDiff, Nat.add_left_cancel_iff]; rfl, rfl, rfl, rfl, rfl⟩ ?_
  rintro k x A' ⟨ρ, i, rfl, hk, hi, ho, hn2, z0, z1, g0, g2, g5, g6⟩
  refine aw_of ?_
  by_cases hend : i = 32
  rotate_left
  · have e1 : ((i : Int) < 32) := by omega
    have hc : r[i]? = some (sbt (strOfNums r) i) := by have := sbt_nums (strOfNums r) i (by omega); rw [hn] at this; exact this
    have hcl := cutH_len r i hi h32
    have hset := cutH_set r i (by omega) h32 _ hc
    simp (maxSteps := 1000000) (disch := (first | omega | (simp only [nx_alloc, nx_upd, len_cons, len_nil, List.length_set, List.length_map, List.length_append] <;> omega) | fail)) only [go_sem, g0, g2, g5, g6, z1, hcl, hset]
    refine ⟨k - 1, by omega, _, i + 1, rfl, by omega, by omega, ho.upd (by omega) _, hn2, ?_, ?_, ?_, ?_, ?_, ?_⟩
    · exact z0
    · rfl
    · simp (maxSteps := 1000000) (disch := (first | omega | (simp only [nx_alloc, nx_upd, len_cons, len_nil, List.length_set, List.length_map, List.length_append] <;> omega) | fail)) only [go_sem, g0]
    · simp (maxSteps := 1000000) (disch := (first | omega | (simp only [nx_alloc, nx_upd, len_cons, len_nil, List.length_set, List.length_map, List.length_append] <;> omega) | fail)) only [go_sem, g2]
    · simp (maxSteps := 1000000) (disch := (first | omega | (simp only [nx_alloc, nx_upd, len_cons, len_nil, List.length_set, List.length_map, List.length_append] <;> omega) | fail)) only [go_sem, g5]
    · simp (maxSteps := 1000000) (disch := (first | omega | (simp only [nx_alloc, nx_upd, len_cons, len_nil, List.length_set, List.length_map, List.length_append] <;> omega) | fail)) only [go_sem]
      rfl
  subst hend
  have hH : cutH r 32 = hsC ⟨r.take 32, by rw [List.length_take]; omega⟩ := by unfold cutH hsC; rw [Nat.sub_self, List.replicate_zero, List.append_nil]
  rw [hH] at z1
  have x2 := str_drop hb 32
  have h32n : 32 ≤ (strOfNums r).size := by omega
  generalize (⟨r.take 32, by rw [List.length_take]; omega⟩ : HashT) = hh at *
  have hzl := hsC_len zeroH
  simp (maxSteps := 1000000) (disch := (first | omega | (simp only [nx_alloc, nx_upd, len_cons, len_nil, List.length_set, List.length_map, List.length_append] <;> omega) | fail)) only [go_sem, g0, g2, g5, g6]
  refine aw_draw2 [⟨false, [], [0]⟩, ⟨false, [], [0, 1]⟩, ⟨false, [1], [0, 1]⟩, ⟨true, [0], [0]⟩, ⟨false, [0, 1, 2, 3], [1]⟩, ⟨false, [0, 1, 2, 3, 4], [1]⟩] [A', A'.upd A.next (some (.cells (hsC hh) 43 (some 0)))] 1 (by kernel_rfl) (by kernel_rfl) rfl ?_
  rw [← hsz] at x2
  simp (maxSteps := 1000000) (disch := (first | omega | (simp only [nx_alloc, nx_upd, len_cons, len_nil, List.length_set, List.length_map, List.length_append] <;> omega) | fail)) only [go_sem, g0, g2, g5, z0, z1, storeHs, loadHs, hzl, x2, Try.results85]
  exact gc_fin' hw (ho.upd (Nat.le_refl _) _) rfl (bnd_hashRV _ _)
/-- The heap while a version is read. -/
structure RK (z : Blk) (A : St) (id : Int) (p q u : Value) (B : List HashT) (N : List ByteArray) (S : List Int) (A' : St) : Prop where
  over : Over A A'
  lo : A.next + 2 ≤ A'.next
  res : A'.get A.next = some z
  vs : A'.get (A.next + 1) = some (verB id p q u)
  rb : HsRow A' (A.next + 2) B p
  rn : StRow A' (A.next + 2) N q
  rs : InRow A' (A.next + 2) S u
  d1 : ∀ b, rowB p = some b → rowB q ≠ some b
  d2 : ∀ b, rowB p = some b → rowB u ≠ some b
  d3 : ∀ b, rowB q = some b → rowB u ≠ some b
variable {z : Blk} {A A' : St} {id : Int} {p q u : Value} {B : List HashT} {N : List ByteArray} {S : List Int}
theorem RK.pushB (h : RK z A id p q u B N S A') (x : HashT) (hl : B.length ≤ 1048576) :
    ∃ v' A2, aappend Try.prog (A'.alloc (.cells (hsC x) 43 (some 0))) 23 23 p (.slice (some ⟨A'.next, 0, none⟩) 1 1) = some (v', A2) ∧ A2.get (A.next + 1) = some (verB id p q u) ∧ one1 v' = true ∧ RK z A id v' q u (B ++ [x]) N S (A2.upd (A.next + 1) (some (verB id v' q u))) := by
  have hlo := h.lo
  obtain ⟨v', A2, hap, hr2, hn2, hrb, hf2⟩ := hs_push h.rb x (by omega) hl
  have low : ∀ b, b < A.next + 2 → A2.get b = A'.get b := fun b hb => hf2 b (by omega) (fun e => by have := (Row.rb h.rb b e).1; omega)
  have kn : StRow A2 (A.next + 2) N q := Row.keep h.rn (by omega) (fun b hb _ hlt => hf2 b hlt (fun e => h.d1 b e hb)) (Nat.le_refl _)
  have ks : InRow A2 (A.next + 2) S u := Row.keep h.rs (by omega) (fun b hb _ hlt => hf2 b hlt (fun e => h.d2 b e hb)) (Nat.le_refl _)
  have bq := fun b hb => (Row.rb h.rn b hb).2
  have bu := fun b hb => (Row.rb h.rs b hb).2
  refine ⟨v', A2, hap, (low _ (by omega)).trans h.vs, Row.sing hr2, ⟨⟨by have := h.over.next; simp only [nx_upd]; omega, fun b hb => ?_⟩, by simp only [nx_upd]; omega, ?_, get_upd_same .., Row.keep hr2 (Nat.le_refl _) (fun b hb y _ => by rw [St.get_upd, if_neg (by omega)]) (Nat.le_refl _), Row.keep kn (Nat.le_refl _) (fun b hb y _ => by rw [St.get_upd, if_neg (by omega)]) (Nat.le_refl _), Row.keep ks (Nat.le_refl _) (fun b hb y _ => by rw [St.get_upd, if_neg (by omega)]) (Nat.le_refl _), fun b hb e => ?_, fun b hb e => ?_, h.d3⟩⟩
  · rw [St.get_upd, if_neg (by omega), low b (by omega)]; exact h.over.get b hb
  · rw [St.get_upd, if_neg (by omega), low _ (by omega)]; exact h.res
  · rw [hrb] at hb; have := Option.some.inj hb; have := bq b e; omega
  · rw [hrb] at hb; have := Option.some.inj hb; have := bu b e; omega
theorem RK.pushN (h : RK z A id p q u B N S A') (x : ByteArray) (hl : N.length ≤ 1048576) :
    ∃ v' A2, aappend Try.prog (A'.alloc (.cells [.string x] 9 (some 0))) 24 24 q (.slice (some ⟨A'.next, 0, none⟩) 1 1) = some (v', A2) ∧ A2.get (A.next + 1) = some (verB id p q u) ∧ one1 v' = true ∧ RK z A id p v' u B (N ++ [x]) S (A2.upd (A.next + 1) (some (verB id p v' u))) := by
  have hlo := h.lo
  obtain ⟨v', A2, hap, hr2, hn2, hrb, hf2⟩ := st_push h.rn x (by omega) (by omega)
  have low : ∀ b, b < A.next + 2 → A2.get b = A'.get b := fun b hb => hf2 b (by omega) (fun e => by have := (Row.rb h.rn b e).1; omega)
  have kb : HsRow A2 (A.next + 2) B p := Row.keep h.rb (by omega) (fun b hb _ hlt => hf2 b hlt (fun e => h.d1 b hb e)) (Nat.le_refl _)
  have ks : InRow A2 (A.next + 2) S u := Row.keep h.rs (by omega) (fun b hb _ hlt => hf2 b hlt (fun e => h.d3 b e hb)) (Nat.le_refl _)
  have bp := fun b hb => (Row.rb h.rb b hb).2
  have bu := fun b hb => (Row.rb h.rs b hb).2
  refine ⟨v', A2, hap, (low _ (by omega)).trans h.vs, Row.sing hr2, ⟨⟨by have := h.over.next; simp only [nx_upd]; omega, fun b hb => ?_⟩, by simp only [nx_upd]; omega, ?_, get_upd_same .., Row.keep kb (Nat.le_refl _) (fun b hb y _ => by rw [St.get_upd, if_neg (by omega)]) (Nat.le_refl _), Row.keep hr2 (Nat.le_refl _) (fun b hb y _ => by rw [St.get_upd, if_neg (by omega)]) (Nat.le_refl _), Row.keep ks (Nat.le_refl _) (fun b hb y _ => by rw [St.get_upd, if_neg (by omega)]) (Nat.le_refl _), fun b hb e => ?_, h.d2, fun b hb e => ?_⟩⟩
  · rw [St.get_upd, if_neg (by omega), low b (by omega)]; exact h.over.get b hb
  · rw [St.get_upd, if_neg (by omega), low _ (by omega)]; exact h.res
  · rw [hrb] at e; have := Option.some.inj e; have := bp b hb; omega
  · rw [hrb] at hb; have := Option.some.inj hb; have := bu b e; omega
theorem RK.pushS (h : RK z A id p q u B N S A') (x : Int) (hl : S.length ≤ 1048576) :
    ∃ v' A2, aappend Try.prog (A'.alloc (.cells [.int .i64 x] 3 (some 0))) 25 25 u (.slice (some ⟨A'.next, 0, none⟩) 1 1) = some (v', A2) ∧ A2.get (A.next + 1) = some (verB id p q u) ∧ one1 v' = true ∧ RK z A id p q v' B N (S ++ [x]) (A2.upd (A.next + 1) (some (verB id p q v'))) := by
  have hlo := h.lo
  obtain ⟨v', A2, hap, hr2, hn2, hrb, hf2⟩ := in_push h.rs x (by omega) (by omega)
  have low : ∀ b, b < A.next + 2 → A2.get b = A'.get b := fun b hb => hf2 b (by omega) (fun e => by have := (Row.rb h.rs b e).1; omega)
  have kb : HsRow A2 (A.next + 2) B p := Row.keep h.rb (by omega) (fun b hb _ hlt => hf2 b hlt (fun e => h.d2 b hb e)) (Nat.le_refl _)
  have kn : StRow A2 (A.next + 2) N q := Row.keep h.rn (by omega) (fun b hb _ hlt => hf2 b hlt (fun e => h.d3 b hb e)) (Nat.le_refl _)
  have bp := fun b hb => (Row.rb h.rb b hb).2
  have bq := fun b hb => (Row.rb h.rn b hb).2
  refine ⟨v', A2, hap, (low _ (by omega)).trans h.vs, Row.sing hr2, ⟨⟨by have := h.over.next; simp only [nx_upd]; omega, fun b hb => ?_⟩, by simp only [nx_upd]; omega, ?_, get_upd_same .., Row.keep kb (Nat.le_refl _) (fun b hb y _ => by rw [St.get_upd, if_neg (by omega)]) (Nat.le_refl _), Row.keep kn (Nat.le_refl _) (fun b hb y _ => by rw [St.get_upd, if_neg (by omega)]) (Nat.le_refl _), Row.keep hr2 (Nat.le_refl _) (fun b hb y _ => by rw [St.get_upd, if_neg (by omega)]) (Nat.le_refl _), h.d1, fun b hb e => ?_, fun b hb e => ?_⟩⟩
  · rw [St.get_upd, if_neg (by omega), low b (by omega)]; exact h.over.get b hb
  · rw [St.get_upd, if_neg (by omega), low _ (by omega)]; exact h.res
  · rw [hrb] at e; have := Option.some.inj e; have := bp b hb; omega
  · rw [hrb] at e; have := Option.some.inj e; have := bq b hb; omega
theorem RK.ver (h : RK z A id p q u B N S A') : VerV A' ⟨id, B, N, S⟩ (.agg #[.int .u32 id, p, q, u]) := ⟨p, q, u, rfl, Row.view h.rb, Row.view h.rn, Row.view h.rs⟩
theorem RK.verRes (h : RK z A id p q u B N S A') (b : Option Blk) : VerRow (A'.upd A.next b) A.next ⟨id, B, N, S⟩ (.agg #[.int .u32 id, p, q, u]) :=
  VerRow.keep (A := A') ⟨p, q, u, rfl, h.rb, h.rn, h.rs⟩ (Nat.le_refl _) (fun b hb _ => by rw [St.get_upd, if_neg (by omega)]) (by omega)
theorem RK.ext (h : RK z A id p q u B N S A') {A2 : St} (o : Over A' A2) : RK z A id p q u B N S A2 := by
  have hl := h.lo
  have hn := o.next
  have k := fun (b : Nat) (hb : b < A'.next) => o.get b hb
  refine ⟨h.over.trans o, by omega, (k _ (by omega)).trans h.res, (k _ (by omega)).trans h.vs, Row.keep h.rb hn (fun b _ _ hlt => k b hlt) (Nat.le_refl _), Row.keep h.rn hn (fun b _ _ hlt => k b hlt) (Nat.le_refl _), Row.keep h.rs hn (fun b _ _ hlt => k b hlt) (Nat.le_refl _), h.d1, h.d2, h.d3⟩
theorem cell_of {v : Value} (h : one1 v = true) : cell1 v = true := by cases v <;> first | rfl | (simp [one1] at h)
abbrev zVB : Blk := verB 0 (.slice none 0 0) (.slice none 0 0) (.slice none 0 0)
theorem RK.stop (h : RK z A id p q u B N S A') (e : Int) : ReadPost A (V0, [], e) (.returned (.tuple #[.agg #[.int .u32 0, .slice none 0 0, .slice none 0 0, .slice none 0 0], .string { data := #[] }, .int .i64 e])) (A'.upd A.next (some (.cells [.int .u32 0, .slice none 0 0, .slice none 0 0, .slice none 0 0] 27 (some 0)))) := ⟨_, rfl, h.over.upd (Nat.le_refl _) _, verV0 _ _⟩
theorem ld0 : loadC (some true) (some 4) (some (.cells [.int .u32 0, .slice none 0 0, .slice none 0 0, .slice none 0 0] 27 (some 0))) 0 = some (.agg #[.int .u32 0, .slice none 0 0, .slice none 0 0, .slice none 0 0]) := by rw [loadC_agg _ _ _ _ _ (by simp), List.drop_zero]; rfl
set_option maxHeartbeats 8000000 in
theorem rread_ver_ok (w0 : World) (A : St) (s : ByteArray) (hs : s.size ≤ 1048576) : ACalls Try.prog w0 60 #[.string s] A (ReadPost A (progR (nums s))) := by
  refine call_E Try.enters60 Try.func60 rfl (Nat.le_of_ble_eq_true rfl) fun hw hbd => ?_
  have hby := nums_byte s
  have hnl := nums_length s
  obtain ⟨i1, i2, i3⟩ := idS_ok hby
  generalize hr : nums s = r at *
  have hst : s = strOfNums r := by rw [← hr, str_nums]
  subst hst
  have hld0 := ld0
  simp (maxSteps := 1000000) (disch := (first | omega | (simp only [nx_alloc, nx_upd, len_cons, len_nil, List.length_set, List.length_map, List.length_append] <;> omega) | fail)) only [go_sem, Try.ntmps60, Try.results60]
  have j1 : RK zVB A 0 (.slice none 0 0) (.slice none 0 0) (.slice none 0 0) [] [] [] (((A.alloc (verB 0 (.slice none 0 0) (.slice none 0 0) (.slice none 0 0))).alloc (verB 0 (.slice none 0 0) (.slice none 0 0) (.slice none 0 0))).upd (A.next + 1) (some (verB 0 (.slice none 0 0) (.slice none 0 0) (.slice none 0 0)))) :=
    ⟨(((Over.refl A).alloc _).alloc _).upd (by omega) _, Nat.le_refl _, by simp (disch := (first | omega | (simp only [nx_alloc, nx_upd, len_cons, len_nil, List.length_set, List.length_map, List.length_append] <;> omega) | fail)) only [St.get_upd, St.get_alloc, St.next_alloc, St.next_upd, ↓reduceIte, natF_lt, natF_gt, natF_ne, Nat.add_assoc, Nat.reduceAdd, Nat.reduceEqDiff, Nat.add_left_cancel_iff], get_upd_same .., Row.nil .., Row.nil .., Row.nil .., fun b hb => (by cases hb), fun b hb => (by cases hb), fun b hb => (by cases hb)⟩
  change ACalls _ _ _ _ (((A.alloc (verB 0 (.slice none 0 0) (.slice none 0 0) (.slice none 0 0))).alloc (verB 0 (.slice none 0 0) (.slice none 0 0) (.slice none 0 0))).upd (A.next + 1) (some (verB 0 (.slice none 0 0) (.slice none 0 0) (.slice none 0 0)))) _
  generalize (((A.alloc (verB 0 (.slice none 0 0) (.slice none 0 0) (.slice none 0 0))).alloc (verB 0 (.slice none 0 0) (.slice none 0 0) (.slice none 0 0))).upd (A.next + 1) (some (verB 0 (.slice none 0 0) (.slice none 0 0) (.slice none 0 0)))) = A1 at *
  refine call1 (rfixed_ok w0 A1 (strOfNums r) 4 (by omega)) ?_
  rw [hr]
  have hrI : readI r = ((fixL r 4).1, ((fixL r 4).2.1, (fixL r 4).2.2)) := rfl
  change RSok r.length ((fixL r 4).2.1, (fixL r 4).2.2) at i1
  change 0 ≤ (fixL r 4).1 at i2
  change (fixL r 4).1 < _ at i3
  rcases hf : fixL r 4 with ⟨n, t, e⟩
  rw [hf] at hrI i1 i2 i3
  simp only at hrI i1 i2 i3
  unfold getV
  have jr := j1.res
  have jv := j1.vs
  unfold zVB verB at jr; unfold verB at jv
  by_cases he : e = 0
  rotate_left
  · have hp : progR r = (V0, [], e) := by have := progR_eI (r := r) (by rw [hrI]; exact he); rw [hrI] at this; exact this
    rw [hp]
    simp (maxSteps := 1000000) (disch := (first | omega | (simp only [nx_alloc, nx_upd, len_cons, len_nil, List.length_set, List.length_map, List.length_append] <;> omega) | fail)) only [go_sem, he, jr, hld0, Try.results60]
    exact gc_here (j1.stop e)
  subst he
  simp (maxSteps := 1000000) (disch := (first | omega | (simp only [nx_alloc, nx_upd, len_cons, len_nil, List.length_set, List.length_map, List.length_append] <;> omega) | fail)) only [go_sem, jv]
  have j2 : RK zVB A n (.slice none 0 0) (.slice none 0 0) (.slice none 0 0) [] [] [] (A1.upd (A.next + 1) (some (verB n (.slice none 0 0) (.slice none 0 0) (.slice none 0 0)))) := by
    refine ⟨j1.over.upd (by omega) _, j1.lo, ?_, get_upd_same .., Row.nil .., Row.nil .., Row.nil .., fun b hb => (by cases hb), fun b hb => (by cases hb), fun b hb => (by cases hb)⟩
    rw [St.get_upd, if_neg (by omega)]; exact j1.res
  change ACalls _ _ _ _ (A1.upd (A.next + 1) (some (verB n (.slice none 0 0) (.slice none 0 0) (.slice none 0 0)))) _
  generalize (A1.upd (A.next + 1) (some (verB n (.slice none 0 0) (.slice none 0 0) (.slice none 0 0)))) = A2 at *
  clear jr jv j1
  have htb := i1.1
  have htl : t.length ≤ r.length := i1.2
  refine call1 (rget_ok w0 A2 (strOfNums t) (by rw [str_size]; omega)) ?_
  rw [nums_str htb]
  have hmo := manyS_ok 16 (by decide) i1
  have hrN : readN r = manyS 16 (t, 0) := by unfold readN; rw [hrI]
  rcases hg : getL 10 0 0 t with ⟨m, t2, e⟩
  obtain ⟨gn0, gn1, gr, grl, ge0, ge1⟩ := getL_facts _ htb m t2 e hg
  have jr := j2.res
  have jv := j2.vs
  unfold zVB verB at jr; unfold verB at jv
  unfold getV
  have hms : manyS 16 (t, 0) = if e = 0 ∧ m > 16 then (0, (t2, 111)) else (if e = 0 then m else 0, (t2, e)) := by unfold manyS; rw [if_neg (by simp), hg]
  rw [hms] at hrN
  clear hms hmo
  by_cases he : e = 0
  rotate_left
  · rw [if_neg (fun h => he h.1)] at hrN
    have hp : progR r = (V0, [], e) := by have := progR_eN (r := r) (by rw [hrN]; exact he); rw [hrN] at this; exact this
    rw [hp]
    simp (maxSteps := 1000000) (disch := (first | omega | (simp only [nx_alloc, nx_upd, len_cons, len_nil, List.length_set, List.length_map, List.length_append] <;> omega) | fail)) only [go_sem, he, jr, hld0, Try.results60]
    exact gc_here (j2.stop e)
  subst he
  by_cases hm : m > 16
  · rw [if_pos ⟨rfl, hm⟩] at hrN
    have hp : progR r = (V0, [], 111) := by have := progR_eN (r := r) (by rw [hrN]; simp); rw [hrN] at this; exact this
    rw [hp]
    simp (maxSteps := 1000000) (disch := (first | omega | (simp only [nx_alloc, nx_upd, len_cons, len_nil, List.length_set, List.length_map, List.length_append] <;> omega) | fail)) only [go_sem, jr, hld0, Try.results60]
    exact gc_here (j2.stop 111)
  rw [if_neg (fun h => hm h.2), if_pos rfl] at hrN
  obtain ⟨nn, rfl⟩ := Int.eq_ofNat_of_zero_le gn0
  have hn16 : nn ≤ 16 := by omega
  have hrB : hashN nn (t2, 0) [] = readB r := by unfold readB; rw [hrN]; rfl
  have hid : (readI r).1 = n := by rw [hrI]
  simp (maxSteps := 1000000) (disch := (first | omega | (simp only [nx_alloc, nx_upd, len_cons, len_nil, List.length_set, List.length_map, List.length_append] <;> omega) | fail)) only [go_sem]
  refine aw_loop (fun k x A' => ∃ (ρ : Nat → Value) (i : Nat) (B : List HashT) (t : List Int) (p : Value), x = E 136 ρ [] ∧ k = nn - i ∧ i ≤ nn ∧ RK zVB A n p (.slice none 0 0) (.slice none 0 0) B [] [] A' ∧ RSok r.length (t, 0) ∧ B.length = i ∧ hashN (nn - i) (t, 0) B = readB r ∧
      ρ 2 = .pointer (some ⟨A.next, 0, none⟩) ∧ ρ 5 = .pointer (some ⟨A.next + 1, 0, none⟩) ∧ ρ 9 = .int .u64 nn ∧ ρ 10 = .string (strOfNums t) ∧ ρ 12 = .int .u64 i) nn
    ⟨_, 0, [], t2, _, rfl, rfl, Nat.zero_le _, j2, ⟨gr, Nat.le_trans grl htl⟩, rfl, hrB, rfl, rfl, rfl, rfl, rfl⟩ ?_
  clear j2 jr jv hrB hm gr grl htb htl
  rintro k x A' ⟨ρ, i, B, t, p, rfl, hk, hi, j, hrs, hBl, hhn, g2, g5, g9, g10, g12⟩
  refine aw_of ?_
  have hlo := j.lo
  have jr := j.res
  have jv := j.vs
  unfold zVB verB at jr; unfold verB at jv
  by_cases hend : i = nn
  rotate_left
  · have e1 : ((i : Int) < nn) := by omega
    have hst : hashN (nn - i) (t, 0) B = hashN (nn - (i + 1)) (hashS (t, 0)).2 (B ++ [(hashS (t, 0)).1]) := by
      obtain ⟨q, hq⟩ : ∃ q, nn - i = q + 1 := ⟨nn - i - 1, by omega⟩
      rw [hq, show nn - (i + 1) = q by omega]; rfl
    rw [hst] at hhn
    have hrs2 := hashS_ok hrs
    simp (maxSteps := 1000000) (disch := (first | omega | (simp only [nx_alloc, nx_upd, len_cons, len_nil, List.length_set, List.length_map, List.length_append] <;> omega) | fail)) only [go_sem, g2, g5, g9, g10, g12]
    refine call1 (rfhash_ok w0 A' t hrs.1 (by have := hrs.2; simp only at this; omega)) ?_
    by_cases h32 : 32 ≤ t.length
    rotate_left
    · have h1 : hashR t = (zeroH, [], 40) := dif_neg h32
      have h2 : hashS (t, 0) = (zeroH, (t, 40)) := by unfold hashS; rw [if_neg (by simp), dif_neg h32]
      have h3 : (readB r).2 = (t, 40) := by rw [← hhn, h2]; exact hashN_err _ _ _ (by simp)
      have hp : progR r = (V0, [], 40) := by have := progR_eB (r := r) (by rw [h3]; simp); rw [h3] at this; exact this
      rw [hp, h1]
      unfold hashRV
      have hzl := hsC_len zeroH
      simp (maxSteps := 1000000) (disch := (first | omega | (simp only [nx_alloc, nx_upd, len_cons, len_nil, List.length_set, List.length_map, List.length_append] <;> omega) | fail)) only [go_sem, g2, jr, hld0, storeHs, Try.results60]
      exact gc_here ((j.ext (((Over.refl A').alloc _).upd (Nat.le_refl _) _)).stop 40)
    have h1 : hashR t = ((hashS (t, 0)).1, (hashS (t, 0)).2.1, 0) := by unfold hashR hashS; rw [if_neg (by simp), dif_pos h32, dif_pos h32]
    have h2 : (hashS (t, 0)).2.2 = 0 := by unfold hashS; rw [if_neg (by simp), dif_pos h32]
    rw [h1]
    unfold hashRV
    obtain ⟨t3, rfl'⟩ : ∃ t3, (hashS (t, 0)).2 = (t3, 0) := ⟨_, Prod.ext rfl h2⟩
    rw [rfl'] at hhn hrs2
    rw [rfl']
    generalize (hashS (t, 0)).1 = h at *
    have j3 := j.ext (((Over.refl A').alloc (.cells [.int .u8 0, .int .u8 0, .int .u8 0, .int .u8 0, .int .u8 0, .int .u8 0, .int .u8 0, .int .u8 0, .int .u8 0, .int .u8 0, .int .u8 0, .int .u8 0, .int .u8 0, .int .u8 0, .int .u8 0, .int .u8 0, .int .u8 0, .int .u8 0, .int .u8 0, .int .u8 0, .int .u8 0, .int .u8 0, .int .u8 0, .int .u8 0, .int .u8 0, .int .u8 0, .int .u8 0, .int .u8 0, .int .u8 0, .int .u8 0, .int .u8 0, .int .u8 0] 43 (some 0))).upd (Nat.le_refl _) (some (.cells (hsC h) 43 (some 0))))
    obtain ⟨v', A4, hap, hv4, hv1, j4⟩ := j3.pushB h (by omega)
    have hzl := hsC_len h
    rw [nx_upd, nx_alloc] at hap
    unfold verB at hv4
    have hset := set_all [.int .u8 0, .int .u8 0, .int .u8 0, .int .u8 0, .int .u8 0, .int .u8 0, .int .u8 0, .int .u8 0, .int .u8 0, .int .u8 0, .int .u8 0, .int .u8 0, .int .u8 0, .int .u8 0, .int .u8 0, .int .u8 0, .int .u8 0, .int .u8 0, .int .u8 0, .int .u8 0, .int .u8 0, .int .u8 0, .int .u8 0, .int .u8 0, .int .u8 0, .int .u8 0, .int .u8 0, .int .u8 0, .int .u8 0, .int .u8 0, .int .u8 0, .int .u8 0] (hsC h) (by rw [hsC_len]; rfl)
    simp (maxSteps := 1000000) (disch := (first | omega | (simp only [nx_alloc, nx_upd, len_cons, len_nil, List.length_set, List.length_map, List.length_append] <;> omega) | fail)) only [go_sem, g5, jv, storeHs, loadHs, hset]
    rw [hap]
    simp (maxSteps := 1000000) (disch := (first | omega | (simp only [nx_alloc, nx_upd, len_cons, len_nil, List.length_set, List.length_map, List.length_append] <;> omega) | fail)) only [go_sem, g5, hv4]
    rw [storeC_val hv1]
    simp (maxSteps := 1000000) (disch := (first | omega | (simp only [nx_alloc, nx_upd, len_cons, len_nil, List.length_set, List.length_map, List.length_append] <;> omega) | fail)) only [go_sem, g12]
    refine ⟨k - 1, by omega, _, i + 1, B ++ [h], t3, v', rfl, by omega, by omega, j4, hrs2, by simp [hBl], hhn, ?_, ?_, ?_, ?_, ?_⟩
    · simp (maxSteps := 1000000) (disch := (first | omega | (simp only [nx_alloc, nx_upd, len_cons, len_nil, List.length_set, List.length_map, List.length_append] <;> omega) | fail)) only [go_sem, g2]
    · simp (maxSteps := 1000000) (disch := (first | omega | (simp only [nx_alloc, nx_upd, len_cons, len_nil, List.length_set, List.length_map, List.length_append] <;> omega) | fail)) only [go_sem, g5]
    · simp (maxSteps := 1000000) (disch := (first | omega | (simp only [nx_alloc, nx_upd, len_cons, len_nil, List.length_set, List.length_map, List.length_append] <;> omega) | fail)) only [go_sem, g9]
    · simp (maxSteps := 1000000) (disch := (first | omega | (simp only [nx_alloc, nx_upd, len_cons, len_nil, List.length_set, List.length_map, List.length_append] <;> omega) | fail)) only [go_sem]
    · simp (maxSteps := 1000000) (disch := (first | omega | (simp only [nx_alloc, nx_upd, len_cons, len_nil, List.length_set, List.length_map, List.length_append] <;> omega) | fail)) only [go_sem]
      rfl
  have e1 : ¬ ((i : Int) < nn) := by omega
  have hBst : readB r = (B, (t, 0)) := by rw [← hhn, hend, Nat.sub_self]; rfl
  have hrK : readK r = manyS 12 (t, 0) := by unfold readK; rw [hBst]
  have hB16 : B.length ≤ 16 := by omega
  have htb := hrs.1
  have htl : t.length ≤ r.length := hrs.2
  simp (maxSteps := 1000000) (disch := (first | omega | (simp only [nx_alloc, nx_upd, len_cons, len_nil, List.length_set, List.length_map, List.length_append] <;> omega) | fail)) only [go_sem, g2, g5, g9, g10, g12]
  refine call1 (rget_ok w0 A' (strOfNums t) (by rw [str_size]; omega)) ?_
  rw [nums_str htb]
  rcases hg : getL 10 0 0 t with ⟨m, t2, e⟩
  obtain ⟨gn0, gn1, gr, grl, ge0, ge1⟩ := getL_facts _ htb m t2 e hg
  unfold getV
  have hms : manyS 12 (t, 0) = if e = 0 ∧ m > 12 then (0, (t2, 111)) else (if e = 0 then m else 0, (t2, e)) := by unfold manyS; rw [if_neg (by simp), hg]
  rw [hms] at hrK
  clear hms
  by_cases he : e = 0
  rotate_left
  · rw [if_neg (fun h => he h.1)] at hrK
    have hp : progR r = (V0, [], e) := by have := progR_eK (r := r) (by rw [hrK]; exact he); rw [hrK] at this; exact this
    rw [hp]
    simp (maxSteps := 1000000) (disch := (first | omega | (simp only [nx_alloc, nx_upd, len_cons, len_nil, List.length_set, List.length_map, List.length_append] <;> omega) | fail)) only [go_sem, he, g2, jr, hld0, Try.results60]
    exact gc_here (j.stop e)
  subst he
  by_cases hm : m > 12
  · rw [if_pos ⟨rfl, hm⟩] at hrK
    have hp : progR r = (V0, [], 111) := by have := progR_eK (r := r) (by rw [hrK]; simp); rw [hrK] at this; exact this
    rw [hp]
    simp (maxSteps := 1000000) (disch := (first | omega | (simp only [nx_alloc, nx_upd, len_cons, len_nil, List.length_set, List.length_map, List.length_append] <;> omega) | fail)) only [go_sem, g2, jr, hld0, Try.results60]
    exact gc_here (j.stop 111)
  rw [if_neg (fun h => hm h.2), if_pos rfl] at hrK
  obtain ⟨kk, rfl⟩ := Int.eq_ofNat_of_zero_le gn0
  have hk12 : kk ≤ 12 := by omega
  have hrP : pairN kk (t2, 0) [] [] = readP r := by unfold readP; rw [hrK]; rfl
  have hBv : (readB r).1 = B := by rw [hBst]
  simp (maxSteps := 1000000) (disch := (first | omega | (simp only [nx_alloc, nx_upd, len_cons, len_nil, List.length_set, List.length_map, List.length_append] <;> omega) | fail)) only [go_sem]
  refine aw_loop (fun k x A' => ∃ (ρ : Nat → Value) (i : Nat) (N : List ByteArray) (S : List Int) (t : List Int) (q u : Value), x = E 136 ρ [] ∧ k = kk - i ∧ i ≤ kk ∧ RK zVB A n p q u B N S A' ∧ RSok r.length (t, 0) ∧ N.length = i ∧ S.length = i ∧ pairN (kk - i) (t, 0) N S = readP r ∧
      ρ 2 = .pointer (some ⟨A.next, 0, none⟩) ∧ ρ 5 = .pointer (some ⟨A.next + 1, 0, none⟩) ∧ ρ 16 = .int .u64 kk ∧ ρ 17 = .string (strOfNums t) ∧ ρ 19 = .int .u64 i) kk
    ⟨_, 0, [], [], t2, _, _, rfl, rfl, Nat.zero_le _, j, ⟨gr, Nat.le_trans grl htl⟩, rfl, rfl, hrP, g2, g5, rfl, rfl, rfl⟩ ?_
  clear j jr jv hrP hm gr grl htb htl g2 g5 g9 g10 g12 hhn hrs hlo hk hi hend e1
  rintro k x A' ⟨ρ, i, N, S, t, q, u, rfl, hk, hi, j, hrs, hNl, hSl, hpn, g2, g5, g16, g17, g19⟩
  refine aw_of ?_
  have hlo := j.lo
  have jr := j.res
  have jv := j.vs
  unfold zVB verB at jr; unfold verB at jv
  have htb := hrs.1
  have htl : t.length ≤ r.length := hrs.2
  by_cases hend : i = kk
  rotate_left
  · have e1 : ((i : Int) < kk) := by omega
    have hst : pairN (kk - i) (t, 0) N S = pairN (kk - (i + 1)) (manyS 300 (textS (t, 0)).2).2 (N ++ [strOfNums (textS (t, 0)).1]) (S ++ [(manyS 300 (textS (t, 0)).2).1]) := by
      obtain ⟨q, hq⟩ : ∃ q, kk - i = q + 1 := ⟨kk - i - 1, by omega⟩
      rw [hq, show kk - (i + 1) = q by omega]; rfl
    rw [hst] at hpn
    have hrs2 := textS_ok hrs
    simp (maxSteps := 1000000) (disch := (first | omega | (simp only [nx_alloc, nx_upd, len_cons, len_nil, List.length_set, List.length_map, List.length_append] <;> omega) | fail)) only [go_sem, g2, g5, g16, g17, g19]
    refine call1 (rread_ok w0 A' (strOfNums t) (by rw [str_size]; omega)) ?_
    rw [nums_str htb]
    have ht : textS (t, 0) = ((readL t).1, ((readL t).2.1, (readL t).2.2)) := if_neg (by simp)
    rcases hg : readL t with ⟨tx, t2, e⟩
    rw [ht, hg] at hpn hrs2
    simp only at hpn hrs2
    unfold readV
    by_cases he : e = 0
    rotate_left
    · have h3 : (readP r).2 = (t2, e) := by rw [← hpn, manyS_err he]; exact pairN_err _ _ _ _ he
      have hp : progR r = (V0, [], e) := by have := progR_eP (r := r) (by rw [h3]; exact he); rw [h3] at this; exact this
      rw [hp]
      simp (maxSteps := 1000000) (disch := (first | omega | (simp only [nx_alloc, nx_upd, len_cons, len_nil, List.length_set, List.length_map, List.length_append] <;> omega) | fail)) only [go_sem, he, g2, jr, hld0, Try.results60]
      exact gc_here (j.stop e)
    subst he
    have htb2 := hrs2.1
    have htl2 : t2.length ≤ r.length := hrs2.2
    simp (maxSteps := 1000000) (disch := (first | omega | (simp only [nx_alloc, nx_upd, len_cons, len_nil, List.length_set, List.length_map, List.length_append] <;> omega) | fail)) only [go_sem]
    refine call1 (rget_ok w0 A' (strOfNums t2) (by rw [str_size]; omega)) ?_
    rw [nums_str htb2]
    rcases hg2 : getL 10 0 0 t2 with ⟨m, t3, e⟩
    obtain ⟨gn0, gn1, gr, grl, ge0, ge1⟩ := getL_facts _ htb2 m t3 e hg2
    unfold getV
    have hms : manyS 300 (t2, 0) = if e = 0 ∧ m > 300 then (0, (t3, 111)) else (if e = 0 then m else 0, (t3, e)) := by unfold manyS; rw [if_neg (by simp), hg2]
    rw [hms] at hpn
    clear hms
    by_cases he : e = 0
    rotate_left
    · rw [if_neg (fun h => he h.1)] at hpn
      have h3 : (readP r).2 = (t3, e) := by rw [← hpn]; exact pairN_err _ _ _ _ he
      have hp : progR r = (V0, [], e) := by have := progR_eP (r := r) (by rw [h3]; exact he); rw [h3] at this; exact this
      rw [hp]
      simp (maxSteps := 1000000) (disch := (first | omega | (simp only [nx_alloc, nx_upd, len_cons, len_nil, List.length_set, List.length_map, List.length_append] <;> omega) | fail)) only [go_sem, he, g2, jr, hld0, Try.results60]
      exact gc_here (j.stop e)
    subst he
    by_cases hm : m > 300
    · rw [if_pos ⟨rfl, hm⟩] at hpn
      have h3 : (readP r).2 = (t3, 111) := by rw [← hpn]; exact pairN_err _ _ _ _ (by simp)
      have hp : progR r = (V0, [], 111) := by have := progR_eP (r := r) (by rw [h3]; simp); rw [h3] at this; exact this
      rw [hp]
      simp (maxSteps := 1000000) (disch := (first | omega | (simp only [nx_alloc, nx_upd, len_cons, len_nil, List.length_set, List.length_map, List.length_append] <;> omega) | fail)) only [go_sem, g2, jr, hld0, Try.results60]
      exact gc_here (j.stop 111)
    rw [if_neg (fun h => hm h.2), if_pos rfl] at hpn
    obtain ⟨v', A6, hap, hv6, hv1, j6⟩ := j.pushN (strOfNums tx) (by omega)
    have hvs6 := j6.vs
    obtain ⟨v'', A7, hap7, hv7, hv71, j7⟩ := j6.pushS m (by omega)
    unfold verB at hv6 hv7 hvs6
    simp (maxSteps := 1000000) (disch := (first | omega | (simp only [nx_alloc, nx_upd, len_cons, len_nil, List.length_set, List.length_map, List.length_append] <;> omega) | fail)) only [go_sem, g5, jv]
    rw [hap]
    simp (maxSteps := 1000000) (disch := (first | omega | (simp only [nx_alloc, nx_upd, len_cons, len_nil, List.length_set, List.length_map, List.length_append] <;> omega) | fail)) only [go_sem, g5, hv6]
    rw [storeC_val hv1]
    have hlo6 := j6.lo
    unfold verB at hap7
    rw [nx_upd] at hap7
    simp (maxSteps := 1000000) (disch := (first | omega | (simp only [nx_alloc, nx_upd, len_cons, len_nil, List.length_set, List.length_map, List.length_append] <;> omega) | fail)) only [go_sem, g5, hvs6]
    rw [hap7]
    simp (maxSteps := 1000000) (disch := (first | omega | (simp only [nx_alloc, nx_upd, len_cons, len_nil, List.length_set, List.length_map, List.length_append] <;> omega) | fail)) only [go_sem, g5, hv7]
    rw [storeC_val hv71]
    simp (maxSteps := 1000000) (disch := (first | omega | (simp only [nx_alloc, nx_upd, len_cons, len_nil, List.length_set, List.length_map, List.length_append] <;> omega) | fail)) only [go_sem, g19]
    refine ⟨k - 1, by omega, _, i + 1, N ++ [strOfNums tx], S ++ [m], t3, v', v'', rfl, by omega, by omega, j7, ⟨gr, Nat.le_trans grl htl2⟩, by simp [hNl], by simp [hSl], hpn, ?_, ?_, ?_, ?_, ?_⟩
    · simp (maxSteps := 1000000) (disch := (first | omega | (simp only [nx_alloc, nx_upd, len_cons, len_nil, List.length_set, List.length_map, List.length_append] <;> omega) | fail)) only [go_sem, g2]
    · simp (maxSteps := 1000000) (disch := (first | omega | (simp only [nx_alloc, nx_upd, len_cons, len_nil, List.length_set, List.length_map, List.length_append] <;> omega) | fail)) only [go_sem, g5]
    · simp (maxSteps := 1000000) (disch := (first | omega | (simp only [nx_alloc, nx_upd, len_cons, len_nil, List.length_set, List.length_map, List.length_append] <;> omega) | fail)) only [go_sem, g16]
    · simp (maxSteps := 1000000) (disch := (first | omega | (simp only [nx_alloc, nx_upd, len_cons, len_nil, List.length_set, List.length_map, List.length_append] <;> omega) | fail)) only [go_sem]
    · simp (maxSteps := 1000000) (disch := (first | omega | (simp only [nx_alloc, nx_upd, len_cons, len_nil, List.length_set, List.length_map, List.length_append] <;> omega) | fail)) only [go_sem]
      rfl
  have e1 : ¬ ((i : Int) < kk) := by omega
  have hPst : readP r = ((N, S), (t, 0)) := by rw [← hpn, hend, Nat.sub_self]; rfl
  have hc1 := cell_of (Row.sing j.rb)
  have hc2 := cell_of (Row.sing j.rn)
  have hc3 := cell_of (Row.sing j.rs)
  have hsm : VerT.small ⟨n, B, N, S⟩ := ⟨by simp only; omega, by simp only; omega, by simp only; omega⟩
  have hmay := rmay_ok w0 A' ⟨n, B, N, S⟩ _ j.ver hsm
  have hld : loadC (some true) (some 4) (some (.cells [.int .u32 n, p, q, u] 27 (some 0))) 0 = some (.agg #[.int .u32 n, p, q, u]) := by rw [loadC_agg _ _ _ _ _ (by simp), List.drop_zero]; rfl
  simp (maxSteps := 1000000) (disch := (first | omega | (simp only [nx_alloc, nx_upd, len_cons, len_nil, List.length_set, List.length_map, List.length_append] <;> omega) | fail)) only [go_sem, g2, g5, g16, g17, g19, jv, hld]
  refine call1 hmay ?_
  have hrv : readVer r = ⟨n, B, N, S⟩ := by unfold readVer; rw [hid, hBv, hPst]
  have hres : progR r = if mayB ⟨n, B, N, S⟩ then (⟨n, B, N, S⟩, t, 0) else (V0, [], 1) := by unfold progR; rw [hPst, hrv]; exact if_neg (by simp)
  rw [hres]
  cases hm : mayB ⟨n, B, N, S⟩ with
  | false =>
    simp (maxSteps := 1000000) (disch := (first | omega | (simp only [nx_alloc, nx_upd, len_cons, len_nil, List.length_set, List.length_map, List.length_append] <;> omega) | fail)) only [go_sem, g2, jr, hld0, Try.results60]
    exact gc_here (j.stop 1)
  | true =>
    simp (maxSteps := 1000000) (disch := (first | omega | (simp only [nx_alloc, nx_upd, len_cons, len_nil, List.length_set, List.length_map, List.length_append] <;> omega) | fail)) only [go_sem, g2, g5, g17, jv, jr, hld, hc1, hc2, hc3, Try.results60]
    exact gc_here ⟨_, rfl, j.over.upd (Nat.le_refl _) _, j.verRes _⟩
end Go.Fw
