import Derived.Test.YtmfccnnkolegmaaFwSq11
set_option linter.unusedSimpArgs false
set_option linter.unusedVariables false
set_option maxRecDepth 4000
namespace Go.Fw
open Go.Proofs Go.RowKit
/-! What was squeezed, read again: the table. -/
/-- A text that has these bits, as far as it goes. -/
def Agr (X : ByteArray) (V W : Nat) : Prop := ∀ q, q < W → q < 8 * X.size → (strV X).testBit q = V.testBit q
theorem Agr.num {X : ByteArray} {V W p w : Nat} (h : Agr X V W) (h1 : p + w ≤ W) (h2 : p + w ≤ 8 * X.size) : numV X p w = V / 2 ^ p % 2 ^ w := by
  unfold numV
  apply Nat.eq_of_testBit_eq
  intro j
  rw [Nat.testBit_mod_two_pow, Nat.testBit_mod_two_pow, Nat.testBit_div_two_pow, Nat.testBit_div_two_pow]
  by_cases hj : j < w
  · rw [h (j + p) (by omega) (by omega)]
  · rw [decide_eq_false hj]; rfl
theorem Agr.bit {X : ByteArray} {V W q : Nat} (h : Agr X V W) (h1 : q < W) (h2 : q < 8 * X.size) : sbit X q = V / 2 ^ q % 2 := by
  have h3 := h q h1 h2
  rw [Nat.testBit_eq_decide_div_mod_eq, Nat.testBit_eq_decide_div_mod_eq, decide_eq_decide] at h3
  have h4 := sbit_lt X q
  have h5 : V / 2 ^ q % 2 < 2 := Nat.mod_lt _ (by decide)
  unfold sbit at *
  omega
theorem bitsL_cons (p : Int × Int) (l : List (Int × Int)) : bitsL (p :: l) = bitsN p.1.toNat p.2.toNat ++ bitsL l := by
  unfold bitsL; rw [List.flatMap_cons]
theorem bitsL_one (n w : Nat) : (bitsL [((n : Int), (w : Int))]).length = w := by
  rw [bitsL_cons, List.length_append, bitsN_length]; simp [bitsL]
theorem at_piece {P a b : List (Int × Int)} {n w : Nat} (hP : P = a ++ ((n : Int), (w : Int)) :: b) (hn : n < 2 ^ w) : valN (bitsL P) / 2 ^ (bitsL a).length % 2 ^ w = n := by
  have h : P[a.length]? = some ((n : Int), (w : Int)) := by rw [hP]; simp
  have := piece_at h hn
  rwa [show P.take a.length = a by rw [hP]; simp] at this
theorem bits_le {P a b : List (Int × Int)} {n w : Nat} (hP : P = a ++ ((n : Int), (w : Int)) :: b) : (bitsL a).length + w ≤ (bitsL P).length := by
  rw [hP, bitsL_append, bitsL_cons, List.length_append, List.length_append, bitsN_length]
  simp
/-- A piece, read out of a text that agrees. -/
theorem Agr.piece {X : ByteArray} {P a b : List (Int × Int)} {n w : Nat} (h : Agr X (valN (bitsL P)) (bitsL P).length) (hP : P = a ++ ((n : Int), (w : Int)) :: b) (hn : n < 2 ^ w) (h2 : (bitsL a).length + w ≤ 8 * X.size) : numV X (bitsL a).length w = n := by
  rw [h.num (bits_le hP) h2]
  exact at_piece hP hn
def gN (g : List Int) (j : Nat) : Nat := (g.getD j 0).toNat
theorem numL_gN {g : List Int} (hl : g.length = 289) (h0 : ∀ x ∈ g, 0 ≤ x) : numL (gN g) = g := by
  refine List.ext_getElem? fun j => ?_
  by_cases hj : j < 289
  · obtain ⟨x, hx⟩ : ∃ x, g[j]? = some x := ⟨_, List.getElem?_eq_getElem (by omega)⟩
    have := h0 x (List.mem_of_getElem? hx)
    unfold numL gN
    rw [List.getElem?_map, List.getElem?_range hj, hx]
    show some ((((g.getD j 0).toNat : Nat)) : Int) = some x
    rw [getD_some hx, Int.toNat_of_nonneg this]
  · rw [List.getElem?_eq_none (by rw [numL_len]; omega), List.getElem?_eq_none (by omega)]
theorem tabP_bits {g : List Int} (h0 : ∀ x ∈ g, 0 ≤ x) : ∀ k, k ≤ g.length → (bitsL (tabP g k)).length = 13 * lng (g.take k) 0
  | 0, _ => rfl
  | k + 1, hk => by
    obtain ⟨x, hx⟩ : ∃ x, g[k]? = some x := ⟨_, List.getElem?_eq_getElem (by omega)⟩
    have hx0 := h0 x (List.mem_of_getElem? hx)
    have htk : g.take (k + 1) = g.take k ++ [x] := by rw [List.take_add_one, hx]; rfl
    have ih := tabP_bits h0 k (by omega)
    rw [tabP, getD_some hx, htk, lng_snoc, bitsL_append, List.length_append, ih]
    by_cases h : 0 < x
    · obtain ⟨n, rfl⟩ := Int.eq_ofNat_of_zero_le hx0
      rw [if_pos h, if_pos (by omega), bitsL_cons, bitsL_cons, List.length_append, List.length_append, bitsN_length, bitsN_length]
      simp [bitsL]
      omega
    · rw [if_neg h, if_neg (by omega)]; simp [bitsL]
theorem tabP_split (g : List Int) {k : Nat} : ∀ {m : Nat}, k ≤ m → ∃ r, tabP g m = tabP g k ++ r
  | 0, h => by obtain rfl : k = 0 := by omega
               exact ⟨[], rfl⟩
  | m + 1, h => by
    by_cases hk : k = m + 1
    · subst hk; exact ⟨[], by simp⟩
    · obtain ⟨r, hr⟩ := tabP_split g (k := k) (m := m) (by omega)
      exact ⟨_, by rw [tabP, hr, List.append_assoc]⟩
theorem lng_drop (g : List Int) (k : Nat) : lng g 0 = lng (g.take k) 0 + lng (g.drop k) 0 := by
  conv => lhs; rw [← List.take_append_drop k g]
  unfold lng; rw [List.countP_append]
/-- The rest of the table, read. -/
theorem tab_reads {X : ByteArray} {g : List Int} {P T : List (Int × Int)} (hA : Agr X (valN (bitsL P)) (bitsL P).length) (hl : g.length = 289) (h15 : ∀ x ∈ g, 0 ≤ x ∧ x ≤ 15) (hP : P = (((lng g 0 : Nat) : Int), 9) :: (tabP g 289 ++ T)) :
    ∀ (d k : Nat), k + d = 289 → ∀ (bf : Int), bf < (k : Int) → 9 + 13 * lng (g.take k) 0 ≤ 8 * X.size → ∃ r, tabR X (lng (g.drop k) 0) bf (fun j => if j < k then gN g j else 0) (9 + 13 * lng (g.take k) 0) = r ∧ (9 + 13 * lng g 0 ≤ 8 * X.size → r = (0, (fun j => if j < 289 then gN g j else 0), 9 + 13 * lng g 0)) ∧ (8 * X.size < 9 + 13 * lng g 0 → r.1 = 40)
  | 0, k, hk, bf, hbf, hp => by
    obtain rfl : k = 289 := by omega
    have hd : g.drop 289 = [] := List.drop_eq_nil_of_le (by omega)
    have ht : g.take 289 = g := List.take_of_length_le (by omega)
    rw [hd, ht]
    rw [ht] at hp
    exact ⟨_, rfl, fun h => rfl, fun h => absurd h (by omega)⟩
  | d + 1, k, hk, bf, hbf, hp => by
    obtain ⟨x, hx⟩ : ∃ x, g[k]? = some x := ⟨_, List.getElem?_eq_getElem (by omega)⟩
    have hx15 := h15 x (List.mem_of_getElem? hx)
    have htk : g.take (k + 1) = g.take k ++ [x] := by rw [List.take_add_one, hx]; rfl
    have hdr : g.drop k = x :: g.drop (k + 1) := by
      rw [List.drop_eq_getElem_cons (by omega)]
      congr 1
      exact (List.getElem?_eq_some_iff.1 hx).2
    have hsn := lng_snoc (g.take k) x 0
    rw [← htk] at hsn
    have hdl : lng (g.drop k) 0 = lng (g.drop (k + 1)) 0 + if 0 < x then 1 else 0 := by
      rw [hdr]
      unfold lng
      rw [List.countP_cons]
      congr 1
      by_cases h : 0 < x
      · rw [if_pos h, if_pos (by simpa using h)]
      · rw [if_neg h, if_neg (by simpa using h)]
    have hgk : gN g k = x.toNat := by unfold gN; rw [getD_some hx]
    have hld := lng_drop g k
    by_cases h0 : 0 < x
    rotate_left
    · have hx0 : x = 0 := by omega
      have hsn : lng (g.take (k + 1)) 0 = lng (g.take k) 0 := by rw [hsn, if_neg (by omega)]; rfl
      have hdl : lng (g.drop k) 0 = lng (g.drop (k + 1)) 0 := by rw [hdl, if_neg h0]; rfl
      have hf : (fun j => if j < k then gN g j else 0) = fun j => if j < k + 1 then gN g j else 0 := by
        funext j
        by_cases h1 : j < k
        · rw [if_pos h1, if_pos (by omega)]
        · rw [if_neg h1]
          by_cases h2 : j = k
          · rw [if_pos (by omega), h2, hgk, hx0]; rfl
          · rw [if_neg (by omega)]
      rw [hdl, hf, ← hsn]
      exact tab_reads hA hl h15 hP d (k + 1) (by omega) bf (by omega) (by rw [hsn]; exact hp)
    · obtain ⟨n, rfl⟩ := Int.eq_ofNat_of_zero_le hx15.1
      rw [if_pos (by omega)] at hsn
      rw [if_pos h0] at hdl
      rw [Int.toNat_natCast] at hgk
      obtain ⟨r, hr⟩ := tabP_split g (k := k + 1) (m := 289) (by omega)
      have htp : tabP g (k + 1) = tabP g k ++ [((k : Int), ((9 : Nat) : Int)), ((n : Int), ((4 : Nat) : Int))] := by rw [tabP, getD_some hx, if_pos h0]; rfl
      have hP1 : P = ((((lng g 0 : Nat) : Int), 9) :: tabP g k) ++ ((k : Int), ((9 : Nat) : Int)) :: (((n : Int), ((4 : Nat) : Int)) :: r ++ T) := by
        rw [hP, hr, htp]; simp
      have hP2 : P = ((((lng g 0 : Nat) : Int), 9) :: tabP g k ++ [((k : Int), ((9 : Nat) : Int))]) ++ ((n : Int), ((4 : Nat) : Int)) :: (r ++ T) := by
        rw [hP1]; simp
      have hb1 : (bitsL ((((lng g 0 : Nat) : Int), 9) :: tabP g k)).length = 9 + 13 * lng (g.take k) 0 := by
        rw [bitsL_cons, List.length_append, bitsN_length, tabP_bits (fun x hx => (h15 x hx).1) k (by omega)]; rfl
      have hb2 : (bitsL ((((lng g 0 : Nat) : Int), 9) :: tabP g k ++ [((k : Int), ((9 : Nat) : Int))])).length = 9 + 13 * lng (g.take k) 0 + 9 := by
        rw [bitsL_append, List.length_append, hb1, bitsL_one]
      rw [hdl, tabR]
      by_cases s9 : 8 * X.size < 9 + 13 * lng (g.take k) 0 + 9
      · rw [if_pos s9]
        exact ⟨_, rfl, fun h => absurd h (by omega), fun _ => rfl⟩
      rw [if_neg s9]
      by_cases s13 : 8 * X.size < 9 + 13 * lng (g.take k) 0 + 13
      · rw [if_pos s13]
        exact ⟨_, rfl, fun h => absurd h (by omega), fun _ => rfl⟩
      rw [if_neg s13]
      have v1 := hA.piece hP1 (show k < 2 ^ 9 by omega) (by rw [hb1]; omega)
      have v2 := hA.piece hP2 (show n < 2 ^ 4 by omega) (by rw [hb2]; omega)
      rw [hb1] at v1
      rw [hb2] at v2
      rw [v1, v2, if_neg (by omega)]
      have hf : (fun j => if j = k then n else if j < k then gN g j else 0) = fun j => if j < k + 1 then gN g j else 0 := by
        funext j
        by_cases h1 : j = k
        · rw [if_pos h1, if_pos (by omega), h1, hgk]
        · rw [if_neg h1]
          by_cases h2 : j < k
          · rw [if_pos h2, if_pos (by omega)]
          · rw [if_neg h2, if_neg (by omega)]
      rw [hf, show 9 + 13 * lng (g.take k) 0 + 13 = 9 + 13 * lng (g.take (k + 1)) 0 by rw [hsn]; omega]
      exact tab_reads hA hl h15 hP d (k + 1) (by omega) (k : Int) (by omega) (by rw [hsn]; omega)
/-- The table of what was squeezed. -/
theorem tableP_reads {X : ByteArray} {g : List Int} {P T : List (Int × Int)} (hA : Agr X (valN (bitsL P)) (bitsL P).length) (hl : g.length = 289) (hc : isCode g = true) (hend : gN g 288 ≠ 0) (hP : P = (((lng g 0 : Nat) : Int), 9) :: (tabP g 289 ++ T)) :
    (9 + 13 * lng g 0 ≤ 8 * X.size → ∃ f, tableP X = (0, f, 9 + 13 * lng g 0) ∧ numL f = g) ∧ (8 * X.size < 9 + 13 * lng g 0 → (tableP X).1 = 40) := by
  have h15 := (isCode_kr hc).2.2
  have hU := lng_le g 0
  by_cases h9 : 8 * X.size < 9
  · refine ⟨fun h => absurd h (by omega), fun _ => ?_⟩
    unfold tableP
    rw [if_pos h9]
  have v0 := hA.piece (a := []) (b := tabP g 289 ++ T) (n := lng g 0) (w := 9) (by rw [hP]; rfl) (by have : (2 : Nat) ^ 9 = 512 := rfl; omega) (by show 0 + 9 ≤ _; omega)
  have v0' : numV X 0 9 = lng g 0 := v0
  obtain ⟨r, h1, h2, h3⟩ := tab_reads hA hl h15 hP 289 0 rfl (-1) (by decide) (by show 9 + 13 * 0 ≤ _; omega)
  have h1' : tabR X (lng g 0) (-1) (fun _ => 0) 9 = r := h1
  have hT : tableP X = tabEnd r := by
    unfold tableP
    rw [if_neg h9, v0', if_neg (by omega), h1']
  rw [hT]
  have hnl : numL (fun j => if j < 289 then gN g j else 0) = g := by
    conv => rhs; rw [← numL_gN hl (fun x hx => (h15 x hx).1)]
    unfold numL
    refine List.map_congr_left fun j hj => ?_
    have := List.mem_range.1 hj
    show ((if j < 289 then gN g j else 0 : Nat) : Int) = _
    rw [if_pos this]
  refine ⟨fun h => ⟨_, ?_, hnl⟩, fun h => ?_⟩
  · rw [h2 h]
    unfold tabEnd
    rw [if_neg (by simp), if_pos ⟨by rw [show (0, (fun j => if j < 289 then gN g j else 0), 9 + 13 * lng g 0).2.1 = (fun j => if j < 289 then gN g j else 0) from rfl, hnl]; exact hc, hend⟩]
  · have := h3 h
    unfold tabEnd
    rw [if_pos (by rw [this]; decide)]
    exact this
end Go.Fw

set_option linter.unusedSimpArgs false
set_option linter.unusedVariables false
set_option maxRecDepth 4000
namespace Go.Fw
open Go.Proofs Go.RowKit
/-! What was squeezed, read again: its tokens. -/
theorem nextG_short {l : List Int} (hc : isCode l = true) {bit : Nat → Nat} {size p t k w : Nat} (ht : l[t]? = some (k : Int)) (hk1 : 1 ≤ k) (hw : w = wrd l t k) (hbit : ∀ j, j < k → p + j < size → bit (p + j) = w / 2 ^ (k - 1 - j) % 2) (hsz : size < p + k) :
    ∀ (f k' : Nat), k' < k → k ≤ k' + f → (nextG l bit size f k' (w / 2 ^ (k - k')) (p + k')).2.1 = 40
  | 0, k', h1, h2 => by omega
  | f + 1, k', h1, h2 => by
    obtain ⟨hkr, _, h15⟩ := isCode_kr hc
    have hk15 := (h15 _ (List.mem_of_getElem? ht)).2
    rw [nextG]
    by_cases hs : size ≤ p + k'
    · rw [if_pos hs]
    rw [if_neg hs]
    have hpow : 2 ^ (k - k') = 2 ^ (k - 1 - k') * 2 := by rw [← Nat.pow_succ]; congr 1; omega
    have hstep : 2 * (w / 2 ^ (k - k')) + bit (p + k') = w / 2 ^ (k - 1 - k') := by
      rw [hbit k' h1 (by omega), hpow, ← Nat.div_div_eq_div_mul]
      omega
    rw [hstep]
    have hfar := bs_far (l := l) (k := k' + 1) (k' := k) (by omega) (by omega) (by omega)
    have hwe : w = bs l k + mny (l.take t) k := hw
    have hge := (Nat.le_div_iff_mul_le (Nat.pow_pos (by decide : 0 < 2))).2 (show (bs l (k' + 1) + mny l (k' + 1)) * 2 ^ (k - (k' + 1)) ≤ w by omega)
    rw [show k - (k' + 1) = k - 1 - k' by omega] at hge
    rw [if_neg (by omega), if_neg (lng_of ht (by omega))]
    have ih := nextG_short hc ht hk1 hw hbit hsz f (k' + 1) (by omega) (by omega)
    rw [show k - (k' + 1) = k - 1 - k' by omega] at ih
    exact ih
theorem code_bits {V p k w j : Nat} (h : V / 2 ^ p % 2 ^ k = rv k w) (hj : j < k) : V / 2 ^ (p + j) % 2 = w / 2 ^ (k - 1 - j) % 2 := by
  have h1 := congrArg (fun n => n.testBit j) h
  simp only [rv_bit, Nat.testBit_mod_two_pow, Nat.testBit_div_two_pow] at h1
  rw [decide_eq_true hj, Bool.true_and, Bool.true_and, Nat.testBit_eq_decide_div_mod_eq, Nat.testBit_eq_decide_div_mod_eq, decide_eq_decide] at h1
  have h2 : V / 2 ^ (j + p) % 2 < 2 := Nat.mod_lt _ (by decide)
  have h3 : w / 2 ^ (k - 1 - j) % 2 < 2 := Nat.mod_lt _ (by decide)
  rw [Nat.add_comm p j]
  omega
theorem next_code {X : ByteArray} {g : List Int} {P a b : List (Int × Int)} {t k : Nat} (hA : Agr X (valN (bitsL P)) (bitsL P).length) (hc : isCode g = true) (ht : g[t]? = some (k : Int)) (hk1 : 1 ≤ k) (hP : P = a ++ pieceAt g t :: b) :
    ((bitsL a).length + k ≤ 8 * X.size → nextP g (sbit X) (8 * X.size) (bitsL a).length = (((t : Nat) : Int), 0, (bitsL a).length + k)) ∧ (8 * X.size < (bitsL a).length + k → (nextP g (sbit X) (8 * X.size) (bitsL a).length).2.1 = 40) := by
  obtain ⟨hkr, _, h15⟩ := isCode_kr hc
  have hk15 := (h15 _ (List.mem_of_getElem? ht)).2
  rw [pieceAt_some ht hk1] at hP
  have hv := at_piece hP (rv_lt _ _)
  have hle := bits_le hP
  have hwl := wrd_lt hkr hk1 (by omega) ht
  have hbit : ∀ j, j < k → (bitsL a).length + j < 8 * X.size → sbit X ((bitsL a).length + j) = wrd g t k / 2 ^ (k - 1 - j) % 2 := fun j hj hs => by
    rw [hA.bit (by omega) hs]
    exact code_bits hv hj
  have hz : wrd g t k / 2 ^ (k - 0) = 0 := Nat.div_eq_of_lt (by rw [Nat.sub_zero]; exact hwl)
  unfold nextP
  rw [if_pos hc]
  refine ⟨fun h => ?_, fun h => ?_⟩
  · have := nextG_reads hc (size := 8 * X.size) ht hk1 rfl (fun j hj => hbit j hj (by omega)) h 15 0 hk1 (by omega)
    rw [hz] at this
    exact this
  · have := nextG_short hc (size := 8 * X.size) ht hk1 rfl hbit h 15 0 hk1 (by omega)
    rw [hz] at this
    exact this
/-- Tokens, joined. -/
def decT (acc : List Int) (t : Tok) : List Int := if t.2.1 = 0 then acc ++ [t.1] else copyN t.2.2.toNat t.2.1.toNat acc
def decL (acc : List Int) : List Tok → List Int
  | [] => acc
  | t :: L => decL (decT acc t) L
def Vld (acc : List Int) : List Tok → Prop
  | [] => True
  | t :: L => TokS t ∧ (t.2.1 ≠ 0 → t.2.2 ≤ (acc.length : Int)) ∧ Vld (decT acc t) L
theorem decT_len (acc : List Int) (t : Tok) : acc.length ≤ (decT acc t).length := by
  unfold decT
  split
  · simp
  · rw [copyN_len]; omega
theorem decL_len : ∀ (L : List Tok) (acc : List Int), acc.length ≤ (decL acc L).length
  | [], acc => Nat.le_refl _
  | t :: L, acc => Nat.le_trans (decT_len acc t) (decL_len L (decT acc t))
/-- A symbol's word. -/
def Has (g : List Int) (k : Nat) : Prop := ∃ x : Nat, g[k]? = some (x : Int) ∧ 1 ≤ x
theorem exp_reads {X : ByteArray} {g : List Int} {P : List (Int × Int)} {f : Nat → Nat} {most : Int} (hA : Agr X (valN (bitsL P)) (bitsL P).length) (hc : isCode g = true) (hf : numL f = g) (h288 : Has g 288) :
    ∀ (L : List Tok) (a : List (Int × Int)) (acc : List Int) (n : Nat), P = a ++ (L.flatMap (tokP g) ++ [pieceAt g 288]) → Vld acc L → (∀ t ∈ L, ∀ k : Nat, symP t = ((k : Int), true) → Has g k) → 8 * X.size + 1 ≤ n + (bitsL a).length → (acc.length : Int) ≤ most → (bitsL a).length ≤ 8 * X.size →
      ((bitsL P).length ≤ 8 * X.size → expR X f most n acc (bitsL a).length = if ((decL acc L).length : Int) > most then (.empty, 90) else if endS X (bitsL P).length ≠ 0 then (.empty, endS X (bitsL P).length) else (strOfNums (decL acc L), 0)) ∧
      (8 * X.size < (bitsL P).length → ((decL acc L).length : Int) ≤ most → expR X f most n acc (bitsL a).length = (.empty, 40))
  | [], a, acc, 0, hP, hV, hh, hn, hm, ha => by omega
  | [], a, acc, n + 1, hP, hV, hh, hn, hm, ha => by
    obtain ⟨x, hx, hx1⟩ := h288
    have hP' : P = a ++ pieceAt g 288 :: [] := by rw [hP]; rfl
    obtain ⟨h1, h2⟩ := next_code hA hc hx hx1 hP'
    have hlen : (bitsL P).length = (bitsL a).length + x := by
      rw [hP', pieceAt_some hx hx1, bitsL_append, List.length_append, bitsL_one]
    rw [expR]
    unfold tokenP
    rw [hf]
    refine ⟨fun h => ?_, fun h _ => ?_⟩
    · rw [h1 (by omega)]
      have : tokenX X (((288 : Nat) : Int), 0, (bitsL a).length + x) = (0, (0, 0, 0), false, (bitsL a).length + x) := by
        unfold tokenX
        rw [if_neg (by simp), if_pos (by rfl)]
      rw [this, if_neg (by simp), if_pos rfl, ← hlen, if_neg (show ¬ ((decL acc []).length : Int) > most by unfold decL; omega)]
      rfl
    · have h3 := h2 (by omega)
      generalize nextP g (sbit X) (8 * X.size) (bitsL a).length = y at *
      have : tokenX X y = (40, (0, 0, 0), false, y.2.2) := by
        unfold tokenX
        rw [if_pos (by rw [h3]; decide), h3]
      rw [this, if_pos (by simp)]
  | t :: L, a, acc, 0, hP, hV, hh, hn, hm, ha => by omega
  | t :: L, a, acc, n + 1, hP, hV, hh, hn, hm, ha => by
    obtain ⟨hS, hb, hV'⟩ := hV
    have hh' := fun u hu => hh u (List.mem_cons_of_mem _ hu)
    have hdl := decL_len L (decT acc t)
    rw [expR]
    unfold tokenP
    rw [hf]
    obtain ⟨c, nn, bk⟩ := t
    rcases hS with ⟨z1, z2, z3, z4⟩ | ⟨z1, z2, z3, z4, z5⟩
    · simp only at z1 z2 z3 z4
      subst z1 z4
      obtain ⟨k, rfl⟩ := Int.eq_ofNat_of_zero_le z2
      obtain ⟨x, hx, hx1⟩ := hh _ List.mem_cons_self k rfl
      have htp : tokP g ((k : Int), 0, 0) = [pieceAt g k] := by unfold tokP; rw [if_pos rfl]; rfl
      have hP' : P = a ++ pieceAt g k :: (L.flatMap (tokP g) ++ [pieceAt g 288]) := by rw [hP, List.flatMap_cons, htp]; rfl
      have hP2 : P = (a ++ [pieceAt g k]) ++ (L.flatMap (tokP g) ++ [pieceAt g 288]) := by rw [hP']; simp
      obtain ⟨h1, h2⟩ := next_code hA hc hx hx1 hP'
      have hla : (bitsL (a ++ [pieceAt g k])).length = (bitsL a).length + x := by
        rw [pieceAt_some hx hx1, bitsL_append, List.length_append, bitsL_one]
      have hlP : (bitsL (a ++ [pieceAt g k])).length ≤ (bitsL P).length := by rw [hP2, bitsL_append (a ++ [pieceAt g k]), List.length_append]; omega
      have hdt : decT acc ((k : Int), 0, 0) = acc ++ [(k : Int)] := if_pos rfl
      have hdc : decL acc (((k : Int), 0, 0) :: L) = decL (acc ++ [(k : Int)]) L := by rw [decL, hdt]
      rw [hdt] at hV' hdl
      rw [hdc]
      by_cases hsh : 8 * X.size < (bitsL a).length + x
      · have h3 := h2 hsh
        generalize nextP g (sbit X) (8 * X.size) (bitsL a).length = y at *
        have : tokenX X y = (40, (0, 0, 0), false, y.2.2) := by
          unfold tokenX
          rw [if_pos (by rw [h3]; decide), h3]
        rw [this, if_pos (by simp)]
        exact ⟨fun h => absurd h (by omega), fun _ _ => rfl⟩
      rw [h1 (by omega)]
      have : tokenX X (((k : Nat) : Int), 0, (bitsL a).length + x) = (0, ((k : Int), 0, 0), true, (bitsL a).length + x) := by
        unfold tokenX
        rw [if_neg (by simp), if_neg (by simp only; omega), if_pos (by simp only; omega)]
      rw [this, if_neg (by simp), if_neg (by simp), if_pos rfl]
      simp only
      by_cases hm2 : ((acc.length + 1 : Nat) : Int) > most
      · rw [if_pos hm2]
        rw [List.length_append, List.length_singleton] at hdl
        exact ⟨fun h => by rw [if_pos (by omega)], fun _ h => absurd h (by omega)⟩
      · rw [if_neg hm2, ← hla]
        exact exp_reads hA hc hf h288 L _ _ n hP2 hV' hh' (by omega) (by rw [List.length_append, List.length_singleton]; omega) (by omega)
    · simp only at z1 z2 z3 z4 z5
      subst z1
      obtain ⟨N, rfl⟩ := Int.eq_ofNat_of_zero_le (show 0 ≤ nn by omega)
      obtain ⟨M, hM⟩ := Int.eq_ofNat_of_zero_le (show 0 ≤ bk - 1 by omega)
      obtain rfl : bk = ((M + 1 : Nat) : Int) := by omega
      have hsy : symP (0, (N : Int), ((M + 1 : Nat) : Int)) = (((N + 253 : Nat) : Int), true) := by rw [symP_yes z2 z3]; rfl
      obtain ⟨x, hx, hx1⟩ := hh _ List.mem_cons_self (N + 253) hsy
      have htp : tokP g (0, (N : Int), ((M + 1 : Nat) : Int)) = [pieceAt g (N + 253), ((M : Int), ((9 : Nat) : Int))] := by
        unfold tokP
        rw [if_neg (show ¬ (N : Int) = 0 by omega), hM]; rfl
      have hP' : P = a ++ pieceAt g (N + 253) :: (((M : Int), ((9 : Nat) : Int)) :: (L.flatMap (tokP g) ++ [pieceAt g 288])) := by rw [hP, List.flatMap_cons, htp]; rfl
      have hP1 : P = (a ++ [pieceAt g (N + 253)]) ++ ((M : Int), ((9 : Nat) : Int)) :: (L.flatMap (tokP g) ++ [pieceAt g 288]) := by rw [hP']; simp
      have hP2 : P = (a ++ [pieceAt g (N + 253)] ++ [((M : Int), ((9 : Nat) : Int))]) ++ (L.flatMap (tokP g) ++ [pieceAt g 288]) := by rw [hP1]; simp
      obtain ⟨h1, h2⟩ := next_code hA hc hx hx1 hP'
      have hla : (bitsL (a ++ [pieceAt g (N + 253)])).length = (bitsL a).length + x := by
        rw [pieceAt_some hx hx1, bitsL_append, List.length_append, bitsL_one]
      have hla2 : (bitsL (a ++ [pieceAt g (N + 253)] ++ [((M : Int), ((9 : Nat) : Int))])).length = (bitsL a).length + x + 9 := by
        rw [bitsL_append, List.length_append, hla, bitsL_one]
      have hlP : (bitsL (a ++ [pieceAt g (N + 253)] ++ [((M : Int), ((9 : Nat) : Int))])).length ≤ (bitsL P).length := by rw [hP2, bitsL_append (a ++ [pieceAt g (N + 253)] ++ [((M : Int), ((9 : Nat) : Int))]), List.length_append]; omega
      have hdt : decT acc (0, (N : Int), ((M + 1 : Nat) : Int)) = copyN (M + 1) N acc := if_neg (show ¬ (N : Int) = 0 by omega)
      have hdc : decL acc ((0, (N : Int), ((M + 1 : Nat) : Int)) :: L) = decL (copyN (M + 1) N acc) L := by rw [decL, hdt]
      have hb' := hb (show (N : Int) ≠ 0 by omega)
      simp only at hb'
      rw [hdt] at hV' hdl
      rw [hdc]
      by_cases hsh : 8 * X.size < (bitsL a).length + x
      · have h3 := h2 hsh
        generalize nextP g (sbit X) (8 * X.size) (bitsL a).length = y at *
        have : tokenX X y = (40, (0, 0, 0), false, y.2.2) := by
          unfold tokenX
          rw [if_pos (by rw [h3]; decide), h3]
        rw [this, if_pos (by simp)]
        exact ⟨fun h => absurd h (by omega), fun _ _ => rfl⟩
      rw [h1 (by omega)]
      by_cases hsh9 : 8 * X.size < (bitsL a).length + x + 9
      · have : tokenX X (((N + 253 : Nat) : Int), 0, (bitsL a).length + x) = (40, (0, 0, 0), false, (bitsL a).length + x) := by
          unfold tokenX
          rw [if_neg (by simp), if_neg (by simp only; omega), if_neg (by simp only; omega), if_pos (by simp only; omega)]
        rw [this, if_pos (by simp)]
        exact ⟨fun h => absurd h (by omega), fun _ _ => rfl⟩
      have hv := hA.piece hP1 (show M < 2 ^ 9 by have : (2 : Nat) ^ 9 = 512 := rfl; omega) (by rw [hla]; omega)
      rw [hla] at hv
      have : tokenX X (((N + 253 : Nat) : Int), 0, (bitsL a).length + x) = (0, (0, (N : Int), ((M + 1 : Nat) : Int)), true, (bitsL a).length + x + 9) := by
        unfold tokenX
        rw [if_neg (by simp), if_neg (by simp only; omega), if_neg (by simp only; omega), if_neg (by simp only; omega)]
        simp only [hv]
        rw [show ((N + 253 : Nat) : Int) - 253 = (N : Int) by omega]
      rw [this, if_neg (by simp), if_neg (by simp), if_neg (show ¬ (N : Int) = 0 by omega), if_neg (show ¬ ((M + 1 : Nat) : Int) > (acc.length : Int) by omega)]
      simp only [Int.toNat_natCast]
      by_cases hm2 : ((copyN (M + 1) N acc).length : Int) > most
      · rw [if_pos hm2]
        exact ⟨fun h => by rw [if_pos (by omega)], fun _ h => absurd h (by omega)⟩
      · rw [if_neg hm2, ← hla2]
        exact exp_reads hA hc hf h288 L _ _ n hP2 hV' hh' (by omega) (by omega) (by omega)
end Go.Fw

set_option linter.unusedSimpArgs false
set_option linter.unusedVariables false
set_option maxRecDepth 4000
namespace Go.Fw
open Go.Proofs Go.RowKit
/-! What was squeezed is expanded. -/
theorem take_more {s : ByteArray} {q : Nat} (h : q < s.size) : (nums s).take (q + 1) = (nums s).take q ++ [sbt s q] := by
  rw [List.take_add_one, sbt_nums s q h]; rfl
theorem copy_take {s : ByteArray} {b : Nat} (hb1 : 1 ≤ b) : ∀ (i q : Nat), b ≤ q → q + i ≤ s.size → (∀ j, j < i → sbt s (q - b + j) = sbt s (q + j)) → copyN b i ((nums s).take q) = (nums s).take (q + i)
  | 0, q, _, _, _ => rfl
  | i + 1, q, hb, hq, h => by
    have hl : ((nums s).take q).length = q := by rw [List.length_take, nums_length]; omega
    rw [copyN, hl]
    have h0 : ((nums s).take q).getD (q - b) 0 = sbt s q := by
      have h1 : ((nums s).take q)[q - b]? = some (sbt s (q - b)) := by rw [List.getElem?_take, if_pos (by omega), sbt_nums s _ (by omega)]
      rw [getD_some h1]
      have := h 0 (by omega)
      simpa using this
    rw [h0, ← take_more (by omega), copy_take hb1 i (q + 1) (by omega) (by omega) (fun j hj => by
      have := h (j + 1) (by omega)
      rw [show q + 1 - b + j = q - b + (j + 1) by omega, show q + 1 + j = q + (j + 1) by omega]
      exact this)]
    congr 1; omega
theorem dec_splitN (s : ByteArray) : ∀ (k p : Nat), s.size - p ≤ k → p ≤ s.size → decL ((nums s).take p) (splitN s k p) = nums s ∧ Vld ((nums s).take p) (splitN s k p)
  | 0, p, hk, hp => by
    obtain rfl : p = s.size := by omega
    exact ⟨List.take_of_length_le (by rw [nums_length]; exact Nat.le_refl _), trivial⟩
  | k + 1, p, hk, hp => by
    by_cases hps : p < s.size
    rotate_left
    · rw [splitN_stop hps]
      obtain rfl : p = s.size := by omega
      exact ⟨List.take_of_length_le (by rw [nums_length]; exact Nat.le_refl _), trivial⟩
    have hS := splitN_S s (k + 1) p
    rw [splitN, if_pos hps] at hS ⊢
    have hl : ((nums s).take p).length = p := by rw [List.length_take, nums_length]; omega
    by_cases hz : (matM s p).1 = 0
    · rw [if_pos hz] at hS ⊢
      have hd : decT ((nums s).take p) (sbt s p, 0, 0) = (nums s).take (p + 1) := by rw [take_more hps]; exact if_pos rfl
      obtain ⟨h1, h2⟩ := dec_splitN s k (p + 1) (by omega) (by omega)
      rw [decL, Vld, hd]
      exact ⟨h1, hS _ List.mem_cons_self, fun h => absurd rfl h, h2⟩
    · rw [if_neg hz] at hS ⊢
      rcases matM_law s p with h | ⟨h1, h2, h3, h4, h5⟩
      · rw [h] at hz; exact absurd rfl hz
      have hle := run_le2 s (p - (matM s p).2) p
      rw [← h5] at hle
      have hd : decT ((nums s).take p) (0, (((matM s p).1 : Nat) : Int), (((matM s p).2 : Nat) : Int)) = (nums s).take (p + (matM s p).1) := by
        unfold decT
        rw [if_neg (show ¬ (((matM s p).1 : Nat) : Int) = 0 by omega)]
        simp only [Int.toNat_natCast]
        refine copy_take h2 _ _ h3 (by omega) fun j hj => ?_
        rw [h5] at hj
        exact runN_at s _ _ _ j hj
      obtain ⟨g1, g2⟩ := dec_splitN s k (p + (matM s p).1) (by omega) (by omega)
      rw [decL, Vld, hd]
      exact ⟨g1, hS _ List.mem_cons_self, fun _ => by rw [hl]; show (((matM s p).2 : Nat) : Int) ≤ (p : Int); omega, g2⟩
theorem dec_split (s : ByteArray) : decL [] (splitL s) = nums s ∧ Vld [] (splitL s) := dec_splitN s s.size 0 (by omega) (Nat.zero_le _)
/-- The bits of a squeezed text, and how many. -/
def sqB (s : ByteArray) : Nat := valN (bitsL (sqP s))
def sqW (s : ByteArray) : Nat := (bitsL (sqP s)).length
theorem exp_all {s X : ByteArray} (h : s.size ≤ 4096) (hA : Agr X (sqB s) (sqW s)) {most : Int} (h0 : 0 ≤ most) :
    (sqW s ≤ 8 * X.size → expandP X most = if (s.size : Int) > most then (.empty, 90) else if endS X (sqW s) ≠ 0 then (.empty, endS X (sqW s)) else (s, 0)) ∧
    (8 * X.size < sqW s → (s.size : Int) ≤ most → expandP X most = (.empty, 40)) := by
  have hq := sq_ok h
  obtain ⟨hd1, hd2⟩ := dec_split s
  have hP : sqP s = (((lng (sqL s) 0 : Nat) : Int), 9) :: (tabP (sqL s) 289 ++ ((splitL s).flatMap (tokP (sqL s)) ++ [pieceAt (sqL s) 288])) := rfl
  have hP2 : sqP s = ((((lng (sqL s) 0 : Nat) : Int), 9) :: tabP (sqL s) 289) ++ ((splitL s).flatMap (tokP (sqL s)) ++ [pieceAt (sqL s) 288]) := rfl
  have hhas : ∀ k, k < 289 → freqF (splitL s) k ≠ 0 → Has (sqL s) k := fun k hk hf => by
    obtain ⟨x, hx, _, h2⟩ := hq.used k hk
    exact ⟨x, hx, h2.2 hf⟩
  have h288 : Has (sqL s) 288 := hhas 288 (by decide) (by unfold freqF; simp)
  have hg0 : gN (sqL s) 288 ≠ 0 := by
    obtain ⟨x, hx, hx1⟩ := h288
    unfold gN
    rw [getD_some hx]; omega
  obtain ⟨t1, t2⟩ := tableP_reads hA hq.len hq.code hg0 hP
  have h15 := (isCode_kr hq.code).2.2
  have hla : (bitsL ((((lng (sqL s) 0 : Nat) : Int), 9) :: tabP (sqL s) 289)).length = 9 + 13 * lng (sqL s) 0 := by
    rw [bitsL_cons, List.length_append, bitsN_length, tabP_bits (fun x hx => (h15 x hx).1) 289 (by rw [hq.len]; exact Nat.le_refl _), List.take_of_length_le (by rw [hq.len]; exact Nat.le_refl _)]; rfl
  have hlW : 9 + 13 * lng (sqL s) 0 ≤ sqW s := by
    unfold sqW
    rw [hP2, bitsL_append, List.length_append, hla]; omega
  have hsym : ∀ t ∈ splitL s, ∀ k : Nat, symP t = ((k : Int), true) → Has (sqL s) k := fun t ht k hk => by
    have := symP_lt (splitL_S s t ht).b
    rw [hk] at this
    exact hhas k (by have := this.2; simp only at this; omega) (sym_used ht hk)
  have hsz : (decL [] (splitL s)).length = s.size := by rw [hd1, nums_length]
  by_cases htab : 9 + 13 * lng (sqL s) 0 ≤ 8 * X.size
  · obtain ⟨f, hf1, hf2⟩ := t1 htab
    have hE : expandP X most = expR X f most (8 * X.size + 1) [] (9 + 13 * lng (sqL s) 0) := by
      unfold expandP
      rw [hf1, if_neg (by simp)]
    obtain ⟨r1, r2⟩ := exp_reads (most := most) hA hq.code hf2 h288 (splitL s) _ [] (8 * X.size + 1) hP2 hd2 hsym (by omega) (by simpa using h0) (by rw [hla]; exact htab)
    rw [hla] at r1 r2
    refine ⟨fun hW => ?_, fun hW hm => ?_⟩
    · rw [hE, r1 hW, hsz, hd1, str_nums]; rfl
    · rw [hE]; exact r2 hW (by rw [hsz]; exact hm)
  · refine ⟨fun hW => absurd hW (by omega), fun _ _ => ?_⟩
    have := t2 (by omega)
    unfold expandP
    rw [if_pos (by rw [this]; decide), this]
/-- A squeezed text. -/
def sqT (s : ByteArray) : ByteArray := (squeezeP s).1
theorem sqT_facts {s : ByteArray} (h : s.size ≤ 4096) : squeezeP s = (sqT s, 0) ∧ strV (sqT s) = sqB s ∧ (sqT s).size = (sqW s + 7) / 8 ∧ 0 < sqW s ∧ sqB s < 2 ^ sqW s := by
  obtain ⟨h1, h2⟩ := sqP_ok h
  have hs : squeezeP s = packS (sqP s) := by unfold squeezeP; rw [if_neg (by omega)]
  have h3 : (packS (sqP s)).2 = 0 := by rw [packS_ok h1 h2]
  unfold sqT
  rw [hs]
  refine ⟨Prod.ext rfl h3, packS_V h1 h2, packS_size h1 h2, ?_, valN_lt _ (bits_L _)⟩
  unfold sqW sqP
  rw [bitsL_cons, List.length_append, bitsN_length]
  show 0 < 9 + _
  omega
theorem agr_self {s : ByteArray} (h : s.size ≤ 4096) : Agr (sqT s) (sqB s) (sqW s) := fun q _ _ => by rw [(sqT_facts h).2.1]
theorem strV_append (a b : ByteArray) : strV (a ++ b) = 256 ^ a.size * strV b + strV a := by
  unfold strV
  rw [nums_append, leV_append, nums_length]; omega
theorem strV_cut (t : ByteArray) (c : Nat) : strV (t.extract 0 c) = strV t % 256 ^ min c t.size := by
  unfold strV
  rw [nums_extract, List.drop_zero, Nat.sub_zero]
  have h1 := leV_append ((nums t).take c) ((nums t).drop c)
  rw [List.take_append_drop] at h1
  have hb := leV_lt ((nums t).take c) (fun x hx => nums_byte t x (List.mem_of_mem_take hx))
  have hl : ((nums t).take c).length = min c t.size := by rw [List.length_take, nums_length]
  rw [hl] at h1 hb
  rw [h1, Nat.add_mul_mod_self_left, Nat.mod_eq_of_lt hb]
theorem agr_more {s z : ByteArray} (h : s.size ≤ 4096) : Agr (sqT s ++ z) (sqB s) (sqW s) := fun q hq _ => by
  obtain ⟨_, h2, h3, _, h5⟩ := sqT_facts h
  rw [strV_append, pow256, Nat.testBit_two_pow_mul_add _ (by rw [← pow256]; rw [pow256]; exact strV_lt (sqT s)), if_pos (by omega), h2]
theorem agr_cut {s : ByteArray} (h : s.size ≤ 4096) {c : Nat} (hc : c ≤ (sqT s).size) : Agr ((sqT s).extract 0 c) (sqB s) (sqW s) := fun q hq hqs => by
  obtain ⟨_, h2, h3, _, _⟩ := sqT_facts h
  have hsz : ((sqT s).extract 0 c).size = c := by simp [ByteArray.size_extract]; omega
  rw [hsz] at hqs
  rw [strV_cut, pow256, Nat.testBit_mod_two_pow, Nat.min_eq_left hc, decide_eq_true hqs, h2]; rfl
theorem end_self {s : ByteArray} (h : s.size ≤ 4096) : endS (sqT s) (sqW s) = 0 := by
  obtain ⟨_, h2, h3, _, h5⟩ := sqT_facts h
  unfold endS
  rw [if_neg]
  rintro (h | h)
  · omega
  · exact h (by rw [h2]; exact Nat.div_eq_of_lt h5)
theorem exp_self {s : ByteArray} (h : s.size ≤ 4096) {most : Int} (hm : (s.size : Int) ≤ most) : expandP (sqT s) most = (s, 0) := by
  obtain ⟨_, _, h3, _, _⟩ := sqT_facts h
  rw [(exp_all h (agr_self h) (by omega)).1 (by omega), if_neg (by omega), end_self h, if_neg (by simp)]
theorem exp_less {s : ByteArray} (h : s.size ≤ 4096) {most : Int} (h0 : 0 ≤ most) (hm : (s.size : Int) > most) : expandP (sqT s) most = (.empty, 90) := by
  obtain ⟨_, _, h3, _, _⟩ := sqT_facts h
  rw [(exp_all h (agr_self h) h0).1 (by omega), if_pos hm]
theorem exp_cut {s : ByteArray} (h : s.size ≤ 4096) {c : Nat} (hc : c < (sqT s).size) {most : Int} (hm : (s.size : Int) ≤ most) : expandP ((sqT s).extract 0 c) most = (.empty, 40) := by
  obtain ⟨_, _, h3, _, _⟩ := sqT_facts h
  have hsz : ((sqT s).extract 0 c).size = c := by simp [ByteArray.size_extract]; omega
  exact (exp_all h (agr_cut h (by omega)) (by omega)).2 (by rw [hsz]; omega) hm
theorem exp_more {s z : ByteArray} (h : s.size ≤ 4096) (hz : 0 < z.size) {most : Int} (hm : (s.size : Int) ≤ most) : expandP (sqT s ++ z) most = (.empty, 42) := by
  obtain ⟨_, _, h3, _, _⟩ := sqT_facts h
  have hsz : (sqT s ++ z).size = (sqT s).size + z.size := ByteArray.size_append
  have he : endS (sqT s ++ z) (sqW s) = 42 := by
    unfold endS
    rw [if_pos (.inl (by rw [hsz]; omega))]
  rw [(exp_all h (agr_more h) (by omega)).1 (by rw [hsz]; omega), if_neg (by omega), he, if_pos (by decide)]
end Go.Fw

set_option linter.unusedSimpArgs false
set_option linter.unusedVariables false
set_option maxRecDepth 4000
namespace Go.Fw
open Go.Proofs Go.RowKit
/-! The laws' common parts. -/
theorem Try.enters9 : Enters Try.prog 9 := enters_of Try.func9 rfl (by kernel_rfl)
theorem bits24 (l : List (Int × Int)) (hl : ∀ p ∈ l, PcOk p) (hm : packOk l = true) : (bitsL l).length ≤ 24 * l.length := by
  have h := packW_le l l.length
  rw [List.take_length, packW_b l hl hm] at h
  exact h
theorem sqT_size {s : ByteArray} (h : s.size ≤ 4096) : (sqT s).size ≤ 100000 := by
  obtain ⟨_, _, h3, _, _⟩ := sqT_facts h
  obtain ⟨h1, h2⟩ := sqP_ok h
  have h4 := bits24 _ h1 h2
  have h5 := sqP_len (s := s)
  unfold sqW at h3
  omega
theorem sqz_ok (w0 : World) (A : St) {s : ByteArray} (h : s.size ≤ 4096) : ACalls Try.prog w0 10 #[.string s] A (fin (.tuple #[.string (sqT s), .int .i64 0]) A) := by
  have := squeeze_ok w0 A s (by omega)
  unfold sqV at this
  rw [(sqT_facts h).1] at this
  exact this
theorem expd_ok (w0 : World) (A : St) {X : ByteArray} {most : Int} {r : ByteArray × Int} (hX : X.size ≤ 1000000) (hr : expandP X most = r) : ACalls Try.prog w0 12 #[.string X, .int .i64 most] A (fin (.tuple #[.string r.1, .int .i64 r.2]) A) := by
  have := expand_ok w0 A X most hX
  unfold expV at this
  rw [hr] at this
  exact this
def sAbc : ByteArray := ⟨#[97, 98, 99, 97, 98, 99, 97, 98, 99]⟩
set_option maxHeartbeats 1000000 in
theorem shown_ok (w0 : World) (A : St) : ACalls Try.prog w0 9 #[] A (fin (.bool true) A) := by
  refine call_E (l := []) Try.enters9 Try.func9 rfl (Nat.le_of_ble_eq_true rfl) fun hw hbd => ?_
  have hsz : sAbc.size = 9 := rfl
  have hT := sqT_size (s := sAbc) (by rw [hsz]; decide)
  simp (maxSteps := 1000000) (disch := first | omega | (simp only [Fw.z1, Fw.z2, Fw.z3, Fw.z4, Fw.z5, Fw.z6, Fw.z7] <;> omega) | fail) only [go_sem, Try.ntmps9, Try.results9]
  refine call1 (sqz_ok w0 A (s := sAbc) (by rw [hsz]; decide)) ?_
  simp (maxSteps := 1000000) (disch := first | omega | (simp only [Fw.z1, Fw.z2, Fw.z3, Fw.z4, Fw.z5, Fw.z6, Fw.z7] <;> omega) | fail) only [go_sem]
  refine call1 (expd_ok w0 A (X := sqT sAbc) (most := 9) (r := (sAbc, 0)) (by omega) (exp_self (by rw [hsz]; decide) (by rw [hsz]; decide))) ?_
  have hb : (sAbc == (⟨#[97, 98, 99, 97, 98, 99, 97, 98, 99]⟩ : ByteArray)) = true := by
    show (sAbc == sAbc) = true
    rw [beqBytes]; simp
  simp (maxSteps := 1000000) (disch := first | omega | (simp only [Fw.z1, Fw.z2, Fw.z3, Fw.z4, Fw.z5, Fw.z6, Fw.z7] <;> omega) | fail) only [go_sem, hb, Try.results9]
  exact gc_fin' hw (Over.refl _) rfl (.bool _)
/-- Tokens as arguments. -/
theorem tkB_dec {H : Type} {enc : TypeId × Value → H} {w : World} {held : Bool} (n : Nat) (cs : List Value) (y : DataW H × List MemPlace) (h : DataW.trod enc Try.prog w 0 (fun _ => true) held n 34 cs = some y) : ∃ a, cs = tkC a ∧ TokB a := by
  obtain ⟨xs, m, _, _, hl, hlen, hf⟩ := DataW.trod_struct Try.underlying34 h
  rw [show Try.prog.cellsOf 34 = 3 by kernel_rfl] at hl
  have c5 : Try.prog.cellsOf 5 = 1 := by kernel_rfl
  have c3 : Try.prog.cellsOf 3 = 1 := by kernel_rfl
  match cs, hl, xs, hlen with
  | [a, b, c], _, [y0, y1, y2], _ =>
    have h0 := hf 0 _ rfl
    have h1 := hf 1 _ rfl
    have h2 := hf 2 _ rfl
    change DataW.trod enc Try.prog w 0 (fun _ => true) held m 5 (([a, b, c].drop 0).take (Try.prog.cellsOf 5)) = _ at h0
    change DataW.trod enc Try.prog w 0 (fun _ => true) held m 3 (([a, b, c].drop 1).take (Try.prog.cellsOf 3)) = _ at h1
    change DataW.trod enc Try.prog w 0 (fun _ => true) held m 3 (([a, b, c].drop 2).take (Try.prog.cellsOf 3)) = _ at h2
    rw [c5] at h0
    rw [c3] at h1 h2
    obtain ⟨i0, e0, _, w0⟩ := DataW.trod_int Try.underlying5 h0
    obtain ⟨i1, e1, _, _⟩ := DataW.trod_int Try.underlying3 h1
    obtain ⟨i2, e2, _, _⟩ := DataW.trod_int Try.underlying3 h2
    injection e0 with e0
    injection e1 with e1
    injection e2 with e2
    have h8 := w0
    simp [Lit.wf, IntKind.min, IntKind.max, IntKind.bits, IntKind.signed] at h8
    exact ⟨(i0, i1, i2), by rw [e0, e1, e2]; rfl, h8.1, by show i0 ≤ 255; omega⟩
end Go.Fw

set_option linter.unusedSimpArgs false
set_option linter.unusedVariables false
set_option maxRecDepth 4000
namespace Go.Fw
open Go.Proofs Go.RowKit
/-! A run is squeezed to fewer bytes. -/
theorem progK_max (s : ByteArray) (p k : Nat) (hk : 1 ≤ k) (h3 : 3 ≤ run s (p - k) p) : ∀ K, k ≤ K → run s (p - k) p ≤ (progK s p K).1
  | 0, h => by omega
  | K + 1, h => by
    rw [progK_succ]
    by_cases he : k = K + 1
    · rw [← he, if_pos h3]
      unfold stepM
      split
      · exact Nat.le_refl _
      · omega
    · have ih := progK_max s p k hk h3 K (by omega)
      unfold stepM
      split
      · split
        · simp only; omega
        · exact ih
      · exact ih
def runT (c : Int) (n : Nat) : ByteArray := strOfNums (List.replicate n c)
theorem runT_size (c : Int) (n : Nat) : (runT c n).size = n := by unfold runT; rw [str_size, List.length_replicate]
theorem runT_at {c : Int} (hc : Byte c) {n i : Nat} (h : i < n) : sbt (runT c n) i = c := by
  have h1 := sbt_nums (runT c n) i (by rw [runT_size]; exact h)
  unfold runT at h1
  rw [nums_str (by intro x hx; rw [(List.mem_replicate.1 hx).2]; exact hc), List.getElem?_replicate, if_pos h] at h1
  injection h1 with h1
  exact h1.symm
theorem matM_run {c : Int} (hc : Byte c) {n p : Nat} (h1 : 1 ≤ p) (h3 : p + 3 ≤ n) : min 34 (n - p) ≤ (matM (runT c n) p).1 := by
  have hr : min 34 (n - p) ≤ run (runT c n) (p - 1) p := by
    unfold run
    rw [runT_size]
    refine runN_ge _ _ _ _ _ (Nat.le_refl _) fun i hi => ?_
    rw [runT_at hc (by omega), runT_at hc (by omega)]
  rw [matM_prog]
  exact Nat.le_trans hr (progK_max _ p 1 (Nat.le_refl _) (by omega) _ (by omega))
theorem split_run {c : Int} (hc : Byte c) {n : Nat} : ∀ (k p : Nat), 1 ≤ p → (splitN (runT c n) k p).length ≤ (n - p) / 34 + 2
  | 0, p, _ => Nat.zero_le _
  | k + 1, p, hp => by
    by_cases hps : p < (runT c n).size
    rotate_left
    · rw [splitN_stop hps]; exact Nat.zero_le _
    rw [splitN, if_pos hps]
    rw [runT_size] at hps
    by_cases h3 : p + 3 ≤ n
    · have hm := matM_run hc hp h3
      have hm34 := (matM_le (runT c n) p).1
      rw [if_neg (by omega), List.length_cons]
      by_cases h34 : p + 34 ≤ n
      · have := split_run hc (n := n) k (p + (matM (runT c n) p).1) (by omega)
        have e : (matM (runT c n) p).1 = 34 := by omega
        rw [e] at this ⊢
        omega
      · rw [splitN_stop (by rw [runT_size]; omega)]
        simp
    · by_cases hz : (matM (runT c n) p).1 = 0
      · rw [if_pos hz, List.length_cons]
        by_cases hp1 : p + 1 < n
        · cases k with
          | zero => simp [splitN]
          | succ k =>
            rw [splitN, if_pos (by rw [runT_size]; exact hp1)]
            split
            · rw [List.length_cons, splitN_stop (by rw [runT_size]; omega)]; simp
            · rw [List.length_cons, splitN_stop (by rw [runT_size]; omega)]; simp
        · rw [splitN_stop (by rw [runT_size]; omega)]; simp
      · rw [if_neg hz, List.length_cons]
        rcases matM_law (runT c n) p with h | ⟨h1, _⟩
        · rw [h] at hz; exact absurd rfl hz
        · rw [splitN_stop (by rw [runT_size]; omega)]; simp
theorem splitL_run {c : Int} (hc : Byte c) (n : Nat) : (splitL (runT c n)).length ≤ n / 34 + 3 := by
  unfold splitL
  rw [runT_size]
  cases n with
  | zero => simp [splitN]
  | succ n =>
    rw [splitN, if_pos (by rw [runT_size]; omega)]
    have h0 : (matM (runT c (n + 1)) 0).1 = 0 := by
      rcases matM_law (runT c (n + 1)) 0 with h | ⟨_, h2, h3, _⟩
      · rw [h]
      · omega
    rw [if_pos h0, List.length_cons]
    have := split_run hc (n := n + 1) n (0 + 1) (Nat.le_refl _)
    omega
theorem tabP_len2 {g : List Int} : ∀ k, k ≤ g.length → (tabP g k).length = 2 * lng (g.take k) 0
  | 0, _ => rfl
  | k + 1, hk => by
    obtain ⟨x, hx⟩ : ∃ x, g[k]? = some x := ⟨_, List.getElem?_eq_getElem (by omega)⟩
    have htk : g.take (k + 1) = g.take k ++ [x] := by rw [List.take_add_one, hx]; rfl
    rw [tabP, getD_some hx, htk, lng_snoc, List.length_append, tabP_len2 k (by omega)]
    by_cases h : 0 < x
    · rw [if_pos h, if_pos (by omega)]; simp; omega
    · rw [if_neg h, if_neg (by omega)]; simp
def sumF (f : Nat → Nat) : Nat → Nat
  | 0 => 0
  | n + 1 => sumF f n + f n
theorem used_le {s : ByteArray} (h : s.size ≤ 4096) : ∀ k, k ≤ 289 → lng ((sqL s).take k) 0 ≤ sumF (freqF (splitL s)) k
  | 0, _ => Nat.zero_le _
  | k + 1, hk => by
    obtain ⟨x, hx, _, hu⟩ := (sq_ok h).used k (by omega)
    have htk : (sqL s).take (k + 1) = (sqL s).take k ++ [(x : Int)] := by rw [List.take_add_one, hx]; rfl
    have ih := used_le h k (by omega)
    rw [htk, lng_snoc, sumF]
    by_cases h0 : 0 < x
    · have := hu.1 h0
      rw [if_pos (by omega)]; omega
    · rw [if_neg (by omega)]; omega
theorem sqT_small {s : ByteArray} (h : s.size ≤ 4096) (hsum : sumF (freqF (splitL s)) 289 = (splitL s).length + 1) : 8 * (sqT s).size ≤ 24 * (4 * (splitL s).length + 4) + 7 := by
  obtain ⟨_, _, h3, _, _⟩ := sqT_facts h
  obtain ⟨h1, h2⟩ := sqP_ok h
  have h4 := bits24 _ h1 h2
  have hq := sq_ok h
  have h5 := tabP_len2 (g := sqL s) 289 (by rw [hq.len]; exact Nat.le_refl _)
  have h6 := used_le h 289 (Nat.le_refl _)
  have h7 := bodyP_len (sqL s) (splitL s)
  have h8 : (sqP s).length = (tabP (sqL s) 289).length + ((splitL s).flatMap (tokP (sqL s))).length + 2 := by
    unfold sqP
    rw [List.length_cons, List.length_append, List.length_append, List.length_singleton]; omega
  unfold sqW at h3
  omega
theorem sumF_one (f : Nat → Nat) (k : Nat) : ∀ n, sumF (fun j => f j + if j = k then 1 else 0) n = sumF f n + if k < n then 1 else 0
  | 0 => rfl
  | n + 1 => by
    rw [sumF, sumF, sumF_one f k n]
    by_cases h : n = k
    · rw [if_pos h, if_neg (by omega), if_pos (by omega)]; omega
    · rw [if_neg h]
      by_cases h2 : k < n
      · rw [if_pos h2, if_pos (by omega)]; omega
      · rw [if_neg h2, if_neg (by omega)]; omega
theorem sumF_congr {f g : Nat → Nat} : ∀ n, (∀ j, j < n → f j = g j) → sumF f n = sumF g n
  | 0, _ => rfl
  | n + 1, h => by rw [sumF, sumF, sumF_congr n (fun j hj => h j (by omega)), h n (by omega)]
theorem sumF_cnt : ∀ (l : List Tok), (∀ t ∈ l, TokS t) → sumF (cntF l) 288 = l.length
  | [], _ => by
    have : ∀ n, sumF (cntF []) n = 0 := fun n => by
      induction n with
      | zero => rfl
      | succ n ih => rw [sumF, ih]; rfl
    exact this 288
  | t :: l, h => by
    have ht := h t List.mem_cons_self
    have hlt := symP_lt ht.b
    obtain ⟨k, hk⟩ := Int.eq_ofNat_of_zero_le hlt.1
    have hs : symP t = ((k : Int), true) := by
      refine Prod.ext hk ?_
      unfold symP
      rcases ht with h | h
      · rw [if_pos h.1]
      · rw [if_neg (by omega), if_neg (by omega)]
    have hc : sumF (cntF (t :: l)) 288 = sumF (fun j => cntF l j + if j = k then 1 else 0) 288 := sumF_congr 288 fun j _ => by
      unfold cntF
      rw [List.countP_cons]
      congr 1
      rw [hs]
      by_cases hj : j = k
      · rw [if_pos hj, if_pos (by simp [hj])]
      · rw [if_neg hj, if_neg (by simp; omega)]
    rw [hc, sumF_one, if_pos (by omega), sumF_cnt l (fun u hu => h u (List.mem_cons_of_mem _ hu)), List.length_cons]
theorem sumF_freq (l : List Tok) (h : ∀ t ∈ l, TokS t) : sumF (freqF l) 289 = l.length + 1 := by
  have e : sumF (freqF l) 288 = sumF (cntF l) 288 := sumF_congr 288 fun j hj => if_neg (by omega)
  have e2 : freqF l 288 = 1 := if_pos rfl
  rw [sumF, e, sumF_cnt l h, e2]
theorem run_small {c : Int} (hc : Byte c) {n : Nat} (h1 : 100 ≤ n) (h2 : n ≤ 4096) : (sqT (runT c n)).size < n := by
  have hs : (runT c n).size ≤ 4096 := by rw [runT_size]; exact h2
  have h3 := sqT_small hs (sumF_freq _ (splitL_S _))
  have h4 := splitL_run hc n
  omega
end Go.Fw
