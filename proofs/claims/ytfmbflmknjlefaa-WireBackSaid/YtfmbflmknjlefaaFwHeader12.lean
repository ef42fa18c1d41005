import Derived.Test.YtfmbflmknjlefaaFwHeader11
set_option linter.unusedSimpArgs false
set_option linter.unusedVariables false
set_option maxRecDepth 4000
namespace Go.Fw
open Go.Proofs Go.RowKit
/-! What was encoded is read; its beginnings are too short; what is read was encoded. -/
theorem foldl_be (l : List Int) : ∀ n : Int, l.foldl (fun n c => n * 256 + c) n = n * 256 ^ l.length + l.foldl (fun n c => n * 256 + c) 0 := by
  induction l with
  | nil => intro n; simp
  | cons c l ih =>
    intro n
    rw [List.foldl_cons, List.foldl_cons, ih (n * 256 + c), ih (0 * 256 + c), List.length_cons, Int.pow_succ, Int.zero_mul, Int.zero_add, Int.add_mul, Int.mul_assoc, Int.mul_comm 256]
    omega
theorem beN_big (n : Nat) : ∀ i, beN (bigL n i) = ((n % 256 ^ i : Nat) : Int)
  | 0 => by
    have : n % 256 ^ 0 = 0 := by rw [Nat.pow_zero, Nat.mod_one]
    rw [this]; rfl
  | i + 1 => by
    have h := beN_big n i
    unfold beN at h ⊢
    rw [bigL, List.foldl_cons, foldl_be, h, bigL_length, Int.zero_mul, Int.zero_add, Nat.pow_succ, Nat.mod_mul, Int.natCast_add, Int.natCast_mul, Int.natCast_pow, Int.mul_comm, Int.add_comm]
    rfl
theorem beN_inj : ∀ (n : Nat) (l m : List Int), l.length = n → m.length = n → (∀ x ∈ l, Byte x) → (∀ x ∈ m, Byte x) → beN l = beN m → l = m := by
  intro n
  induction n with
  | zero => intro l m h1 h2 _ _ _; rw [List.eq_nil_of_length_eq_zero h1, List.eq_nil_of_length_eq_zero h2]
  | succ n ih =>
    intro l m h1 h2 hl hm e
    have hne : l ≠ [] := by intro h0; rw [h0] at h1; simp at h1
    have hne2 : m ≠ [] := by intro h0; rw [h0] at h2; simp at h2
    obtain ⟨l', c, rfl⟩ : ∃ l' c, l = l' ++ [c] := ⟨l.dropLast, l.getLast hne, (List.dropLast_concat_getLast hne).symm⟩
    obtain ⟨m', d, rfl⟩ : ∃ l' c, m = l' ++ [c] := ⟨m.dropLast, m.getLast hne2, (List.dropLast_concat_getLast hne2).symm⟩
    rw [beN_snoc, beN_snoc] at e
    have hc := hl c (by simp)
    have hd := hm d (by simp)
    unfold Byte at hc hd
    have e1 : c = d := by omega
    have e2 : beN l' = beN m' := by omega
    rw [e1, ih l' m' (by simpa using h1) (by simpa using h2) (fun x hx => hl x (List.mem_append_left _ hx)) (fun x hx => hm x (List.mem_append_left _ hx)) e2]
/-- A beginning of two parts. -/
theorem app_cut {α : Type} {a b q u : List α} (h : a ++ b = q ++ u) (hu : u ≠ []) : (∃ q', q = a ++ q' ∧ b = q' ++ u) ∨ (∃ u', u' ≠ [] ∧ a = q ++ u') := by
  rcases List.append_eq_append_iff.1 h with ⟨c, h1, h2⟩ | ⟨c, h1, h2⟩
  · exact .inl ⟨c, h1, h2⟩
  · by_cases hc : c = []
    · subst hc; exact .inl ⟨[], by simpa using h1.symm, by simpa using h2.symm⟩
    · exact .inr ⟨c, hc, h1⟩
theorem getL_fw (m : Nat) (t : List Int) (hm : m < 18446744073709551616) : getL 10 0 0 (enc m ++ t) = ((m : Int), t, 0) := by
  have := getL_enc m 10 0 0 t rfl (by omega) (by omega) (by simpa using hm)
  simpa using this
theorem getL_cut {m : Nat} (hm : m < 16384) {q u : List Int} (hu : u ≠ []) (h : enc m = q ++ u) : (getL 10 0 0 q).2.2 = 40 := by
  have hl : (enc m).length = q.length + u.length := by rw [h, List.length_append]
  have h2 : (enc m).length ≤ 2 := enc_len 1 m (by omega)
  have hu1 : 0 < u.length := List.length_pos_iff.2 hu
  by_cases hq : q = []
  · subst hq; rfl
  · have hq1 : 0 < q.length := List.length_pos_iff.2 hq
    obtain ⟨y, rfl⟩ : ∃ y, u = [y] := List.length_eq_one_iff.1 (by omega)
    have := getL_short m 10 0 0 rfl (by omega) (by omega) (by simp; omega)
    rw [h, List.dropLast_concat] at this
    rw [this]
theorem manyS_fw {most : Int} {m : Nat} (t : List Int) (hm : (m : Int) ≤ most) (h2 : m < 18446744073709551616) : manyS most (enc m ++ t, 0) = ((m : Int), (t, 0)) := by
  unfold manyS; rw [if_neg (by simp), getL_fw m t h2]
  simp only
  rw [if_neg (by omega)]; simp
theorem manyS_cut {most : Int} {m : Nat} (hm : m < 16384) {q u : List Int} (hu : u ≠ []) (h : enc m = q ++ u) : (manyS most (q, 0)).2.2 = 40 := by
  have := getL_cut hm hu h
  unfold manyS; rw [if_neg (by simp), if_neg (by rw [this]; simp), this]
theorem manyS_inv {most : Int} {s : RS} (hb : ∀ x ∈ s.1, Byte x) (h : (manyS most s).2.2 = 0) : s.2 = 0 ∧ ∃ (m : Nat) (t : List Int), manyS most s = ((m : Int), (t, 0)) ∧ s.1 = enc m ++ t ∧ (m : Int) ≤ most ∧ ∀ x ∈ t, Byte x := by
  obtain ⟨r, e⟩ := s
  by_cases he : e = 0
  rotate_left
  · rw [manyS_err he] at h; exact absurd h he
  subst he
  rcases hg : getL 10 0 0 r with ⟨n, t, e⟩
  obtain ⟨g1, g2, g3, g4, _⟩ := getL_facts _ hb n t e hg
  unfold manyS at h ⊢
  rw [if_neg (by simp), hg] at h ⊢
  simp only at h ⊢
  by_cases hm : e = 0 ∧ n > most
  · rw [if_pos hm] at h; cases h
  rw [if_neg hm] at h ⊢
  simp only at h
  subst h
  obtain ⟨m, h1, h2, _, _⟩ := getL_inv 10 0 0 r n t rfl hb hg
  have h2' : n = (m : Int) := by simpa using h2
  subst h2'
  refine ⟨trivial, m, t, by simp, h1, by have := fun h => hm ⟨rfl, h⟩; omega, g3⟩
theorem textS_fw {x : List Int} (t : List Int) (hx : x.length < 18446744073709551616) : textS (enc x.length ++ (x ++ t), 0) = (x, (t, 0)) := by
  unfold textS readL
  rw [if_neg (by simp), getL_fw _ _ hx]
  have h1 : ¬ ((x.length : Int) > ((x ++ t).length : Int)) := by rw [List.length_append]; omega
  simp only
  rw [if_neg (by simp), if_neg h1, Int.toNat_natCast, List.take_left, List.drop_left]
theorem textS_cut {x q u : List Int} (hx : x.length < 16384) (hu : u ≠ []) (h : enc x.length ++ x = q ++ u) : (textS (q, 0)).2.2 = 40 := by
  unfold textS readL
  rw [if_neg (by simp)]
  rcases app_cut h hu with ⟨q', rfl, h2⟩ | ⟨u', hu', h2⟩
  · rw [getL_fw _ _ (by omega)]
    have : x.length = q'.length + u.length := by rw [h2, List.length_append]
    have hu1 : 0 < u.length := List.length_pos_iff.2 hu
    simp only
    rw [if_neg (by simp), if_pos (by omega)]
  · have := getL_cut hx hu' h2
    simp [this]
theorem textS_inv {s : RS} (hb : ∀ x ∈ s.1, Byte x) (h : (textS s).2.2 = 0) : s.2 = 0 ∧ ∃ x t, textS s = (x, (t, 0)) ∧ s.1 = enc x.length ++ (x ++ t) ∧ (∀ y ∈ x, Byte y) ∧ ∀ y ∈ t, Byte y := by
  obtain ⟨r, e⟩ := s
  by_cases he : e = 0
  rotate_left
  · rw [textS_err he] at h; exact absurd h he
  subst he
  rcases hg : getL 10 0 0 r with ⟨n, t, e⟩
  obtain ⟨g1, g2, g3, g4, _⟩ := getL_facts _ hb n t e hg
  unfold textS readL at h ⊢
  rw [if_neg (by simp), hg] at h ⊢
  simp only at h ⊢
  by_cases h1 : e ≠ 0
  · rw [if_pos h1] at h; exact absurd h h1
  rw [if_neg h1] at h ⊢
  have h1 : e = 0 := by omega
  subst h1
  by_cases h2 : n > (t.length : Int)
  · rw [if_pos h2] at h; cases h
  rw [if_neg h2]
  obtain ⟨m, h3, h4, _, _⟩ := getL_inv 10 0 0 r n t rfl hb hg
  have h4' : n = (m : Int) := by simpa using h4
  subst h4'
  have hl : (t.take m).length = m := by rw [List.length_take]; omega
  refine ⟨trivial, t.take m, t.drop m, rfl, by rw [hl, List.take_append_drop]; exact h3, fun y hy => g3 y (List.mem_of_mem_take hy), fun y hy => g3 y (List.mem_of_mem_drop hy)⟩
theorem hashS_fw (h : HashT) (t : List Int) : hashS (h.1 ++ t, 0) = (h, (t, 0)) := by
  have hl := h.2
  unfold hashS
  rw [if_neg (by simp), dif_pos (by simp; omega)]
  have e1 : (h.1 ++ t).take 32 = h.1 := List.take_left' hl
  have e2 : (h.1 ++ t).drop 32 = t := List.drop_left' hl
  exact Prod.ext (Subtype.ext e1) (Prod.ext e2 rfl)
theorem hashS_cut {h : HashT} {q u : List Int} (hu : u ≠ []) (he : h.1 = q ++ u) : (hashS (q, 0)).2.2 = 40 := by
  have hu1 : 0 < u.length := List.length_pos_iff.2 hu
  have : q.length + u.length = 32 := by rw [← List.length_append, ← he]; exact h.2
  unfold hashS
  rw [if_neg (by simp), dif_neg (by simp only; omega)]
theorem hashS_inv {s : RS} (hb : ∀ x ∈ s.1, Byte x) (h : (hashS s).2.2 = 0) : s.2 = 0 ∧ ∃ (x : HashT) (t : List Int), hashS s = (x, (t, 0)) ∧ s.1 = x.1 ++ t ∧ (∀ y ∈ x.1, Byte y) ∧ ∀ y ∈ t, Byte y := by
  obtain ⟨r, e⟩ := s
  by_cases he : e = 0
  rotate_left
  · rw [hashS_err he] at h; exact absurd h he
  subst he
  by_cases h32 : 32 ≤ r.length
  rotate_left
  · unfold hashS at h; rw [if_neg (by simp), dif_neg h32] at h; cases h
  unfold hashS
  rw [if_neg (by simp), dif_pos h32]
  refine ⟨rfl, _, _, rfl, (List.take_append_drop 32 r).symm, fun y hy => hb y (List.mem_of_mem_take hy), fun y hy => hb y (List.mem_of_mem_drop hy)⟩
theorem hashN_fw : ∀ (l : List HashT) (t : List Int) (acc : List HashT), hashN l.length (blkL l ++ t, 0) acc = (acc ++ l, (t, 0))
  | [], t, acc => by simp [hashN, blkL]
  | h :: l, t, acc => by
    rw [List.length_cons, hashN, show blkL (h :: l) ++ t = h.1 ++ (blkL l ++ t) by simp [blkL], hashS_fw]
    rw [hashN_fw l t]
    simp
theorem hashN_cut : ∀ (l : List HashT) (q u : List Int) (acc : List HashT), u ≠ [] → blkL l = q ++ u → (hashN l.length (q, 0) acc).2.2 = 40
  | [], q, u, acc, hu, h => by
    have := congrArg List.length h
    have hu1 : 0 < u.length := List.length_pos_iff.2 hu
    simp [blkL] at this; omega
  | x :: l, q, u, acc, hu, h => by
    rw [show blkL (x :: l) = x.1 ++ blkL l by simp [blkL]] at h
    rw [List.length_cons, hashN]
    rcases app_cut h hu with ⟨q', rfl, h2⟩ | ⟨u', hu', h2⟩
    · rw [hashS_fw]; exact hashN_cut l q' u _ hu h2
    · have := hashS_cut hu' h2
      rw [hashN_err _ _ _ (by rw [this]; simp), this]
theorem hashN_inv : ∀ (k : Nat) (s : RS) (acc : List HashT), (∀ x ∈ s.1, Byte x) → (hashN k s acc).2.2 = 0 → s.2 = 0 ∧ ∃ l t, hashN k s acc = (acc ++ l, (t, 0)) ∧ s.1 = blkL l ++ t ∧ l.length = k ∧ (∀ h ∈ l, ∀ x ∈ h.1, Byte x) ∧ ∀ y ∈ t, Byte y
  | 0, s, acc, hb, h => ⟨h, [], s.1, by rw [List.append_nil]; exact Prod.ext rfl (Prod.ext rfl h), by simp [blkL], rfl, fun h hh => (by cases hh), hb⟩
  | k + 1, s, acc, hb, h => by
    rw [hashN] at h ⊢
    have hz : (hashS s).2.2 = 0 := by
      apply Classical.byContradiction
      intro hne; rw [hashN_err _ _ _ hne] at h; exact hne h
    obtain ⟨h0, x, t, h1, h2, h3, h4⟩ := hashS_inv hb hz
    rw [h1] at h ⊢
    obtain ⟨_, l, t2, g1, g2, g3, g4, g5⟩ := hashN_inv k (t, 0) (acc ++ [x]) h4 h
    refine ⟨h0, x :: l, t2, by rw [g1]; simp, ?_, by simp [g3], ?_, g5⟩
    · rw [h2, show t = blkL l ++ t2 from g2]; simp [blkL]
    · intro y hy
      rcases List.mem_cons.1 hy with rfl | hy
      · exact h3
      · exact g4 y hy
def okPr (p : ByteArray × Int) : Prop := p.1.size < 16384 ∧ 0 ≤ p.2 ∧ p.2 ≤ 300
theorem namL_cons (p : ByteArray × Int) (l : List (ByteArray × Int)) : namL (p :: l) = enc p.1.size ++ nums p.1 ++ (enc p.2.toNat ++ namL l) := by simp [namL]
theorem pairN_fw : ∀ (l : List (ByteArray × Int)) (t : List Int) (a : List ByteArray) (b : List Int), (∀ p ∈ l, okPr p) → pairN l.length (namL l ++ t, 0) a b = ((a ++ l.map (·.1), b ++ l.map (·.2)), (t, 0))
  | [], t, a, b, _ => by simp [pairN, namL]
  | p :: l, t, a, b, h => by
    obtain ⟨h1, h2, h3⟩ := h p (List.mem_cons_self ..)
    have e1 : namL (p :: l) ++ t = enc (nums p.1).length ++ (nums p.1 ++ (enc p.2.toNat ++ (namL l ++ t))) := by rw [namL_cons, nums_length]; simp
    rw [List.length_cons, pairN, e1, textS_fw _ (by rw [nums_length]; omega)]
    rw [manyS_fw _ (by omega) (by omega)]
    simp only
    rw [pairN_fw l t _ _ (fun p hp => h p (List.mem_cons_of_mem _ hp)), str_nums, show ((p.2.toNat : Nat) : Int) = p.2 by omega]
    simp
theorem pairN_cut : ∀ (l : List (ByteArray × Int)) (q u : List Int) (a : List ByteArray) (b : List Int), (∀ p ∈ l, okPr p) → u ≠ [] → namL l = q ++ u → (pairN l.length (q, 0) a b).2.2 = 40
  | [], q, u, a, b, _, hu, h => by
    have := congrArg List.length h
    have hu1 : 0 < u.length := List.length_pos_iff.2 hu
    simp [namL] at this; omega
  | p :: l, q, u, a, b, hok, hu, h => by
    obtain ⟨h1, h2, h3⟩ := hok p (List.mem_cons_self ..)
    rw [namL_cons] at h
    rw [List.length_cons, pairN]
    rcases app_cut h hu with ⟨q', rfl, h2⟩ | ⟨u', hu', h2⟩
    · rw [show enc p.1.size ++ nums p.1 ++ q' = enc (nums p.1).length ++ (nums p.1 ++ q') by rw [nums_length]; simp, textS_fw _ (by rw [nums_length]; omega)]
      simp only
      rcases app_cut h2 hu with ⟨q2, rfl, h3⟩ | ⟨u', hu', h3⟩
      · rw [manyS_fw _ (by omega) (by omega)]
        exact pairN_cut l q2 u _ _ (fun p hp => hok p (List.mem_cons_of_mem _ hp)) hu h3
      · have := manyS_cut (most := 300) (by omega) hu' h3
        rw [pairN_err _ _ _ _ (by rw [this]; simp), this]
    · have := textS_cut (by rw [nums_length]; omega) hu' (by rw [nums_length]; exact h2)
      rw [manyS_err (by rw [this]; simp), pairN_err _ _ _ _ (by simp only; rw [this]; simp), this]
theorem pairN_inv : ∀ (k : Nat) (s : RS) (a : List ByteArray) (b : List Int), (∀ x ∈ s.1, Byte x) → (pairN k s a b).2.2 = 0 → s.2 = 0 ∧ ∃ l t, pairN k s a b = ((a ++ l.map (·.1), b ++ l.map (·.2)), (t, 0)) ∧ s.1 = namL l ++ t ∧ l.length = k ∧ ∀ y ∈ t, Byte y
  | 0, s, a, b, hb, h => ⟨h, [], s.1, by rw [List.map_nil, List.map_nil, List.append_nil, List.append_nil]; exact Prod.ext rfl (Prod.ext rfl h), by simp [namL], rfl, hb⟩
  | k + 1, s, a, b, hb, h => by
    rw [pairN] at h ⊢
    have hz : (manyS 300 (textS s).2).2.2 = 0 := by
      apply Classical.byContradiction
      intro hne; rw [pairN_err _ _ _ _ hne] at h; exact hne h
    have hz2 : (textS s).2.2 = 0 := by
      apply Classical.byContradiction
      intro hne; rw [manyS_err hne] at hz; exact hne hz
    obtain ⟨h0, x, t, h1, h2, h3, h4⟩ := textS_inv hb hz2
    rw [h1] at h hz ⊢
    simp only at h hz ⊢
    obtain ⟨_, m, t2, g1, g2, g3, g4⟩ := manyS_inv h4 hz
    rw [g1] at h ⊢
    obtain ⟨_, l, t3, k1, k2, k3, k4⟩ := pairN_inv k (t2, 0) (a ++ [strOfNums x]) (b ++ [(m : Int)]) g4 h
    refine ⟨h0, (strOfNums x, (m : Int)) :: l, t3, by rw [k1]; simp, ?_, by simp [k3], k4⟩
    rw [namL_cons, h2, show t = enc m ++ t2 from g2, show t2 = namL l ++ t3 from k2, nums_str h3, str_size]
    simp
theorem idS_fw {n : Int} (h0 : 0 ≤ n) (h1 : n < 4294967296) (t : List Int) : idS (bigL n.toNat 4 ++ t, 0) = (n, (t, 0)) := by
  have hl := bigL_length n.toNat 4
  unfold idS fixL
  rw [if_neg (by omega), if_neg (by simp only [List.length_append]; omega)]
  have e1 : (bigL n.toNat 4 ++ t).take 4 = bigL n.toNat 4 := List.take_left' hl
  have e2 : (bigL n.toNat 4 ++ t).drop 4 = t := List.drop_left' hl
  show (beN ((bigL n.toNat 4 ++ t).take 4), ((bigL n.toNat 4 ++ t).drop 4, (0 : Int))) = _
  rw [e1, e2, beN_big]
  have : ((n.toNat % 256 ^ 4 : Nat) : Int) = n := by omega
  rw [this]
theorem idS_cut {m : Nat} {q u : List Int} (hu : u ≠ []) (he : bigL m 4 = q ++ u) : (idS (q, 0)).2.2 = 40 := by
  have hu1 : 0 < u.length := List.length_pos_iff.2 hu
  have : q.length + u.length = 4 := by rw [← List.length_append, ← he]; exact bigL_length _ _
  unfold idS fixL
  rw [if_neg (by omega), if_pos (by simp only; omega)]
theorem idS_inv {r : List Int} (hb : ∀ x ∈ r, Byte x) (h : (idS (r, 0)).2.2 = 0) : ∃ (n : Int) (t : List Int), idS (r, 0) = (n, (t, 0)) ∧ r = bigL n.toNat 4 ++ t ∧ 0 ≤ n ∧ n < 4294967296 ∧ ∀ x ∈ t, Byte x := by
  unfold idS fixL at h ⊢
  rw [if_neg (by omega)] at h ⊢
  by_cases hl : (r.length : Int) < 4
  · rw [if_pos hl] at h; cases h
  rw [if_neg hl]
  have hl4 : (r.take 4).length = 4 := by rw [List.length_take]; omega
  obtain ⟨b0, b1⟩ := beN_lt 4 (r.take 4) hl4 (fun x hx => hb x (List.mem_of_mem_take hx))
  have b1 : beN (r.take 4) < 4294967296 := b1
  refine ⟨beN (r.take 4), r.drop 4, rfl, ?_, b0, b1, fun x hx => hb x (List.mem_of_mem_drop hx)⟩
  have : bigL (beN (r.take 4)).toNat 4 = r.take 4 := by
    refine beN_inj 4 _ _ (bigL_length _ _) hl4 (bigL_byte _ _) (fun x hx => hb x (List.mem_of_mem_take hx)) ?_
    rw [beN_big]; omega
  rw [this, List.take_append_drop]
theorem mayF {V : VerT} (h : mayB V = true) : V.names.length ≤ 12 ∧ V.names.length = V.sizes.length ∧ V.blocks.length ≤ 15 ∧ ∀ p ∈ V.names.zip V.sizes, okPr p := by
  obtain ⟨h1, h2, h3, h4⟩ := (may_iff V).1 h
  have h5 := sumSz_le V.sizes
  unfold blocksN at h3
  refine ⟨h1, h2, by omega, fun p hp => ?_⟩
  obtain ⟨i, hi⟩ := List.mem_iff_getElem?.1 hp
  obtain ⟨nm, sz⟩ := p
  rw [List.getElem?_zip_eq_some] at hi
  obtain ⟨hx, hy⟩ := hi
  have hlt : i < V.names.length := (List.getElem?_eq_some_iff.1 hx).1
  obtain ⟨o1, o2, o3, o4, _⟩ := h4 i hlt
  rw [nmN_at hx] at o1 o2
  rw [szN_at hy] at o3 o4
  simp only at o1 o2
  exact ⟨by show nm.size < 16384; omega, o3, o4⟩
theorem encV_parts (V : VerT) (t : List Int) : encV V ++ t = bigL V.id.toNat 4 ++ (enc V.blocks.length ++ (blkL V.blocks ++ (enc V.names.length ++ (namL (V.names.zip V.sizes) ++ t)))) := by
  unfold encV; simp
theorem progR_fw {V : VerT} (hk : V.ok) (hm : mayB V = true) (t : List Int) : progR (encV V ++ t) = (V, t, 0) := by
  obtain ⟨m1, m2, m3, m4⟩ := mayF hm
  obtain ⟨k1, k2, _⟩ := hk
  rw [encV_parts]
  generalize hr : bigL V.id.toNat 4 ++ (enc V.blocks.length ++ (blkL V.blocks ++ (enc V.names.length ++ (namL (V.names.zip V.sizes) ++ t)))) = r
  have eI : readI r = (V.id, (enc V.blocks.length ++ (blkL V.blocks ++ (enc V.names.length ++ (namL (V.names.zip V.sizes) ++ t))), 0)) := by rw [← hr]; exact idS_fw k1 k2 _
  have eN : readN r = ((V.blocks.length : Int), (blkL V.blocks ++ (enc V.names.length ++ (namL (V.names.zip V.sizes) ++ t)), 0)) := by unfold readN; rw [eI]; exact manyS_fw _ (by omega) (by omega)
  have eB : readB r = (V.blocks, (enc V.names.length ++ (namL (V.names.zip V.sizes) ++ t), 0)) := by unfold readB; rw [eN]; exact hashN_fw _ _ []
  have eK : readK r = ((V.names.length : Int), (namL (V.names.zip V.sizes) ++ t, 0)) := by unfold readK; rw [eB]; exact manyS_fw _ (by omega) (by omega)
  have hz : (V.names.zip V.sizes).length = V.names.length := by rw [List.length_zip]; omega
  have eP : readP r = ((V.names, V.sizes), (t, 0)) := by
    unfold readP; rw [eK]
    have := pairN_fw (V.names.zip V.sizes) t [] [] m4
    rw [hz, List.map_fst_zip (by omega), List.map_snd_zip (by omega)] at this
    exact this
  have eV : readVer r = V := by unfold readVer; rw [eI, eB, eP]
  unfold progR
  rw [eP, eV, if_neg (by simp), if_pos hm]
theorem progR_cut {V : VerT} (hk : V.ok) (hm : mayB V = true) {q u : List Int} (hu : u ≠ []) (h : encV V = q ++ u) : (progR q).2.2 = 40 := by
  obtain ⟨m1, m2, m3, m4⟩ := mayF hm
  obtain ⟨k1, k2, _⟩ := hk
  have hz : (V.names.zip V.sizes).length = V.names.length := by rw [List.length_zip]; omega
  rw [show encV V = encV V ++ [] by simp, encV_parts, List.append_nil] at h
  rcases app_cut h hu with ⟨q1, rfl, h1⟩ | ⟨u', hu', h1⟩
  rotate_left
  · have e := idS_cut hu' h1
    rw [progR_eI (by unfold readI; rw [e]; simp)]; exact e
  have eI : readI (bigL V.id.toNat 4 ++ q1) = (V.id, (q1, 0)) := idS_fw k1 k2 _
  generalize bigL V.id.toNat 4 ++ q1 = r at *
  rcases app_cut h1 hu with ⟨q2, rfl, h2⟩ | ⟨u', hu', h2⟩
  rotate_left
  · have e : (readN r).2.2 = 40 := by unfold readN; rw [eI]; exact manyS_cut (by omega) hu' h2
    rw [progR_eN (by rw [e]; simp)]; exact e
  have eN : readN r = ((V.blocks.length : Int), (q2, 0)) := by unfold readN; rw [eI]; exact manyS_fw _ (by omega) (by omega)
  rcases app_cut h2 hu with ⟨q3, rfl, h3⟩ | ⟨u', hu', h3⟩
  rotate_left
  · have e : (readB r).2.2 = 40 := by unfold readB; rw [eN]; exact hashN_cut _ _ _ _ hu' h3
    rw [progR_eB (by rw [e]; simp)]; exact e
  have eB : readB r = (V.blocks, (q3, 0)) := by unfold readB; rw [eN]; exact hashN_fw _ _ []
  rcases app_cut h3 hu with ⟨q4, rfl, h4⟩ | ⟨u', hu', h4⟩
  rotate_left
  · have e : (readK r).2.2 = 40 := by unfold readK; rw [eB]; exact manyS_cut (by omega) hu' h4
    rw [progR_eK (by rw [e]; simp)]; exact e
  have eK : readK r = ((V.names.length : Int), (q4, 0)) := by unfold readK; rw [eB]; exact manyS_fw _ (by omega) (by omega)
  have e : (readP r).2.2 = 40 := by
    unfold readP; rw [eK]
    have := pairN_cut (V.names.zip V.sizes) q4 u [] [] m4 hu h4
    rw [hz] at this
    exact this
  rw [progR_eP (by rw [e]; simp)]; exact e
theorem progR_inv {r : List Int} (hb : ∀ x ∈ r, Byte x) (h : (progR r).2.2 = 0) : mayB (progR r).1 = true ∧ (progR r).1.ok ∧ r = encV (progR r).1 ++ (progR r).2.1 ∧ ∀ x ∈ (progR r).2.1, Byte x := by
  have zP : (readP r).2.2 = 0 := by
    apply Classical.byContradiction
    intro hne; rw [progR_eP hne] at h; exact hne h
  have zK : (readK r).2.2 = 0 := by
    apply Classical.byContradiction
    intro hne; rw [readP_eK hne] at zP; exact hne zP
  have zB : (readB r).2.2 = 0 := by
    apply Classical.byContradiction
    intro hne; rw [readK_eB hne] at zK; exact hne zK
  have zN : (readN r).2.2 = 0 := by
    apply Classical.byContradiction
    intro hne; rw [readB_eN hne] at zB; exact hne zB
  have zI : (readI r).2.2 = 0 := by
    apply Classical.byContradiction
    intro hne; rw [readN_eI hne] at zN; exact hne zN
  obtain ⟨id, t1, eI, h1, i0, i1, b1⟩ := idS_inv hb zI
  have eI : readI r = (id, (t1, 0)) := eI
  have eN0 : readN r = manyS 16 (t1, 0) := by unfold readN; rw [eI]
  rw [eN0] at zN
  obtain ⟨_, nb, t2, eN, h2, _, b2⟩ := manyS_inv b1 zN
  have eB0 : readB r = hashN nb (t2, 0) [] := by unfold readB; rw [eN0, eN]; rfl
  rw [eB0] at zB
  obtain ⟨_, B, t3, eB, h3, l3, bB, b3⟩ := hashN_inv _ _ _ b2 zB
  have eB : readB r = (B, (t3, 0)) := by rw [eB0, eB]; rfl
  have eK0 : readK r = manyS 12 (t3, 0) := by unfold readK; rw [eB]
  rw [eK0] at zK
  obtain ⟨_, nk, t4, eK, h4, _, b4⟩ := manyS_inv b3 zK
  have eP0 : readP r = pairN nk (t4, 0) [] [] := by unfold readP; rw [eK0, eK]; rfl
  rw [eP0] at zP
  obtain ⟨_, l, t5, eP, h5, l5, b5⟩ := pairN_inv _ _ _ _ b4 zP
  have eP : readP r = ((l.map (·.1), l.map (·.2)), (t5, 0)) := by rw [eP0, eP]; rfl
  have eV : readVer r = ⟨id, B, l.map (·.1), l.map (·.2)⟩ := by unfold readVer; rw [eI, eB, eP]
  unfold progR at h ⊢
  rw [eP, eV, if_neg (by simp)] at h ⊢
  by_cases hm : mayB ⟨id, B, l.map (·.1), l.map (·.2)⟩ = true
  rotate_left
  · rw [if_neg hm] at h; cases h
  rw [if_pos hm]
  refine ⟨hm, ⟨i0, i1, bB⟩, ?_, b5⟩
  rw [encV_parts, h1, show t1 = _ from h2, show t2 = _ from h3, show t3 = _ from h4, show t4 = _ from h5]
  simp only [List.length_map, l3, l5]
  rw [show (l.map (·.1)).zip (l.map (·.2)) = l by rw [List.zip_map']; simp]
end Go.Fw
