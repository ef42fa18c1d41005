import Derived.Test.YtfmbflmknjlefaaFwWire19
set_option linter.unusedSimpArgs false
set_option linter.unusedVariables false
set_option maxRecDepth 4000
namespace Go.Fw
open Go.Proofs Go.RowKit
theorem fixL_cut {m : Nat} (w : Nat) (hw : 1 ≤ w ∧ w ≤ 8) {q u : List Int} (hu : u ≠ []) (h : bigL m w = q ++ u) : fixL q w = (0, [], 40) := by
  have hl : (bigL m w).length = q.length + u.length := by rw [h, List.length_append]
  rw [bigL_length] at hl
  have hu1 : 0 < u.length := List.length_pos_iff.2 hu
  unfold fixL
  rw [if_neg (by omega), if_pos (by omega)]
theorem fixL_cut4 {m : Nat} {q u : List Int} (hu : u ≠ []) (h : bigL m 4 = q ++ u) : fixL q 4 = (0, [], 40) := fixL_cut 4 ⟨by omega, by omega⟩ hu h
theorem fixL_cut2 {m : Nat} {q u : List Int} (hu : u ≠ []) (h : bigL m 2 = q ++ u) : fixL q 2 = (0, [], 40) := fixL_cut 2 ⟨by omega, by omega⟩ hu h
theorem fixL_nil (w : Int) (hw : 1 ≤ w ∧ w ≤ 8) : fixL [] w = (0, [], 40) := by
  unfold fixL
  rw [if_neg (by omega), if_pos (by simp; omega)]
theorem fixL_cut1 {x : Int} {q u : List Int} (hu : u ≠ []) (h : [x] = q ++ u) : fixL q 1 = (0, [], 40) := by
  have hl : ([x] : List Int).length = q.length + u.length := by rw [h, List.length_append]
  have hu1 : 0 < u.length := List.length_pos_iff.2 hu
  have hq : q = [] := List.eq_nil_of_length_eq_zero (by simp at hl; omega)
  subst hq
  exact fixL_nil 1 ⟨by omega, by omega⟩
theorem fixL_one {x : Int} (h0 : 0 ≤ x) (h1 : x < 256) (t : List Int) : fixL ([x] ++ t) 1 = (x, t, 0) := fixL_fw1 h0 h1 t
theorem putL_parts (r : ReqT) : putL r = [r.client] ++ (bigL r.seq.toNat 4 ++ ([r.op.kind] ++ (bigL r.op.id.toNat 4 ++ (if r.op.kind = 1 then encV r.op.v else [])))) := by unfold putL; simp
theorem reqP_cut {r : ReqT} (hb : rightB r = true) (hk : r.okA) {q u : List Int} (hu : u ≠ []) (h : putL r = q ++ u) : (reqP q).2.2 = 40 := by
  obtain ⟨f1, f2, f3, f4⟩ := rightB_facts hb
  obtain ⟨k1, k2, k3, k4, k5⟩ := hk
  have hcl : cliB r.client = true := by unfold cliB; exact decide_eq_true f1
  rw [putL_parts] at h
  unfold reqP
  rcases app_cut h hu with ⟨q1, rfl, h1⟩ | ⟨u', hu', h1⟩
  rotate_left
  · rw [fixL_cut1 hu' h1]; simp
  rw [fixL_one f1.1 (by omega)]
  simp only [ne_eq, not_true_eq_false, ↓reduceIte, hcl, Bool.true_eq_false]
  rcases app_cut h1 hu with ⟨q2, rfl, h2⟩ | ⟨u', hu', h2⟩
  rotate_left
  · rw [fixL_cut4 hu' h2]; simp
  rw [fixL_fw4 k1 k2]
  simp only [ne_eq, not_true_eq_false, ↓reduceIte]
  rcases app_cut h2 hu with ⟨q3, rfl, h3⟩ | ⟨u', hu', h3⟩
  rotate_left
  · rw [fixL_cut1 hu' h3]; simp
  rw [fixL_one (by omega) (by omega)]
  simp only [ne_eq, not_true_eq_false, ↓reduceIte]
  rw [if_neg (by intro hn; exact hn ⟨f2, f3⟩)]
  rcases app_cut h3 hu with ⟨q4, rfl, h4⟩ | ⟨u', hu', h4⟩
  rotate_left
  · rw [fixL_cut4 hu' h4]; simp
  rw [fixL_fw4 k3 k4]
  simp only [ne_eq, not_true_eq_false, ↓reduceIte]
  by_cases h1 : r.op.kind = 1
  · rw [if_pos h1] at h4
    have e := progR_cut k5 f4 hu h4
    simp only [if_pos h1]
    rw [show progR q4 = ((progR q4).1, (progR q4).2.1, (progR q4).2.2) from rfl, e]
    simp
  · rw [if_neg h1] at h4
    have := congrArg List.length h4
    rw [List.length_append] at this
    have hu1 : 0 < u.length := List.length_pos_iff.2 hu
    simp at this; omega
theorem reqN_fw : ∀ (l : List ReqT) (t : List Int) (acc : List ReqT), (∀ r ∈ l, rightB r = true ∧ r.okA) → reqN l.length acc (logL l ++ t) = (acc ++ l, t, 0)
  | [], t, acc, _ => by simp [logL, reqN]
  | r :: l, t, acc, h => by
    obtain ⟨h1, h2⟩ := h r (List.mem_cons_self ..)
    have e : logL (r :: l) ++ t = putL r ++ (logL l ++ t) := by simp [logL]
    rw [e, List.length_cons, reqN_go (reqP_fw h1 h2 _), reqN_fw l t _ (fun r hr => h r (List.mem_cons_of_mem _ hr))]
    simp
theorem reqN_cut : ∀ (l : List ReqT) (q u : List Int) (acc : List ReqT), (∀ r ∈ l, rightB r = true ∧ r.okA) → u ≠ [] → logL l = q ++ u → (reqN l.length acc q).2.2 = 40
  | [], q, u, acc, _, hu, h => by
    have := congrArg List.length h
    rw [List.length_append] at this
    have hu1 : 0 < u.length := List.length_pos_iff.2 hu
    simp [logL] at this; omega
  | r :: l, q, u, acc, h, hu, he => by
    obtain ⟨h1, h2⟩ := h r (List.mem_cons_self ..)
    have e : logL (r :: l) = putL r ++ logL l := by simp [logL]
    rw [e] at he
    rw [List.length_cons]
    rcases app_cut he hu with ⟨q1, rfl, h3⟩ | ⟨u', hu', h3⟩
    · rw [reqN_go (reqP_fw h1 h2 _)]
      exact reqN_cut l q1 u _ (fun r hr => h r (List.mem_cons_of_mem _ hr)) hu h3
    · have e40 := reqP_cut h1 h2 hu' h3
      rw [reqN_stop (x := (reqP q).1) (t := (reqP q).2.1) (e := (reqP q).2.2) rfl (by rw [e40]; decide)]
      exact e40
theorem listR_fw {l : List ReqT} (h : ∀ r ∈ l, rightB r = true ∧ r.okA) (hl : l.length ≤ 40) (t : List Int) : listR 40 (([(l.length : Int)] ++ logL l) ++ t) = (l, t, 0) := by
  unfold listR
  rw [List.append_assoc, fixL_one (by omega) (by omega)]
  simp only [ne_eq, not_true_eq_false, ↓reduceIte]
  rw [if_neg (by omega), Int.toNat_natCast, reqN_fw l t [] h]; rfl
theorem listR_cut {l : List ReqT} (h : ∀ r ∈ l, rightB r = true ∧ r.okA) (hl : l.length ≤ 40) {q u : List Int} (hu : u ≠ []) (he : [(l.length : Int)] ++ logL l = q ++ u) : (listR 40 q).2.2 = 40 := by
  unfold listR
  rcases app_cut he hu with ⟨q1, rfl, h1⟩ | ⟨u', hu', h1⟩
  rotate_left
  · rw [fixL_cut1 hu' h1]; simp
  rw [fixL_one (by omega) (by omega)]
  simp only [ne_eq, not_true_eq_false, ↓reduceIte]
  rw [if_neg (by omega), Int.toNat_natCast]
  exact reqN_cut l q1 u [] h hu h1
theorem u32N_fw : ∀ (l : List Int) (t acc : List Int), (∀ x ∈ l, 0 ≤ x ∧ x < 4294967296) → u32N l.length acc (idsL l ++ t) = (acc ++ l, t, 0)
  | [], t, acc, _ => by simp [idsL, u32N]
  | x :: l, t, acc, h => by
    obtain ⟨h1, h2⟩ := h x (List.mem_cons_self ..)
    have e : idsL (x :: l) ++ t = bigL x.toNat 4 ++ (idsL l ++ t) := by simp [idsL]
    rw [e, List.length_cons, u32N_go (fixL_fw4 h1 h2 _), u32N_fw l t _ (fun r hr => h r (List.mem_cons_of_mem _ hr))]
    simp
theorem u32N_cut : ∀ (l : List Int) (q u acc : List Int), (∀ x ∈ l, 0 ≤ x ∧ x < 4294967296) → u ≠ [] → idsL l = q ++ u → (u32N l.length acc q).2.2 = 40
  | [], q, u, acc, _, hu, h => by
    have := congrArg List.length h
    rw [List.length_append] at this
    have hu1 : 0 < u.length := List.length_pos_iff.2 hu
    simp [idsL] at this; omega
  | x :: l, q, u, acc, h, hu, he => by
    obtain ⟨h1, h2⟩ := h x (List.mem_cons_self ..)
    have e : idsL (x :: l) = bigL x.toNat 4 ++ idsL l := by simp [idsL]
    rw [e] at he
    rw [List.length_cons]
    rcases app_cut he hu with ⟨q1, rfl, h3⟩ | ⟨u', hu', h3⟩
    · rw [u32N_go (fixL_fw4 h1 h2 _)]
      exact u32N_cut l q1 u _ (fun r hr => h r (List.mem_cons_of_mem _ hr)) hu h3
    · rw [u32N_stop (fixL_cut4 hu' h3) (by decide)]
theorem listU_fw {l : List Int} (h : ∀ x ∈ l, 0 ≤ x ∧ x < 4294967296) (hl : l.length ≤ 8) (t : List Int) : listU 8 (([(l.length : Int)] ++ idsL l) ++ t) = (l, t, 0) := by
  unfold listU
  rw [List.append_assoc, fixL_one (by omega) (by omega)]
  simp only [ne_eq, not_true_eq_false, ↓reduceIte]
  rw [if_neg (by omega), Int.toNat_natCast, u32N_fw l t [] h]; rfl
theorem listU_cut {l : List Int} (h : ∀ x ∈ l, 0 ≤ x ∧ x < 4294967296) (hl : l.length ≤ 8) {q u : List Int} (hu : u ≠ []) (he : [(l.length : Int)] ++ idsL l = q ++ u) : (listU 8 q).2.2 = 40 := by
  unfold listU
  rcases app_cut he hu with ⟨q1, rfl, h1⟩ | ⟨u', hu', h1⟩
  rotate_left
  · rw [fixL_cut1 hu' h1]; simp
  rw [fixL_one (by omega) (by omega)]
  simp only [ne_eq, not_true_eq_false, ↓reduceIte]
  rw [if_neg (by omega), Int.toNat_natCast]
  exact u32N_cut l q1 u [] h hu h1
theorem u8N_fw3 {a b c : Int} (ha : 0 ≤ a ∧ a < 256) (hb : 0 ≤ b ∧ b < 256) (hc : 0 ≤ c ∧ c < 256) (t : List Int) : u8N 3 [] ([a, b, c] ++ t) = ([a, b, c], t, 0) := by
  show u8N (2 + 1) [] (a :: (b :: (c :: t))) = _
  rw [u8N_go (fixL_fw1 ha.1 ha.2 _)]
  show u8N (1 + 1) _ _ = _
  rw [u8N_go (fixL_fw1 hb.1 hb.2 _)]
  show u8N (0 + 1) _ _ = _
  rw [u8N_go (fixL_fw1 hc.1 hc.2 _)]
  rfl
theorem u8N_cut3 {a b c : Int} (ha : 0 ≤ a ∧ a < 256) (hb : 0 ≤ b ∧ b < 256) (hc : 0 ≤ c ∧ c < 256) {q u : List Int} (hu : u ≠ []) (h : [a, b, c] = q ++ u) : (u8N 3 [] q).2.2 = 40 := by
  have hn := fixL_nil 1 ⟨by omega, by omega⟩
  match q, h with
  | [], h => rw [show (3 : Nat) = 2 + 1 from rfl, u8N_stop hn (by decide)]
  | [x], h =>
    obtain ⟨rfl, _⟩ := List.cons.inj h
    rw [show (3 : Nat) = 2 + 1 from rfl, u8N_go (fixL_fw1 ha.1 ha.2 _), show (2 : Nat) = 1 + 1 from rfl, u8N_stop hn (by decide)]
  | [x, y], h =>
    obtain ⟨rfl, h2⟩ := List.cons.inj h
    obtain ⟨rfl, _⟩ := List.cons.inj h2
    rw [show (3 : Nat) = 2 + 1 from rfl, u8N_go (fixL_fw1 ha.1 ha.2 _), show (2 : Nat) = 1 + 1 from rfl, u8N_go (fixL_fw1 hb.1 hb.2 _), show (1 : Nat) = 0 + 1 from rfl, u8N_stop hn (by decide)]
  | x :: y :: z :: q, h =>
    have := congrArg List.length h
    rw [List.length_append] at this
    have hu1 : 0 < u.length := List.length_pos_iff.2 hu
    simp at this; omega
theorem readL_fw {x : List Int} (t : List Int) (hx : x.length < 18446744073709551616) : readL ((enc x.length ++ x) ++ t) = (x, t, 0) := by
  have := textS_fw t hx
  rw [List.append_assoc]
  unfold textS at this
  rw [if_neg (by simp)] at this
  injection this with h1 h2
  injection h2 with h2 h3
  exact Prod.ext h1 (Prod.ext h2 h3)
theorem readL_cut {x q u : List Int} (hx : x.length < 16384) (hu : u ≠ []) (h : enc x.length ++ x = q ++ u) : (readL q).2.2 = 40 := by
  have := textS_cut hx hu h
  unfold textS at this
  rw [if_neg (by simp)] at this
  exact this
/-- A message's bytes in their parts. -/
theorem encM_parts {m : MsgT} (hmay : mayM m = true) (t : List Int) : encM m ++ t = [m.kind, m.src, m.dst] ++ (bigL m.view.toNat 4 ++ (bigL m.last.toNat 4 ++ ([m.n] ++ ([m.commit] ++ (([(m.log.length : Int)] ++ logL m.log) ++ ([m.client] ++ (bigL m.seq.toNat 4 ++ (bigL m.reply.e.toNat 2 ++ (([(m.reply.ids.length : Int)] ++ idsL m.reply.ids) ++ (encV m.reply.v ++ (m.hash.1 ++ ((enc (nums m.block).length ++ nums m.block) ++ t)))))))))))) := by
  obtain ⟨⟨f1, f2⟩, ⟨f3, f4⟩, ⟨f5, f6⟩, ⟨f7, f8⟩, ⟨f9, f10⟩, f11, f12, ⟨f13, f14⟩, ⟨f15, f16⟩, f17, f18, f19⟩ := mayM_facts hmay
  have b1 := bigL_one (show 0 ≤ m.kind by omega) (show m.kind < 256 by omega)
  have b2 := bigL_one (show 0 ≤ m.src by omega) (show m.src < 256 by omega)
  have b3 := bigL_one (show 0 ≤ m.dst by omega) (show m.dst < 256 by omega)
  have b4 := bigL_one (show 0 ≤ m.n by omega) (show m.n < 256 by omega)
  have b5 := bigL_one (show 0 ≤ m.commit by omega) (show m.commit < 256 by omega)
  have b6 := bigL_one (show 0 ≤ (m.log.length : Int) by omega) (show (m.log.length : Int) < 256 by omega)
  have b7 := bigL_one (show 0 ≤ m.client by omega) (show m.client < 256 by omega)
  have b8 := bigL_one (show 0 ≤ (m.reply.ids.length : Int) by omega) (show (m.reply.ids.length : Int) < 256 by omega)
  unfold encM enc5 enc4 enc3 enc2 enc1 onesL
  simp only [List.flatMap_cons, List.flatMap_nil, b1, b2, b3, b4, b5, b6, b7, b8, nums_length, List.append_assoc, List.append_nil, List.cons_append, List.nil_append]
set_option maxHeartbeats 4000000 in
theorem decP_fw {m : MsgT} (hmay : mayM m = true) (hk : m.okA) (t : List Int) : decP (encM m ++ t) = if t ≠ [] then (msg0, 42) else (m, 0) := by
  obtain ⟨⟨f1, f2⟩, ⟨f3, f4⟩, ⟨f5, f6⟩, ⟨f7, f8⟩, ⟨f9, f10⟩, f11, f12, ⟨f13, f14⟩, ⟨f15, f16⟩, f17, f18, f19⟩ := mayM_facts hmay
  obtain ⟨k1, k2, k3, k4, k5, k6, k7, k8, k9, k10, k11, k12⟩ := hk
  have hlg : ∀ r ∈ m.log, rightB r = true ∧ r.okA := fun r hr => ⟨f12 r hr, k8 r hr⟩
  have hbl : (nums m.block).length = m.block.size := nums_length _
  rw [encM_parts hmay]
  unfold decP
  rw [u8N_fw3 ⟨by omega, by omega⟩ ⟨by omega, by omega⟩ ⟨by omega, by omega⟩]
  simp only [ne_eq, not_true_eq_false, ↓reduceIte]
  rw [fixL_fw4 k4.1 k4.2]
  simp only [ne_eq, not_true_eq_false, ↓reduceIte]
  rw [fixL_fw4 k5.1 k5.2]
  simp only [ne_eq, not_true_eq_false, ↓reduceIte]
  rw [fixL_one (by omega) (by omega)]
  simp only [ne_eq, not_true_eq_false, ↓reduceIte]
  rw [fixL_one (by omega) (by omega)]
  simp only [ne_eq, not_true_eq_false, ↓reduceIte]
  rw [listR_fw hlg f11]
  simp only [ne_eq, not_true_eq_false, ↓reduceIte]
  unfold decL
  rw [fixL_one (by omega) (by omega)]
  simp only [ne_eq, not_true_eq_false, ↓reduceIte]
  rw [fixL_fw4 k9.1 k9.2]
  simp only [ne_eq, not_true_eq_false, ↓reduceIte]
  rw [fixL_fw2 f15 (by omega)]
  simp only [ne_eq, not_true_eq_false, ↓reduceIte]
  rw [listU_fw k10 f17]
  simp only [ne_eq, not_true_eq_false, ↓reduceIte]
  rw [progR_fw k11 f18]
  simp only [ne_eq, not_true_eq_false, ↓reduceIte]
  unfold decT
  rw [hashS_fw m.hash]
  simp only [ne_eq, not_true_eq_false, ↓reduceIte]
  rw [readL_fw _ (by omega)]
  simp only [ne_eq, not_true_eq_false, ↓reduceIte]
  rw [str_nums]
  by_cases ht : t = []
  · have h1 : ¬ (t ≠ []) := by simp [ht]
    rw [if_neg h1, if_neg h1]
    have e : ({ kind := [m.kind, m.src, m.dst].getD 0 0, src := [m.kind, m.src, m.dst].getD 1 0, dst := [m.kind, m.src, m.dst].getD 2 0, view := m.view, last := m.last, n := m.n, commit := m.commit, log := m.log, client := m.client, seq := m.seq, reply := ⟨m.reply.e, m.reply.ids, m.reply.v⟩, hash := m.hash, block := m.block } : MsgT) = m := rfl
    rw [e, if_neg (by rw [hmay]; simp)]
  · rw [if_pos ht, if_pos ht]
set_option maxHeartbeats 4000000 in
theorem decP_cut {m : MsgT} (hmay : mayM m = true) (hk : m.okA) {q u : List Int} (hu : u ≠ []) (h : encM m = q ++ u) : (decP q).2 = 40 := by
  obtain ⟨⟨f1, f2⟩, ⟨f3, f4⟩, ⟨f5, f6⟩, ⟨f7, f8⟩, ⟨f9, f10⟩, f11, f12, ⟨f13, f14⟩, ⟨f15, f16⟩, f17, f18, f19⟩ := mayM_facts hmay
  obtain ⟨k1, k2, k3, k4, k5, k6, k7, k8, k9, k10, k11, k12⟩ := hk
  have hlg : ∀ r ∈ m.log, rightB r = true ∧ r.okA := fun r hr => ⟨f12 r hr, k8 r hr⟩
  have hbl : (nums m.block).length = m.block.size := nums_length _
  have h0 : encM m ++ [] = q ++ u := by rw [List.append_nil]; exact h
  rw [encM_parts hmay] at h0
  unfold decP
  rcases app_cut h0 hu with ⟨q0, rfl, h1⟩ | ⟨u', hu', h1⟩
  rotate_left
  · have e := u8N_cut3 ⟨by omega, by omega⟩ ⟨by omega, by omega⟩ ⟨by omega, by omega⟩ hu' h1
    rw [show u8N 3 [] q = ((u8N 3 [] q).1, (u8N 3 [] q).2.1, (u8N 3 [] q).2.2) from rfl, e]
    simp
  rw [u8N_fw3 ⟨by omega, by omega⟩ ⟨by omega, by omega⟩ ⟨by omega, by omega⟩]
  simp only [ne_eq, not_true_eq_false, ↓reduceIte]
  rcases app_cut h1 hu with ⟨q1, rfl, h2⟩ | ⟨u', hu', h2⟩
  rotate_left
  · rw [fixL_cut4 hu' h2]; simp
  rw [fixL_fw4 k4.1 k4.2]
  simp only [ne_eq, not_true_eq_false, ↓reduceIte]
  rcases app_cut h2 hu with ⟨q2, rfl, h3⟩ | ⟨u', hu', h3⟩
  rotate_left
  · rw [fixL_cut4 hu' h3]; simp
  rw [fixL_fw4 k5.1 k5.2]
  simp only [ne_eq, not_true_eq_false, ↓reduceIte]
  rcases app_cut h3 hu with ⟨q3, rfl, h4⟩ | ⟨u', hu', h4⟩
  rotate_left
  · rw [fixL_cut1 hu' h4]; simp
  rw [fixL_one (by omega) (by omega)]
  simp only [ne_eq, not_true_eq_false, ↓reduceIte]
  rcases app_cut h4 hu with ⟨q4, rfl, h5⟩ | ⟨u', hu', h5⟩
  rotate_left
  · rw [fixL_cut1 hu' h5]; simp
  rw [fixL_one (by omega) (by omega)]
  simp only [ne_eq, not_true_eq_false, ↓reduceIte]
  rcases app_cut h5 hu with ⟨q5, rfl, h6⟩ | ⟨u', hu', h6⟩
  rotate_left
  · have e := listR_cut hlg f11 hu' h6
    rw [show listR 40 q4 = ((listR 40 q4).1, (listR 40 q4).2.1, (listR 40 q4).2.2) from rfl, e]
    simp
  rw [listR_fw hlg f11]
  simp only [ne_eq, not_true_eq_false, ↓reduceIte]
  unfold decL
  rcases app_cut h6 hu with ⟨q6, rfl, h7⟩ | ⟨u', hu', h7⟩
  rotate_left
  · rw [fixL_cut1 hu' h7]; simp
  rw [fixL_one (by omega) (by omega)]
  simp only [ne_eq, not_true_eq_false, ↓reduceIte]
  rcases app_cut h7 hu with ⟨q7, rfl, h8⟩ | ⟨u', hu', h8⟩
  rotate_left
  · rw [fixL_cut4 hu' h8]; simp
  rw [fixL_fw4 k9.1 k9.2]
  simp only [ne_eq, not_true_eq_false, ↓reduceIte]
  rcases app_cut h8 hu with ⟨q8, rfl, h9⟩ | ⟨u', hu', h9⟩
  rotate_left
  · rw [fixL_cut2 hu' h9]; simp
  rw [fixL_fw2 f15 (by omega)]
  simp only [ne_eq, not_true_eq_false, ↓reduceIte]
  rcases app_cut h9 hu with ⟨q9, rfl, h10⟩ | ⟨u', hu', h10⟩
  rotate_left
  · have e := listU_cut k10 f17 hu' h10
    rw [show listU 8 q8 = ((listU 8 q8).1, (listU 8 q8).2.1, (listU 8 q8).2.2) from rfl, e]
    simp
  rw [listU_fw k10 f17]
  simp only [ne_eq, not_true_eq_false, ↓reduceIte]
  rcases app_cut h10 hu with ⟨q10, rfl, h11⟩ | ⟨u', hu', h11⟩
  rotate_left
  · have e := progR_cut k11 f18 hu' h11
    rw [show progR q9 = ((progR q9).1, (progR q9).2.1, (progR q9).2.2) from rfl, e]
    simp
  rw [progR_fw k11 f18]
  simp only [ne_eq, not_true_eq_false, ↓reduceIte]
  unfold decT
  rcases app_cut h11 hu with ⟨q11, rfl, h12⟩ | ⟨u', hu', h12⟩
  rotate_left
  · have e := hashS_cut hu' h12
    rw [show hashS (q10, 0) = ((hashS (q10, 0)).1, ((hashS (q10, 0)).2.1, (hashS (q10, 0)).2.2)) from rfl, e]
    simp
  rw [hashS_fw m.hash]
  simp only [ne_eq, not_true_eq_false, ↓reduceIte]
  rw [List.append_nil] at h12
  have e := readL_cut (by omega) hu h12
  rw [show readL q11 = ((readL q11).1, (readL q11).2.1, (readL q11).2.2) from rfl, e]
  simp
end Go.Fw
