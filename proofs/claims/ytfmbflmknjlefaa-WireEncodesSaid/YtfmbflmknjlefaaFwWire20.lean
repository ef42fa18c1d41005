import Derived.Test.YtfmbflmknjlefaaFwWire19
set_option linter.unusedSimpArgs false
set_option linter.unusedVariables false
set_option maxRecDepth 4000
namespace Go.Fw
open Go.Proofs Go.RowKit
theorem Try.enters22 : Enters Try.prog 22 := enters_of Try.func22 rfl (by kernel_rfl)
theorem bin_sadd_str {P : Program} {t : TypeId} {x y : Operand} (a b : List Int) (h : a.length + b.length ≤ 9223372036854775807) : abin P .add t x y (.string (strOfNums a)) (.string (strOfNums b)) = some (.string (strOfNums (a ++ b))) := by
  rw [bin_sadd (h := by rw [str_size, str_size]; exact h), str_append]
set_option maxHeartbeats 16000000 in
theorem rencm_ok (w0 : World) (A : St) (m : MsgT) (mc : List Value) (hm : MsgC A m mc) (hs : m.small) (hk : m.okA) : ACalls Try.prog w0 22 #[.agg mc.toArray] A (fin (strIntV (encB m)) A) := by
  have hml := hm.len
  have hmc := hm
  have hs0 := hs
  obtain ⟨s1, s2, s3, s4, s5⟩ := hs
  obtain ⟨k1, k2, k3, k4, k5, k6, k7, k8, k9, k10, k11, k12⟩ := hk
  obtain ⟨lg, w, p, q, u, rfl, v1, v2, v3, v4, v5⟩ := hm
  obtain ⟨ad, ac, rfl⟩ := NV.sl v1
  obtain ⟨bd, bc, rfl⟩ := View.sl v2
  refine call_E Try.enters22 Try.func22 rfl (Nat.le_of_ble_eq_true rfl) fun hw hbd => ?_
  obtain ⟨A1, hA1⟩ : ∃ A1, A1 = A.alloc (.cells (.int .i64 m.kind :: .int .i64 m.src :: .int .i64 m.dst :: .int .u32 m.view :: .int .u32 m.last :: .int .i64 m.n :: .int .i64 m.commit :: .slice ad m.log.length ac :: .int .i64 m.client :: .int .u32 m.seq :: .int .i64 m.reply.e :: .slice bd m.reply.ids.length bc :: .int .u32 m.reply.v.id :: p :: q :: u :: (hsC m.hash ++ [.string m.block])) 53 (some 0)) := ⟨_, rfl⟩
  have o1 : Over A A1 := hA1 ▸ (Over.refl A).alloc _
  have g1 : A1.get A.next = some (.cells (.int .i64 m.kind :: .int .i64 m.src :: .int .i64 m.dst :: .int .u32 m.view :: .int .u32 m.last :: .int .i64 m.n :: .int .i64 m.commit :: .slice ad m.log.length ac :: .int .i64 m.client :: .int .u32 m.seq :: .int .i64 m.reply.e :: .slice bd m.reply.ids.length bc :: .int .u32 m.reply.v.id :: p :: q :: u :: (hsC m.hash ++ [.string m.block])) 53 (some 0)) := by rw [hA1]; exact get_alloc_same ..
  have hbk := blk_at m.hash (.string m.block)
  have htk : List.take 33 (hsC m.hash ++ [Value.string m.block]) = hsC m.hash ++ [Value.string m.block] := List.take_of_length_le (by rw [List.length_append, hsC_len]; exact Nat.le_refl _)
  have hth : List.take 32 (hsC m.hash ++ [Value.string m.block]) = hsC m.hash := List.take_left' (hsC_len m.hash)
  have ldV := ld_agg (sz := 4) (off := 12) (e' := 53) (m := some 0) (cells := .int .i64 m.kind :: .int .i64 m.src :: .int .i64 m.dst :: .int .u32 m.view :: .int .u32 m.last :: .int .i64 m.n :: .int .i64 m.commit :: .slice ad m.log.length ac :: .int .i64 m.client :: .int .u32 m.seq :: .int .i64 m.reply.e :: .slice bd m.reply.ids.length bc :: .int .u32 m.reply.v.id :: p :: q :: u :: (hsC m.hash ++ [.string m.block])) (cs := [.int .u32 m.reply.v.id, p, q, u]) (by rw [hml]; omega) rfl
  have w1 := v1.ge o1.ge
  simp (maxSteps := 1000000) (disch := (first | omega | (simp only [nx_alloc, nx_upd, len_cons, len_nil, List.length_set, List.length_map, List.length_append] <;> omega) | fail)) only [go_sem, Try.ntmps22, Try.results22]
  rw [← hA1]
  simp (maxSteps := 1000000) (disch := (first | omega | (simp only [nx_alloc, nx_upd, len_cons, len_nil, List.length_set, List.length_map, List.length_append] <;> omega) | fail)) only [go_sem, g1, htk]
  refine call1 (rmaym_ok w0 A1 m _ (hmc.ge o1.ge) hs0) ?_
  cases hmay : mayM m
  · simp (maxSteps := 1000000) (disch := (first | omega | (simp only [nx_alloc, nx_upd, len_cons, len_nil, List.length_set, List.length_map, List.length_append] <;> omega) | fail)) only [go_sem, Try.results22]
    exact gc_fin' hw o1 (by unfold encB; rw [hmay]; rfl) (bnd_strIntV _ _)
  obtain ⟨⟨f1, f2⟩, ⟨f3, f4⟩, ⟨f5, f6⟩, ⟨f7, f8⟩, ⟨f9, f10⟩, f11, f12, ⟨f13, f14⟩, ⟨f15, f16⟩, f17, f18, f19⟩ := mayM_facts hmay
  obtain ⟨vw, hvw⟩ := Int.eq_ofNat_of_zero_le k4.1
  obtain ⟨la, hla⟩ := Int.eq_ofNat_of_zero_le k5.1
  obtain ⟨sq, hsq⟩ := Int.eq_ofNat_of_zero_le k9.1
  obtain ⟨er, her⟩ := Int.eq_ofNat_of_zero_le f15
  have hbs4 : ∀ n : Nat, bigS n 4 = bigL n 4 := fun n => rfl
  have hbs2 : ∀ n : Nat, bigS n 2 = bigL n 2 := fun n => rfl
  have zv := bigL_length vw 4
  have zl := bigL_length la 4
  have zs := bigL_length sq 4
  have ze := bigL_length er 2
  simp (maxSteps := 1000000) (disch := (first | omega | (simp only [nx_alloc, nx_upd, len_cons, len_nil, List.length_set, List.length_map, List.length_append] <;> omega) | fail)) only [go_sem]
  refine aw_draw (by kernel_rfl) ?_
  try simp (maxSteps := 1000000) (disch := (first | omega | (simp only [nx_alloc, nx_upd, len_cons, len_nil, List.length_set, List.length_map, List.length_append] <;> omega) | fail)) only [go_sem, g1, hvw, hla]
  refine ⟨_, one_ok w0 A1 m.kind (by omega) (by omega), ?_⟩
  try simp (maxSteps := 1000000) (disch := (first | omega | (simp only [nx_alloc, nx_upd, len_cons, len_nil, List.length_set, List.length_map, List.length_append] <;> omega) | fail)) only [go_sem, g1, hvw, hla]
  refine ⟨_, one_ok w0 A1 m.src (by omega) (by omega), ?_⟩
  try simp (maxSteps := 1000000) (disch := (first | omega | (simp only [nx_alloc, nx_upd, len_cons, len_nil, List.length_set, List.length_map, List.length_append] <;> omega) | fail)) only [go_sem, g1, hvw, hla, bin_sadd_str]
  refine ⟨_, one_ok w0 A1 m.dst (by omega) (by omega), ?_⟩
  try simp (maxSteps := 1000000) (disch := (first | omega | (simp only [nx_alloc, nx_upd, len_cons, len_nil, List.length_set, List.length_map, List.length_append] <;> omega) | fail)) only [go_sem, g1, hvw, hla, bin_sadd_str]
  refine ⟨_, rbig_ok w0 A1 vw 4 (by omega), ?_⟩
  rw [hbs4]
  try simp (maxSteps := 1000000) (disch := (first | omega | (simp only [nx_alloc, nx_upd, len_cons, len_nil, List.length_set, List.length_map, List.length_append] <;> omega) | fail)) only [go_sem, g1, hvw, hla, bin_sadd_str]
  refine ⟨_, rbig_ok w0 A1 la 4 (by omega), ?_⟩
  rw [hbs4]
  try simp (maxSteps := 1000000) (disch := (first | omega | (simp only [nx_alloc, nx_upd, len_cons, len_nil, List.length_set, List.length_map, List.length_append] <;> omega) | fail)) only [go_sem, g1, hvw, hla, bin_sadd_str]
  refine ⟨_, one_ok w0 A1 m.n (by omega) (by omega), ?_⟩
  try simp (maxSteps := 1000000) (disch := (first | omega | (simp only [nx_alloc, nx_upd, len_cons, len_nil, List.length_set, List.length_map, List.length_append] <;> omega) | fail)) only [go_sem, g1, bin_sadd_str]
  refine ⟨_, one_ok w0 A1 m.commit (by omega) (by omega), ?_⟩
  try simp (maxSteps := 1000000) (disch := (first | omega | (simp only [nx_alloc, nx_upd, len_cons, len_nil, List.length_set, List.length_map, List.length_append] <;> omega) | fail)) only [go_sem, g1, bin_sadd_str]
  refine ⟨_, one_ok w0 A1 m.log.length (by omega) (by omega), ?_⟩
  try simp (maxSteps := 1000000) (disch := (first | omega | (simp only [nx_alloc, nx_upd, len_cons, len_nil, List.length_set, List.length_map, List.length_append] <;> omega) | fail)) only [go_sem, g1, bin_sadd_str]
  have b1 := bigL_one (show 0 ≤ m.kind by omega) (show m.kind < 256 by omega)
  have b2 := bigL_one (show 0 ≤ m.src by omega) (show m.src < 256 by omega)
  have b3 := bigL_one (show 0 ≤ m.dst by omega) (show m.dst < 256 by omega)
  have b4 := bigL_one (show 0 ≤ m.n by omega) (show m.n < 256 by omega)
  have b5 := bigL_one (show 0 ≤ m.commit by omega) (show m.commit < 256 by omega)
  have b6 := bigL_one (show 0 ≤ (m.log.length : Int) by omega) (show (m.log.length : Int) < 256 by omega)
  have b7 := bigL_one (show 0 ≤ m.client by omega) (show m.client < 256 by omega)
  have b8 := bigL_one (show 0 ≤ (m.reply.ids.length : Int) by omega) (show (m.reply.ids.length : Int) < 256 by omega)
  rw [Int.toNat_natCast] at b6 b8
  have y2 : (enc2 m).length = 14 := by unfold enc2 enc1; simp only [List.length_append, onesL_len, bigL_length, List.length_cons, List.length_nil]
  have yl := logL_len m.log f12
  refine aw_loop (fun k x A' => ∃ (ρ : Nat → Value) (i : Nat), x = E 119 ρ [] ∧ A' = A1 ∧ k = m.log.length - i ∧ i ≤ m.log.length ∧
      ρ 1 = .pointer (some ⟨A.next, 0, none⟩) ∧ ρ 4 = .string (strOfNums (enc2 m ++ logL (m.log.take i))) ∧ ρ 5 = .int .i64 i) m.log.length
    ⟨_, 0, rfl, rfl, rfl, Nat.zero_le _, rfl, congrArg (fun l => Value.string (strOfNums l)) (by unfold enc2 enc1 onesL logL; simp only [List.flatMap_cons, List.flatMap_nil, b1, b2, b3, b4, b5, b6, hvw, hla, Int.toNat_natCast, List.take_zero, List.append_nil, List.cons_append, List.nil_append, List.append_assoc]), rfl⟩ ?_
  rintro k x A' ⟨ρ, i, rfl, rfl, hk, hi, r1, r4, r5⟩
  refine aw_of ?_
  by_cases hend : i = m.log.length
  rotate_left
  · have e1 : ((i : Int) < m.log.length) := by omega
    obtain ⟨r, hr⟩ : ∃ r, m.log[i]? = some r := ⟨m.log[i]'(by omega), List.getElem?_eq_getElem (by omega)⟩
    have hmem := List.mem_of_getElem? hr
    obtain ⟨b, off, qc, q1, q2, q3, q4, cells, e', md, q5, q6, q7⟩ := w1.at (P := Try.prog) (e := 31) Try.sz31 hr
    have hldq := ld_agg (e' := e') (m := md) q6 q7
    have hpr : putR r = strOfNums (putL r) := if_pos (f12 r hmem)
    have yt := logL_len (m.log.take i) (fun r hr => f12 r (List.mem_of_mem_take hr))
    have ytl : (m.log.take i).length ≤ 40 := by rw [List.length_take]; omega
    have ypl := putL_len (f12 r hmem)
    simp (maxSteps := 1000000) (disch := (first | omega | (simp only [nx_alloc, nx_upd, len_cons, len_nil, List.length_set, List.length_map, List.length_append] <;> omega) | fail)) only [go_sem, g1, r1, r4, r5, q2, q5, hldq]
    have hput := rputq_ok w0 A' r qc q3 (s1 r hmem) (k8 r hmem)
    rw [hpr] at hput
    refine call1 hput ?_
    simp (maxSteps := 1000000) (disch := (first | omega | (simp only [nx_alloc, nx_upd, len_cons, len_nil, List.length_set, List.length_map, List.length_append] <;> omega) | fail)) only [go_sem, r4, r5, bin_sadd_str]
    refine ⟨k - 1, by omega, _, i + 1, rfl, by omega, by omega, ?_, ?_, ?_⟩
    · simp (maxSteps := 1000000) (disch := (first | omega | (simp only [nx_alloc, nx_upd, len_cons, len_nil, List.length_set, List.length_map, List.length_append] <;> omega) | fail)) only [go_sem, r1]
    · simp (maxSteps := 1000000) (disch := (first | omega | (simp only [nx_alloc, nx_upd, len_cons, len_nil, List.length_set, List.length_map, List.length_append] <;> omega) | fail)) only [go_sem]
      rw [logL_snoc _ _ _ hr, List.append_assoc]
    · simp (maxSteps := 1000000) (disch := (first | omega | (simp only [nx_alloc, nx_upd, len_cons, len_nil, List.length_set, List.length_map, List.length_append] <;> omega) | fail)) only [go_sem]
      rfl
  have e1 : ¬ ((i : Int) < m.log.length) := by omega
  rw [hend, List.take_length] at r4
  change ρ 4 = .string (strOfNums (enc3 m)) at r4
  have y3 : (enc3 m).length ≤ 41000 := by unfold enc3; rw [List.length_append]; omega
  have r5' := r5
  clear r5
  subst hend
  simp (maxSteps := 1000000) (disch := (first | omega | (simp only [nx_alloc, nx_upd, len_cons, len_nil, List.length_set, List.length_map, List.length_append] <;> omega) | fail)) only [go_sem, g1, r1, r4, r5']
  refine aw_draw (by kernel_rfl) ?_
  simp (maxSteps := 1000000) (disch := (first | omega | (simp only [nx_alloc, nx_upd, len_cons, len_nil, List.length_set, List.length_map, List.length_append] <;> omega) | fail)) only [go_sem, g1, r1, r4, hsq, her]
  refine ⟨_, one_ok w0 A' m.client (by omega) (by omega), ?_⟩
  simp (maxSteps := 1000000) (disch := (first | omega | (simp only [nx_alloc, nx_upd, len_cons, len_nil, List.length_set, List.length_map, List.length_append] <;> omega) | fail)) only [go_sem, g1, r1, r4, hsq, her, bin_sadd_str]
  refine ⟨_, rbig_ok w0 A' sq 4 (by omega), ?_⟩
  rw [hbs4]
  simp (maxSteps := 1000000) (disch := (first | omega | (simp only [nx_alloc, nx_upd, len_cons, len_nil, List.length_set, List.length_map, List.length_append] <;> omega) | fail)) only [go_sem, g1, r1, hsq, her, bin_sadd_str]
  refine ⟨_, rbig_ok w0 A' er 2 (by omega), ?_⟩
  rw [hbs2]
  simp (maxSteps := 1000000) (disch := (first | omega | (simp only [nx_alloc, nx_upd, len_cons, len_nil, List.length_set, List.length_map, List.length_append] <;> omega) | fail)) only [go_sem, g1, r1, hsq, her, bin_sadd_str]
  refine ⟨_, one_ok w0 A' m.reply.ids.length (by omega) (by omega), ?_⟩
  simp (maxSteps := 1000000) (disch := (first | omega | (simp only [nx_alloc, nx_upd, len_cons, len_nil, List.length_set, List.length_map, List.length_append] <;> omega) | fail)) only [go_sem, g1, r1, bin_sadd_str]
  have y4 : (enc4 m).length ≤ 41020 := by unfold enc4; simp only [List.length_append, bigL_length]; omega
  have w2 : IdView A' m.reply.ids _ := View.over v2 o1
  refine aw_loop (fun k x A2 => ∃ (ρ : Nat → Value) (i : Nat), x = E 119 ρ [] ∧ A2 = A' ∧ k = m.reply.ids.length - i ∧ i ≤ m.reply.ids.length ∧
      ρ 1 = .pointer (some ⟨A.next, 0, none⟩) ∧ ρ 4 = .string (strOfNums (enc4 m ++ idsL (m.reply.ids.take i))) ∧ ρ 6 = .int .i64 i) m.reply.ids.length
    ⟨_, 0, rfl, rfl, rfl, Nat.zero_le _, by first | rfl | exact r1, congrArg (fun l => Value.string (strOfNums l)) (by unfold enc4 idsL; simp only [List.flatMap_nil, b7, b8, hsq, her, Int.toNat_natCast, List.take_zero, List.append_nil, List.cons_append, List.nil_append, List.append_assoc]), rfl⟩ ?_
  rintro k x A2 ⟨ρ, i, rfl, rfl, hk, hi, r1, r4, r6⟩
  refine aw_of ?_
  by_cases hend : i = m.reply.ids.length
  rotate_left
  · have e1 : ((i : Int) < m.reply.ids.length) := by omega
    obtain ⟨r, hr⟩ : ∃ r, m.reply.ids[i]? = some r := ⟨m.reply.ids[i]'(by omega), List.getElem?_eq_getElem (by omega)⟩
    have hmem := k10 r (List.mem_of_getElem? hr)
    obtain ⟨rn, hrn⟩ := Int.eq_ofNat_of_zero_le hmem.1
    obtain ⟨pb, po, q1, q2, q3, cells, e', md, q4, q5⟩ := View.at1 (P := Try.prog) (e := 22) w2 Try.sz22 (u32E_at' _ i r hr)
    have ytl : (m.reply.ids.take i).length ≤ 8 := by rw [List.length_take]; omega
    have yt := idsL_len (m.reply.ids.take i)
    have ypl := bigL_length rn 4
    simp (maxSteps := 1000000) (disch := (first | omega | (simp only [nx_alloc, nx_upd, len_cons, len_nil, List.length_set, List.length_map, List.length_append] <;> omega) | fail)) only [go_sem, g1, r1, r4, r6, q3, q4, q5, hrn]
    refine call1 (rbig_ok w0 A2 rn 4 (by omega)) ?_
    rw [hbs4]
    simp (maxSteps := 1000000) (disch := (first | omega | (simp only [nx_alloc, nx_upd, len_cons, len_nil, List.length_set, List.length_map, List.length_append] <;> omega) | fail)) only [go_sem, r4, r6, bin_sadd_str]
    refine ⟨k - 1, by omega, _, i + 1, rfl, by omega, by omega, ?_, ?_, ?_⟩
    · simp (maxSteps := 1000000) (disch := (first | omega | (simp only [nx_alloc, nx_upd, len_cons, len_nil, List.length_set, List.length_map, List.length_append] <;> omega) | fail)) only [go_sem, r1]
    · simp (maxSteps := 1000000) (disch := (first | omega | (simp only [nx_alloc, nx_upd, len_cons, len_nil, List.length_set, List.length_map, List.length_append] <;> omega) | fail)) only [go_sem]
      rw [idsL_snoc _ _ _ hr, hrn, Int.toNat_natCast, List.append_assoc]
    · simp (maxSteps := 1000000) (disch := (first | omega | (simp only [nx_alloc, nx_upd, len_cons, len_nil, List.length_set, List.length_map, List.length_append] <;> omega) | fail)) only [go_sem]
      rfl
  have e1 : ¬ ((i : Int) < m.reply.ids.length) := by omega
  rw [hend, List.take_length] at r4
  change ρ 4 = .string (strOfNums (enc5 m)) at r4
  have y5 : (enc5 m).length ≤ 41060 := by unfold enc5; rw [List.length_append, idsL_len]; omega
  have r6' := r6
  clear r6
  subst hend
  have henc := rencode_ok w0 A2 m.reply.v _ ⟨_, _, _, rfl, View.over v3 o1, View.over v4 o1, View.over v5 o1⟩ s2 k11
  have he : encR m.reply.v = (strOfNums (encV m.reply.v), 0) := if_pos f18
  rw [he] at henc
  simp (maxSteps := 1000000) (disch := (first | omega | (simp only [nx_alloc, nx_upd, len_cons, len_nil, List.length_set, List.length_map, List.length_append] <;> omega) | fail)) only [go_sem, g1, r1, r4, r6', ldV]
  refine call1 henc ?_
  have hvb := encV_bound f18
  have hhl := m.hash.2
  have htx := enc_le10 m.block.size (by omega)
  have hnb := nums_length m.block
  unfold strIntV
  simp (maxSteps := 1000000) (disch := (first | omega | (simp only [nx_alloc, nx_upd, len_cons, len_nil, List.length_set, List.length_map, List.length_append] <;> omega) | fail)) only [go_sem, r1, r4]
  refine aw_draw (by kernel_rfl) ?_
  simp (maxSteps := 1000000) (disch := (first | omega | (simp only [nx_alloc, nx_upd, len_cons, len_nil, List.length_set, List.length_map, List.length_append] <;> omega) | fail)) only [go_sem, g1, r1, r4, hth, hbk, bin_sadd_str]
  refine ⟨_, bytes_ok w0 A2 m.hash, ?_⟩
  simp (maxSteps := 1000000) (disch := (first | omega | (simp only [nx_alloc, nx_upd, len_cons, len_nil, List.length_set, List.length_map, List.length_append] <;> omega) | fail)) only [go_sem, g1, r1, hbk, bin_sadd_str]
  refine ⟨_, rtext_ok w0 A2 m.block (by omega), ?_⟩
  simp (maxSteps := 1000000) (disch := (first | omega | (simp only [nx_alloc, nx_upd, len_cons, len_nil, List.length_set, List.length_map, List.length_append] <;> omega) | fail)) only [go_sem, bin_sadd_str, Try.results22]
  refine gc_fin' hw o1 ?_ (bnd_strIntV _ _)
  unfold encB encM
  rw [hmay, if_pos rfl]
  try simp only [List.append_assoc]
  try rfl
end Go.Fw
