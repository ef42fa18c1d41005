import Derived.Test.YtfmbflmknjlefaaFwWire10
set_option linter.unusedSimpArgs false
set_option linter.unusedVariables false
set_option maxRecDepth 4000
namespace Go.Fw
open Go.Proofs Go.RowKit
theorem endB_nn {n : Int} (h : endB n = true) : 0 ≤ n ∧ n ≤ 12 := by
  unfold endB cliB at h
  simp only [Bool.or_eq_true, decide_eq_true_eq] at h
  omega
theorem mayM_facts {m : MsgT} (h : mayM m = true) : (1 ≤ m.kind ∧ m.kind ≤ 14) ∧ (0 ≤ m.src ∧ m.src ≤ 12) ∧ (0 ≤ m.dst ∧ m.dst ≤ 12) ∧ (0 ≤ m.n ∧ m.n ≤ 40) ∧ (0 ≤ m.commit ∧ m.commit ≤ 40) ∧ m.log.length ≤ 40 ∧ (∀ r ∈ m.log, rightB r = true) ∧ (0 ≤ m.client ∧ m.client < 3) ∧ (0 ≤ m.reply.e ∧ m.reply.e ≤ 1000) ∧ m.reply.ids.length ≤ 8 ∧ mayB m.reply.v = true ∧ m.block.size ≤ 1000 := by
  unfold mayM opsB at h
  simp only [Bool.and_eq_true, decide_eq_true_eq, List.all_eq_true] at h
  obtain ⟨⟨⟨⟨⟨⟨⟨⟨⟨⟨⟨⟨⟨h1, h2⟩, h3⟩, h4⟩, h5⟩, h6⟩, h7⟩, h8⟩, h9⟩, h10⟩, h11⟩, h12⟩, h13⟩, h14⟩ := h
  unfold cliB at h9
  exact ⟨⟨h1, h2⟩, endB_nn h3, endB_nn h4, h5, h6, by omega, h8, by simpa using h9, ⟨h10, h11⟩, h12, h13, h14⟩
/-- A message's bytes. -/
def onesL (l : List Int) : List Int := l.flatMap fun n => bigL n.toNat 1
def idsL (l : List Int) : List Int := l.flatMap fun n => bigL n.toNat 4
def logL (l : List ReqT) : List Int := l.flatMap putL
def enc1 (m : MsgT) : List Int := onesL [m.kind, m.src, m.dst] ++ bigL m.view.toNat 4 ++ bigL m.last.toNat 4
def enc2 (m : MsgT) : List Int := enc1 m ++ onesL [m.n, m.commit, (m.log.length : Int)]
def enc3 (m : MsgT) : List Int := enc2 m ++ logL m.log
def enc4 (m : MsgT) : List Int := enc3 m ++ bigL m.client.toNat 1 ++ bigL m.seq.toNat 4 ++ bigL m.reply.e.toNat 2 ++ bigL (m.reply.ids.length : Int).toNat 1
def enc5 (m : MsgT) : List Int := enc4 m ++ idsL m.reply.ids
def encM (m : MsgT) : List Int := enc5 m ++ encV m.reply.v ++ m.hash.1 ++ (enc m.block.size ++ nums m.block)
def encB (m : MsgT) : ByteArray × Int := if mayM m then (strOfNums (encM m), 0) else (ByteArray.empty, 1)
theorem onesL_len (l : List Int) : (onesL l).length = l.length := by
  unfold onesL; induction l with
  | nil => rfl
  | cons a l ih => rw [List.flatMap_cons, List.length_append, bigL_length, ih, List.length_cons]; omega
theorem idsL_len (l : List Int) : (idsL l).length = 4 * l.length := by
  unfold idsL; induction l with
  | nil => rfl
  | cons a l ih => rw [List.flatMap_cons, List.length_append, bigL_length, ih, List.length_cons]; omega
theorem putL_len {r : ReqT} (h : rightB r = true) : (putL r).length ≤ 1010 := by
  obtain ⟨_, _, _, hm⟩ := rightB_facts h
  have := encV_bound hm
  unfold putL
  split
  · simp only [List.length_cons, List.length_append, bigL_length]; omega
  · simp only [List.length_cons, List.length_append, bigL_length, List.length_nil]; omega
theorem encV_byte {V : VerT} (h : V.ok) : ∀ x ∈ encV V, Byte x := by
  intro x hx
  unfold encV at hx
  simp only [List.mem_append] at hx
  rcases hx with (((hx | hx) | hx) | hx) | hx
  · exact bigL_byte _ _ x hx
  · exact enc_byte _ x hx
  · unfold blkL at hx
    obtain ⟨h1, h2, h3⟩ := List.mem_flatMap.1 hx
    exact h.2.2 h1 h2 x h3
  · exact enc_byte _ x hx
  · unfold namL at hx
    obtain ⟨h1, h2, h3⟩ := List.mem_flatMap.1 hx
    simp only [List.mem_append] at h3
    rcases h3 with (h3 | h3) | h3
    · exact enc_byte _ x h3
    · exact nums_byte _ x h3
    · exact enc_byte _ x h3
theorem putL_byte {r : ReqT} (hk : r.okA) (h : rightB r = true) : ∀ x ∈ putL r, Byte x := by
  obtain ⟨h1, h2, h3, h4⟩ := rightB_facts h
  intro x hx
  unfold putL at hx
  simp only [List.mem_append, List.mem_cons] at hx
  rcases hx with rfl | hx | rfl | hx | hx
  · exact ⟨by omega, by omega⟩
  · exact bigL_byte _ _ x hx
  · exact ⟨by omega, by omega⟩
  · exact bigL_byte _ _ x hx
  · split at hx
    · exact encV_byte hk.2.2.2.2 x hx
    · cases hx
theorem logL_len : ∀ (l : List ReqT), (∀ r ∈ l, rightB r = true) → (logL l).length ≤ 1010 * l.length
  | [], _ => by simp [logL]
  | r :: l, h => by
    have h1 := putL_len (h r (List.mem_cons_self ..))
    have h2 := logL_len l (fun r hr => h r (List.mem_cons_of_mem _ hr))
    unfold logL at h2 ⊢
    rw [List.flatMap_cons, List.length_append, List.length_cons]; omega
theorem onesL_snoc (l : List Int) (i : Nat) (x : Int) (h : l[i]? = some x) : onesL (l.take (i + 1)) = onesL (l.take i) ++ bigL x.toNat 1 := by
  unfold onesL; rw [List.take_add_one, h]; simp
theorem idsL_snoc (l : List Int) (i : Nat) (x : Int) (h : l[i]? = some x) : idsL (l.take (i + 1)) = idsL (l.take i) ++ bigL x.toNat 4 := by
  unfold idsL; rw [List.take_add_one, h]; simp
theorem logL_snoc (l : List ReqT) (i : Nat) (x : ReqT) (h : l[i]? = some x) : logL (l.take (i + 1)) = logL (l.take i) ++ putL x := by
  unfold logL; rw [List.take_add_one, h]; simp
/-- What stays, while a message is written. -/
structure EJ (A : St) (MB : Blk) (acc : List Int) (A' : St) : Prop where
  ov : Over A A'
  n : A.next + 2 ≤ A'.next
  ms : A'.get A.next = some MB
  by' : ByC A' (A.next + 1) (A.next + 2) acc
theorem EJ.ext {A A' A2 : St} {MB : Blk} {acc : List Int} (h : EJ A MB acc A') (o : Over A' A2) : EJ A MB acc A2 := by
  obtain ⟨v, h1, h2⟩ := h.by'
  have hn := h.n
  exact ⟨h.ov.trans o, Nat.le_trans hn o.next, (o.get _ (by omega)).trans h.ms, v, (o.get _ (by omega)).trans h1, h2.over o⟩
theorem EJ.put {A A' : St} {MB : Blk} {acc : List Int} (h : EJ A MB acc A') (w0 : World) (n w : Int) (h0 : 0 ≤ n ∧ n < 4294967296) (hw1 : 1 ≤ w ∧ w ≤ 4) (hl : acc.length ≤ 1000000) :
    ACalls Try.prog w0 31 #[.int .i64 n, .int .i64 w, .pointer (some ⟨A.next + 1, 0, none⟩)] A' fun e A2 => e = .returned (.tuple #[]) ∧ EJ A MB (acc ++ bigL n.toNat w.toNat) A2 ∧ ByK A' (A.next + 1) A2 := by
  refine (wput_ok w0 A' (A.next + 1) (A.next + 2) acc n w h.by' h.n (by omega) h0 hw1 hl).mono ?_
  rintro e A2 ⟨h1, h2, h3, h4⟩
  have := h3.1
  exact ⟨h1, ⟨⟨Nat.le_trans h.ov.next h3.1, fun b hb => (h4 b (by omega) (by omega)).trans (h.ov.get b hb)⟩, Nat.le_trans h.n h3.1, (h4 _ (by omega) (by omega)).trans h.ms, h2⟩, h3⟩
theorem EJ.add {A A' : St} {MB : Blk} {acc new : List Int} (h : EJ A MB acc A') {xT : Nat} {x : Value} {ux : TypeDesc} (hx : Try.prog.underlying xT = some ux) (hux : ∀ k, ux ≠ .int k) (hsrc : srcCells A' 1 x = some (new.length, new.map (.int .u8 ·))) (hl : acc.length + new.length ≤ 1073741824) :
    ∃ v v' A2, A'.get (A.next + 1) = some (.cells [v] 66 (some 0)) ∧ one1 v = true ∧ aappend Try.prog A' 66 xT v x = some (v', A2) ∧ one1 v' = true ∧ A2.get (A.next + 1) = some (.cells [v] 66 (some 0)) ∧ EJ A MB (acc ++ new) (A2.upd (A.next + 1) (some (.cells [v'] 66 (some 0)))) := by
  obtain ⟨v, hg, hr⟩ := h.by'
  have hn := h.n
  obtain ⟨v', A2, h1, h2, h3, h4, h5, h6, h7⟩ := by_add hx hux hg hr hn (by omega) hsrc hl
  have hv1 : one1 v = true := by obtain ⟨ad, c, rfl⟩ := View.sl (Row.view hr); rfl
  refine ⟨v, v', A2, hg, hv1, h1, h2, h3, ⟨Nat.le_trans h.ov.next h5, fun b hb => ?_⟩, Nat.le_trans hn h5, ?_, v', get_upd_same .., h4⟩
  · rw [get_upd_old (by omega), h6 b (by omega)]; exact h.ov.get b hb
  · rw [get_upd_old (by omega), h6 _ (by omega)]; exact h.ms
theorem EJ.add2 {A A' : St} {MB : Blk} {acc n1 n2 : List Int} (h : EJ A MB acc A') {x y : Value} (hs1 : srcCells A' 1 x = some (n1.length, n1.map (.int .u8 ·))) (hs2 : ∀ X : St, X.get A.next = some MB → srcCells X 1 y = some (n2.length, n2.map (.int .u8 ·))) (hl : acc.length + n1.length + n2.length ≤ 1073741824) :
    ∃ v v1 X1 v2 X2, A'.get (A.next + 1) = some (.cells [v] 66 (some 0)) ∧ aappend Try.prog A' 66 9 v x = some (v1, X1) ∧ aappend Try.prog X1 66 66 v1 y = some (v2, X2) ∧ one1 v2 = true ∧ X2.get (A.next + 1) = some (.cells [v] 66 (some 0)) ∧ EJ A MB (acc ++ n1 ++ n2) (X2.upd (A.next + 1) (some (.cells [v2] 66 (some 0)))) := by
  obtain ⟨v, hg, hr⟩ := h.by'
  have hn := h.n
  have hb := Row.rb hr
  obtain ⟨v1, X1, a1, a2, a3, a4, a5⟩ := by_src Try.underlying9 (by intro k; exact TypeDesc.noConfusion) hr hn hs1 (by omega)
  have hb1 := Row.rb a2
  have m1 : ∀ b, b < A.next + 2 → X1.get b = A'.get b := fun b hlt => a4 b (by omega) (fun e => by have := hb b e; omega)
  obtain ⟨v2, X2, b1, b2, b3, b4, b5⟩ := by_src Try.underlying66 (by intro k; exact TypeDesc.noConfusion) a2 (by omega) (hs2 X1 ((m1 _ (by omega)).trans h.ms)) (by rw [List.length_append]; omega)
  have m2 : ∀ b, b < A.next + 2 → X2.get b = A'.get b := fun b hlt => (b4 b (by omega) (fun e => by have := hb1 b e; omega)).trans (m1 b hlt)
  refine ⟨v, v1, X1, v2, X2, hg, a1, b1, ?_, (m2 _ (by omega)).trans hg, ⟨Nat.le_trans h.ov.next (Nat.le_trans a3 b3), fun b hlt => ?_⟩, Nat.le_trans hn (Nat.le_trans a3 b3), ?_, v2, get_upd_same .., ?_⟩
  · obtain ⟨ad, c, rfl⟩ := View.sl (Row.view b2); rfl
  · rw [get_upd_old (by omega), m2 b (by omega)]; exact h.ov.get b hlt
  · rw [get_upd_old (by omega), m2 _ (by omega)]; exact h.ms
  · exact Row.keep b2 (Nat.le_refl _) (fun b _ hb _ => get_upd_old (by omega)) (Nat.le_refl _)
def i64R (A : St) (l : List Int) (s : Nat) : Prop := A.get s = some (.cells (l.map (.int .i64 ·)) 3 (some 0)) ∧ s < A.next
theorem i64R.put {A A2 : St} {l : List Int} {s bb : Nat} (h : i64R A l s) (hk : ByK A bb A2) (hs : s ≠ bb) : i64R A2 l s := ⟨(hk.2 s _ _ h.2 hs h.1 (by decide)).trans h.1, Nat.lt_of_lt_of_le h.2 hk.1⟩
set_option maxHeartbeats 16000000 in
theorem wenc_ok (w0 : World) (A : St) (m : MsgT) (mc : List Value) (hm : MsgC A m mc) (hs : m.small) (hk : m.okA) : ACalls Try.prog w0 14 #[.agg mc.toArray] A (fin (strIntV (encB m)) A) := by
  have hmc := hm
  have hml := hm.len
  obtain ⟨s1, s2, s3, s4, s5⟩ := hs
  obtain ⟨k1, k2, k3, k4, k5, k6, k7, k8, k9, k10, k11, k12⟩ := hk
  obtain ⟨lg, w, p, q, u, rfl, v1, v2, v3, v4, v5⟩ := hm
  obtain ⟨ad, ac, rfl⟩ := NV.sl v1
  obtain ⟨bd, bc, rfl⟩ := View.sl v2
  refine call_E Try.enters14 Try.func14 rfl (Nat.le_of_ble_eq_true rfl) fun hw hbd => ?_
  obtain ⟨A1, hA1⟩ : ∃ A1, A1 = A.alloc (.cells (.int .i64 m.kind :: .int .i64 m.src :: .int .i64 m.dst :: .int .u32 m.view :: .int .u32 m.last :: .int .i64 m.n :: .int .i64 m.commit :: .slice ad m.log.length ac :: .int .i64 m.client :: .int .u32 m.seq :: .int .i64 m.reply.e :: .slice bd m.reply.ids.length bc :: .int .u32 m.reply.v.id :: p :: q :: u :: (hsC m.hash ++ [.string m.block])) 45 (some 0)) := ⟨_, rfl⟩
  have o1 : Over A A1 := hA1 ▸ (Over.refl A).alloc _
  have n1 : A1.next = A.next + 1 := by rw [hA1]; rfl
  have g1 : A1.get A.next = some (.cells (.int .i64 m.kind :: .int .i64 m.src :: .int .i64 m.dst :: .int .u32 m.view :: .int .u32 m.last :: .int .i64 m.n :: .int .i64 m.commit :: .slice ad m.log.length ac :: .int .i64 m.client :: .int .u32 m.seq :: .int .i64 m.reply.e :: .slice bd m.reply.ids.length bc :: .int .u32 m.reply.v.id :: p :: q :: u :: (hsC m.hash ++ [.string m.block])) 45 (some 0)) := by rw [hA1]; exact get_alloc_same ..
  have hbk := blk_at m.hash (.string m.block)
  have htk : List.take 33 (hsC m.hash ++ [Value.string m.block]) = hsC m.hash ++ [Value.string m.block] := List.take_of_length_le (by rw [List.length_append, hsC_len]; exact Nat.le_refl _)
  have ldV := ld_agg (sz := 4) (off := 12) (e' := 45) (m := some 0) (cells := .int .i64 m.kind :: .int .i64 m.src :: .int .i64 m.dst :: .int .u32 m.view :: .int .u32 m.last :: .int .i64 m.n :: .int .i64 m.commit :: .slice ad m.log.length ac :: .int .i64 m.client :: .int .u32 m.seq :: .int .i64 m.reply.e :: .slice bd m.reply.ids.length bc :: .int .u32 m.reply.v.id :: p :: q :: u :: (hsC m.hash ++ [.string m.block])) (cs := [.int .u32 m.reply.v.id, p, q, u]) (by rw [hml]; omega) rfl
  simp (maxSteps := 1000000) (disch := (first | omega | (simp only [nx_alloc, nx_upd, len_cons, len_nil, List.length_set, List.length_map, List.length_append] <;> omega) | fail)) only [go_sem, Try.ntmps14, Try.results14]
  rw [← hA1]
  simp (maxSteps := 1000000) (disch := (first | omega | (simp only [nx_alloc, nx_upd, len_cons, len_nil, List.length_set, List.length_map, List.length_append] <;> omega) | fail)) only [go_sem, htk]
  refine call1 (wmay_ok w0 A1 m _ (hmc.ge o1.ge) ⟨s1, s2, s3, s4, s5⟩ k2 k3) ?_
  cases hmay : mayM m
  · simp (maxSteps := 1000000) (disch := (first | omega | (simp only [nx_alloc, nx_upd, len_cons, len_nil, List.length_set, List.length_map, List.length_append] <;> omega) | fail)) only [go_sem, Try.results14]
    exact gc_fin' hw o1 (by unfold encB; rw [hmay]; rfl) (bnd_strIntV _ _)
  obtain ⟨⟨f1, f2⟩, ⟨f3, f4⟩, ⟨f5, f6⟩, ⟨f7, f8⟩, ⟨f9, f10⟩, f11, f12, ⟨f13, f14⟩, ⟨f15, f16⟩, f17, f18, f19⟩ := mayM_facts hmay
  simp (maxSteps := 1000000) (disch := (first | omega | (simp only [nx_alloc, nx_upd, len_cons, len_nil, List.length_set, List.length_map, List.length_append] <;> omega) | fail)) only [go_sem, g1, n1]
  obtain ⟨A2, hA2⟩ : ∃ A2, A2 = A1.alloc (.cells [.slice none 0 0] 66 (some 0)) := ⟨_, rfl⟩
  have o2 : Over A1 A2 := hA2 ▸ (Over.refl A1).alloc _
  have n2 : A2.next = A.next + 2 := by rw [hA2]; show A1.next + 1 = _; omega
  have j2 : EJ A (.cells (.int .i64 m.kind :: .int .i64 m.src :: .int .i64 m.dst :: .int .u32 m.view :: .int .u32 m.last :: .int .i64 m.n :: .int .i64 m.commit :: .slice ad m.log.length ac :: .int .i64 m.client :: .int .u32 m.seq :: .int .i64 m.reply.e :: .slice bd m.reply.ids.length bc :: .int .u32 m.reply.v.id :: p :: q :: u :: (hsC m.hash ++ [.string m.block])) 45 (some 0)) [] A2 := ⟨o1.trans o2, by omega, (o2.get _ (by omega)).trans g1, _, by rw [hA2, ← n1]; exact get_alloc_same .., Row.nil ..⟩
  have g2 := j2.ms
  try rw [← hA2]
  obtain ⟨Sa, hSa⟩ : ∃ S, S = A2.alloc (.cells [.int .i64 m.kind, .int .i64 m.src, .int .i64 m.dst] 3 (some 0)) := ⟨_, rfl⟩
  have osa : Over A2 Sa := hSa ▸ (Over.refl A2).alloc _
  have jsa := j2.ext osa
  have rsa : i64R Sa [m.kind, m.src, m.dst] (A.next + 2) := ⟨by rw [hSa, n2.symm]; exact get_alloc_same .., by rw [hSa, n2.symm]; exact Nat.lt_succ_self _⟩
  have hnba : A.next + 2 ≠ A.next + 1 := by have := j2.n; omega
  have haca : (([] : List Int)).length ≤ 900000 := by simp
  try rw [← hSa]
  generalize hcsa : A.next + 2 = csa at *
  refine aw_loop (fun k x A' => ∃ (ρ : Nat → Value) (i : Nat), x = E 127 ρ [] ∧ k = 3 - i ∧ i ≤ 3 ∧ EJ A (.cells (.int .i64 m.kind :: .int .i64 m.src :: .int .i64 m.dst :: .int .u32 m.view :: .int .u32 m.last :: .int .i64 m.n :: .int .i64 m.commit :: .slice ad m.log.length ac :: .int .i64 m.client :: .int .u32 m.seq :: .int .i64 m.reply.e :: .slice bd m.reply.ids.length bc :: .int .u32 m.reply.v.id :: p :: q :: u :: (hsC m.hash ++ [.string m.block])) 45 (some 0)) (([] : List Int) ++ onesL ([m.kind, m.src, m.dst].take i)) A' ∧ i64R A' [m.kind, m.src, m.dst] csa ∧
      ρ 1 = .pointer (some ⟨A.next, 0, none⟩) ∧ ρ 4 = .pointer (some ⟨A.next + 1, 0, none⟩) ∧ ρ 5 = .func (.func 31) #[] #[.pointer (some ⟨A.next + 1, 0, none⟩)] ∧ ρ 26 = .slice (some ⟨csa, 0, none⟩) 3 3 ∧ ρ 27 = .int .i64 3 ∧ ρ 28 = .int .i64 i) 3
    ⟨_, 0, rfl, rfl, Nat.zero_le _, by simpa [onesL] using jsa, rsa, rfl, rfl, rfl, rfl, rfl, rfl⟩ ?_
  rintro k x A' ⟨ρ, i, rfl, hk, hi, j, rr, h1, h4, h5, hsl, hln, hix⟩
  refine aw_of ?_
  by_cases hend : i = 3
  rotate_left
  · have e1 : (i : Int) < 3 := by omega
    obtain ⟨x, hx⟩ : ∃ x, [m.kind, m.src, m.dst][i]? = some x := ⟨_, List.getElem?_eq_getElem (by simp; omega)⟩
    have hxb : 0 ≤ x ∧ x < 4294967296 := by
      match i, hx with
      | 0, hx => cases hx; omega
      | 1, hx => cases hx; omega
      | 2, hx => cases hx; omega
      | n + 3, hx => cases hx
    have hix' : ([.int .i64 m.kind, .int .i64 m.src, .int .i64 m.dst] : List Value)[i]? = some (.int .i64 x) := by
      have : ([m.kind, m.src, m.dst].map (Value.int .i64 ·))[i]? = some (.int .i64 x) := by rw [List.getElem?_map, hx]; rfl
      exact this
    have hrg := rr.1
    simp only [List.map_cons, List.map_nil] at hrg
    have hol := onesL_len ([m.kind, m.src, m.dst].take i)
    have htl : ([m.kind, m.src, m.dst].take i).length ≤ 3 := List.length_take_le' ..
    simp (maxSteps := 1000000) (disch := (first | omega | (simp only [nx_alloc, nx_upd, len_cons, len_nil, List.length_set, List.length_map, List.length_append] <;> omega) | fail)) only [go_sem, h1, h4, h5, hsl, hln, hix, hrg, hix']
    refine (j.put w0 x 1 hxb (by omega) (by rw [List.length_append]; omega)).mono ?_
    rintro _ A3 ⟨rfl, j3, hk3⟩
    simp (maxSteps := 1000000) (disch := (first | omega | (simp only [nx_alloc, nx_upd, len_cons, len_nil, List.length_set, List.length_map, List.length_append] <;> omega) | fail)) only [go_sem, h1, h4, h5, hsl, hln, hix]
    refine ⟨k - 1, by omega, _, i + 1, rfl, by omega, by omega, ?_, rr.put hk3 hnba, ?_, ?_, ?_, ?_, ?_, ?_⟩
    · first
        | (rw [onesL_snoc _ _ _ hx, ← List.append_assoc]; exact j3)
        | (rw [onesL_snoc _ _ _ hx]; exact j3)
    · simp (maxSteps := 1000000) (disch := (first | omega | (simp only [nx_alloc, nx_upd, len_cons, len_nil, List.length_set, List.length_map, List.length_append] <;> omega) | fail)) only [go_sem, h1]
    · simp (maxSteps := 1000000) (disch := (first | omega | (simp only [nx_alloc, nx_upd, len_cons, len_nil, List.length_set, List.length_map, List.length_append] <;> omega) | fail)) only [go_sem, h4]
    · simp (maxSteps := 1000000) (disch := (first | omega | (simp only [nx_alloc, nx_upd, len_cons, len_nil, List.length_set, List.length_map, List.length_append] <;> omega) | fail)) only [go_sem, h5]
    · simp (maxSteps := 1000000) (disch := (first | omega | (simp only [nx_alloc, nx_upd, len_cons, len_nil, List.length_set, List.length_map, List.length_append] <;> omega) | fail)) only [go_sem, hsl]
    · simp (maxSteps := 1000000) (disch := (first | omega | (simp only [nx_alloc, nx_upd, len_cons, len_nil, List.length_set, List.length_map, List.length_append] <;> omega) | fail)) only [go_sem, hln]
    · simp (maxSteps := 1000000) (disch := (first | omega | (simp only [nx_alloc, nx_upd, len_cons, len_nil, List.length_set, List.length_map, List.length_append] <;> omega) | fail)) only [go_sem]
      rfl
  subst hend
  have e1 : ¬ (((3 : Nat) : Int) < 3) := by omega
  rw [show [m.kind, m.src, m.dst].take 3 = [m.kind, m.src, m.dst] from rfl] at j
  have hms := j.ms
  simp (maxSteps := 1000000) (disch := (first | omega | (simp only [nx_alloc, nx_upd, len_cons, len_nil, List.length_set, List.length_map, List.length_append] <;> omega) | fail)) only [go_sem, h1, h4, h5, hsl, hln, hix, hms]
  refine (j.put w0 m.view 4 (by omega) (by omega) (by (try simp only [List.length_append, onesL_len, idsL_len, bigL_length, List.length_cons, List.length_nil, Int.reduceToNat]); omega)).mono ?_
  rintro _ A3 ⟨rfl, j3, hk3⟩
  have hms3 := j3.ms
  simp (maxSteps := 1000000) (disch := (first | omega | (simp only [nx_alloc, nx_upd, len_cons, len_nil, List.length_set, List.length_map, List.length_append] <;> omega) | fail)) only [go_sem, h1, h4, h5, hms3]
  refine (j3.put w0 m.last 4 (by omega) (by omega) (by (try simp only [List.length_append, onesL_len, idsL_len, bigL_length, List.length_cons, List.length_nil, Int.reduceToNat]); omega)).mono ?_
  rintro _ A4 ⟨rfl, j4, hk4⟩
  have hms4 := j4.ms
  simp (maxSteps := 1000000) (disch := (first | omega | (simp only [nx_alloc, nx_upd, len_cons, len_nil, List.length_set, List.length_map, List.length_append] <;> omega) | fail)) only [go_sem, h1, h4, h5, hms4]
  have j5 : EJ A (.cells (.int .i64 m.kind :: .int .i64 m.src :: .int .i64 m.dst :: .int .u32 m.view :: .int .u32 m.last :: .int .i64 m.n :: .int .i64 m.commit :: .slice ad m.log.length ac :: .int .i64 m.client :: .int .u32 m.seq :: .int .i64 m.reply.e :: .slice bd m.reply.ids.length bc :: .int .u32 m.reply.v.id :: p :: q :: u :: (hsC m.hash ++ [.string m.block])) 45 (some 0)) (enc1 m) A4 := j4
  have le1 : (enc1 m).length = 11 := by unfold enc1; simp only [List.length_append, onesL_len, bigL_length, List.length_cons, List.length_nil]
  clear j4 j3 hms hms3 hms4 hk3 hk4 j rr hsl hln hix
  generalize hA5 : A4 = A5 at *
  obtain ⟨Sb, hSb⟩ : ∃ S, S = A5.alloc (.cells [.int .i64 m.n, .int .i64 m.commit, .int .i64 (m.log.length : Int)] 3 (some 0)) := ⟨_, rfl⟩
  have osb : Over A5 Sb := hSb ▸ (Over.refl A5).alloc _
  have jsb := j5.ext osb
  have rsb : i64R Sb [m.n, m.commit, (m.log.length : Int)] (A5.next) := ⟨by rw [hSb]; exact get_alloc_same .., by rw [hSb]; exact Nat.lt_succ_self _⟩
  have hnbb : A5.next ≠ A.next + 1 := by have := j5.n; omega
  have hacb : (enc1 m).length ≤ 900000 := by omega
  try rw [← hSb]
  generalize hcsb : A5.next = csb at *
  refine aw_loop (fun k x A' => ∃ (ρ : Nat → Value) (i : Nat), x = E 127 ρ [] ∧ k = 3 - i ∧ i ≤ 3 ∧ EJ A (.cells (.int .i64 m.kind :: .int .i64 m.src :: .int .i64 m.dst :: .int .u32 m.view :: .int .u32 m.last :: .int .i64 m.n :: .int .i64 m.commit :: .slice ad m.log.length ac :: .int .i64 m.client :: .int .u32 m.seq :: .int .i64 m.reply.e :: .slice bd m.reply.ids.length bc :: .int .u32 m.reply.v.id :: p :: q :: u :: (hsC m.hash ++ [.string m.block])) 45 (some 0)) (enc1 m ++ onesL ([m.n, m.commit, (m.log.length : Int)].take i)) A' ∧ i64R A' [m.n, m.commit, (m.log.length : Int)] csb ∧
      ρ 1 = .pointer (some ⟨A.next, 0, none⟩) ∧ ρ 4 = .pointer (some ⟨A.next + 1, 0, none⟩) ∧ ρ 5 = .func (.func 31) #[] #[.pointer (some ⟨A.next + 1, 0, none⟩)] ∧ ρ 53 = .slice (some ⟨csb, 0, none⟩) 3 3 ∧ ρ 54 = .int .i64 3 ∧ ρ 55 = .int .i64 i) 3
    ⟨_, 0, rfl, rfl, Nat.zero_le _, by simpa [onesL] using jsb, rsb, h1, h4, h5, rfl, rfl, rfl⟩ ?_
  rintro k x A' ⟨ρ, i, rfl, hk, hi, j, rr, h1, h4, h5, hsl, hln, hix⟩
  refine aw_of ?_
  by_cases hend : i = 3
  rotate_left
  · have e1 : (i : Int) < 3 := by omega
    obtain ⟨x, hx⟩ : ∃ x, [m.n, m.commit, (m.log.length : Int)][i]? = some x := ⟨_, List.getElem?_eq_getElem (by simp; omega)⟩
    have hxb : 0 ≤ x ∧ x < 4294967296 := by
      match i, hx with
      | 0, hx => cases hx; omega
      | 1, hx => cases hx; omega
      | 2, hx => cases hx; omega
      | n + 3, hx => cases hx
    have hix' : ([.int .i64 m.n, .int .i64 m.commit, .int .i64 (m.log.length : Int)] : List Value)[i]? = some (.int .i64 x) := by
      have : ([m.n, m.commit, (m.log.length : Int)].map (Value.int .i64 ·))[i]? = some (.int .i64 x) := by rw [List.getElem?_map, hx]; rfl
      exact this
    have hrg := rr.1
    simp only [List.map_cons, List.map_nil] at hrg
    have hol := onesL_len ([m.n, m.commit, (m.log.length : Int)].take i)
    have htl : ([m.n, m.commit, (m.log.length : Int)].take i).length ≤ 3 := List.length_take_le' ..
    simp (maxSteps := 1000000) (disch := (first | omega | (simp only [nx_alloc, nx_upd, len_cons, len_nil, List.length_set, List.length_map, List.length_append] <;> omega) | fail)) only [go_sem, h1, h4, h5, hsl, hln, hix, hrg, hix']
    refine (j.put w0 x 1 hxb (by omega) (by rw [List.length_append]; omega)).mono ?_
    rintro _ A3 ⟨rfl, j3, hk3⟩
    simp (maxSteps := 1000000) (disch := (first | omega | (simp only [nx_alloc, nx_upd, len_cons, len_nil, List.length_set, List.length_map, List.length_append] <;> omega) | fail)) only [go_sem, h1, h4, h5, hsl, hln, hix]
    refine ⟨k - 1, by omega, _, i + 1, rfl, by omega, by omega, ?_, rr.put hk3 hnbb, ?_, ?_, ?_, ?_, ?_, ?_⟩
    · first
        | (rw [onesL_snoc _ _ _ hx, ← List.append_assoc]; exact j3)
        | (rw [onesL_snoc _ _ _ hx]; exact j3)
    · simp (maxSteps := 1000000) (disch := (first | omega | (simp only [nx_alloc, nx_upd, len_cons, len_nil, List.length_set, List.length_map, List.length_append] <;> omega) | fail)) only [go_sem, h1]
    · simp (maxSteps := 1000000) (disch := (first | omega | (simp only [nx_alloc, nx_upd, len_cons, len_nil, List.length_set, List.length_map, List.length_append] <;> omega) | fail)) only [go_sem, h4]
    · simp (maxSteps := 1000000) (disch := (first | omega | (simp only [nx_alloc, nx_upd, len_cons, len_nil, List.length_set, List.length_map, List.length_append] <;> omega) | fail)) only [go_sem, h5]
    · simp (maxSteps := 1000000) (disch := (first | omega | (simp only [nx_alloc, nx_upd, len_cons, len_nil, List.length_set, List.length_map, List.length_append] <;> omega) | fail)) only [go_sem, hsl]
    · simp (maxSteps := 1000000) (disch := (first | omega | (simp only [nx_alloc, nx_upd, len_cons, len_nil, List.length_set, List.length_map, List.length_append] <;> omega) | fail)) only [go_sem, hln]
    · simp (maxSteps := 1000000) (disch := (first | omega | (simp only [nx_alloc, nx_upd, len_cons, len_nil, List.length_set, List.length_map, List.length_append] <;> omega) | fail)) only [go_sem]
      rfl
  subst hend
  have e1 : ¬ (((3 : Nat) : Int) < 3) := by omega
  rw [show [m.n, m.commit, (m.log.length : Int)].take 3 = [m.n, m.commit, (m.log.length : Int)] from rfl] at j
  have hms := j.ms
  simp (maxSteps := 1000000) (disch := (first | omega | (simp only [nx_alloc, nx_upd, len_cons, len_nil, List.length_set, List.length_map, List.length_append] <;> omega) | fail)) only [go_sem, h1, h4, h5, hsl, hln, hix, hms]
  have j6 : EJ A (.cells (.int .i64 m.kind :: .int .i64 m.src :: .int .i64 m.dst :: .int .u32 m.view :: .int .u32 m.last :: .int .i64 m.n :: .int .i64 m.commit :: .slice ad m.log.length ac :: .int .i64 m.client :: .int .u32 m.seq :: .int .i64 m.reply.e :: .slice bd m.reply.ids.length bc :: .int .u32 m.reply.v.id :: p :: q :: u :: (hsC m.hash ++ [.string m.block])) 45 (some 0)) (enc2 m) A' := j
  have le2 : (enc2 m).length = 14 := by unfold enc2; simp only [List.length_append, onesL_len, le1, List.length_cons, List.length_nil]
  clear j rr hsl hln hix hms hk hacb rsb jsb hnba
  generalize A' = A6 at *
  have lgl := logL_len m.log f12
  refine aw_loop (fun k x A' => ∃ (ρ : Nat → Value) (i : Nat), x = E 127 ρ [] ∧ k = m.log.length - i ∧ i ≤ m.log.length ∧ EJ A (.cells (.int .i64 m.kind :: .int .i64 m.src :: .int .i64 m.dst :: .int .u32 m.view :: .int .u32 m.last :: .int .i64 m.n :: .int .i64 m.commit :: .slice ad m.log.length ac :: .int .i64 m.client :: .int .u32 m.seq :: .int .i64 m.reply.e :: .slice bd m.reply.ids.length bc :: .int .u32 m.reply.v.id :: p :: q :: u :: (hsC m.hash ++ [.string m.block])) 45 (some 0)) (enc2 m ++ logL (m.log.take i)) A' ∧
      ρ 1 = .pointer (some ⟨A.next, 0, none⟩) ∧ ρ 4 = .pointer (some ⟨A.next + 1, 0, none⟩) ∧ ρ 5 = .func (.func 31) #[] #[.pointer (some ⟨A.next + 1, 0, none⟩)] ∧ ρ 64 = .slice ad m.log.length ac ∧ ρ 65 = .int .i64 m.log.length ∧ ρ 66 = .int .i64 i) m.log.length
    ⟨_, 0, rfl, rfl, Nat.zero_le _, by simpa [logL] using j6, h1, h4, h5, rfl, rfl, rfl⟩ ?_
  clear h1 h4 h5
  rintro k x A' ⟨ρ, i, rfl, hk, hi, j, h1, h4, h5, hsl, hln, hix⟩
  refine aw_of ?_
  by_cases hend : i = m.log.length
  rotate_left
  · have e1 : (i : Int) < m.log.length := by omega
    obtain ⟨r, hr⟩ : ∃ r, m.log[i]? = some r := ⟨_, List.getElem?_eq_getElem (by omega)⟩
    have hrm := List.mem_of_getElem? hr
    obtain ⟨b, off, qc, q1, q2, q3, q4, cells, e', md, q5, q6, q7⟩ := (v1.ge j.ov.ge).at (P := Try.prog) (e := 31) Try.sz31 hr
    have hldq := ld_agg (e' := e') (m := md) q6 q7
    have hq8 := q3.len
    have hstq := stN (n := 8) (X := A'.alloc (.cells [.int .i64 0, .int .u32 0, .int .i64 0, .int .u32 0, .int .u32 0, .slice none 0 0, .slice none 0 0, .slice none 0 0] 31 (some 0))) (b := A'.next) (z := [.int .i64 0, .int .u32 0, .int .i64 0, .int .u32 0, .int .u32 0, .slice none 0 0, .slice none 0 0, .slice none 0 0]) (e := 31) rfl hq8 q3.cell
    obtain ⟨C, hC⟩ : ∃ C, C = (A'.alloc (.cells [.int .i64 0, .int .u32 0, .int .i64 0, .int .u32 0, .int .u32 0, .slice none 0 0, .slice none 0 0, .slice none 0 0] 31 (some 0))).upd A'.next (some (.cells qc 31 (some 0))) := ⟨_, rfl⟩
    have oC : Over A' C := hC ▸ ((Over.refl A').alloc _).upd (Nat.le_refl _) _
    have gC : C.get A'.next = some (.cells qc 31 (some 0)) := by rw [hC]; exact get_upd_same ..
    have hldc := ldN (n := 8) (e := 31) (m := some 0) hq8
    have jC := j.ext oC
    have hput := put_req_ok w0 C r qc (q3.ge oC.ge) (s1 r hrm) (k8 r hrm)
    have hpr : putR r = strOfNums (putL r) := if_pos (f12 r hrm)
    rw [hpr] at hput
    have lli := logL_len (m.log.take i) (fun r hr => f12 r (List.mem_of_mem_take hr))
    have ltk : (m.log.take i).length ≤ 40 := by rw [List.length_take]; omega
    have lpl := putL_len (f12 r hrm)
    obtain ⟨v, v', A7, d1, d2, d3, d4, d5, d6⟩ := jC.add (x := .string (strOfNums (putL r))) Try.underlying9 (by intro k; exact TypeDesc.noConfusion) (src_str _ _ (putL_byte (k8 r hrm) (f12 r hrm))) (by rw [List.length_append]; omega)
    simp (maxSteps := 1000000) (disch := (first | omega | (simp only [nx_alloc, nx_upd, len_cons, len_nil, List.length_set, List.length_map, List.length_append] <;> omega) | fail)) only [go_sem, h1, h4, h5, hsl, hln, hix, q2, q5, hldq, hstq]
    rw [← hC]
    refine aw_draw2 [⟨false, [], [0]⟩, ⟨false, [], [0]⟩, ⟨false, [1], [0]⟩, ⟨true, [0, 1, 2], [0]⟩, ⟨true, [0, 1, 2, 3], [1]⟩] [C, A7, A7.upd (A.next + 1) (some (.cells [v'] 66 (some 0)))] 2 (by kernel_rfl) (by kernel_rfl) rfl ?_
    simp (maxSteps := 1000000) (disch := (first | omega | (simp only [nx_alloc, nx_upd, len_cons, len_nil, List.length_set, List.length_map, List.length_append] <;> omega) | fail)) only [go_sem, h4, d1, gC, hldc]
    refine ⟨_, hput, ?_⟩
    rw [d3]
    simp (maxSteps := 1000000) (disch := (first | omega | (simp only [nx_alloc, nx_upd, len_cons, len_nil, List.length_set, List.length_map, List.length_append] <;> omega) | fail)) only [go_sem, h4, d5]
    rw [storeC_val d4]
    simp (maxSteps := 1000000) (disch := (first | omega | (simp only [nx_alloc, nx_upd, len_cons, len_nil, List.length_set, List.length_map, List.length_append] <;> omega) | fail)) only [go_sem, hix]
    refine ⟨k - 1, by omega, _, i + 1, rfl, by omega, by omega, by rw [logL_snoc _ _ _ hr, ← List.append_assoc]; exact d6, ?_, ?_, ?_, ?_, ?_, ?_⟩
    · simp (maxSteps := 1000000) (disch := (first | omega | (simp only [nx_alloc, nx_upd, len_cons, len_nil, List.length_set, List.length_map, List.length_append] <;> omega) | fail)) only [go_sem, h1]
    · simp (maxSteps := 1000000) (disch := (first | omega | (simp only [nx_alloc, nx_upd, len_cons, len_nil, List.length_set, List.length_map, List.length_append] <;> omega) | fail)) only [go_sem, h4]
    · simp (maxSteps := 1000000) (disch := (first | omega | (simp only [nx_alloc, nx_upd, len_cons, len_nil, List.length_set, List.length_map, List.length_append] <;> omega) | fail)) only [go_sem, h5]
    · simp (maxSteps := 1000000) (disch := (first | omega | (simp only [nx_alloc, nx_upd, len_cons, len_nil, List.length_set, List.length_map, List.length_append] <;> omega) | fail)) only [go_sem, hsl]
    · simp (maxSteps := 1000000) (disch := (first | omega | (simp only [nx_alloc, nx_upd, len_cons, len_nil, List.length_set, List.length_map, List.length_append] <;> omega) | fail)) only [go_sem, hln]
    · simp (maxSteps := 1000000) (disch := (first | omega | (simp only [nx_alloc, nx_upd, len_cons, len_nil, List.length_set, List.length_map, List.length_append] <;> omega) | fail)) only [go_sem]
      rfl
  subst hend
  rw [List.take_length] at j
  have e1 : ¬ ((m.log.length : Int) < m.log.length) := by omega
  have j7 : EJ A (.cells (.int .i64 m.kind :: .int .i64 m.src :: .int .i64 m.dst :: .int .u32 m.view :: .int .u32 m.last :: .int .i64 m.n :: .int .i64 m.commit :: .slice ad m.log.length ac :: .int .i64 m.client :: .int .u32 m.seq :: .int .i64 m.reply.e :: .slice bd m.reply.ids.length bc :: .int .u32 m.reply.v.id :: p :: q :: u :: (hsC m.hash ++ [.string m.block])) 45 (some 0)) (enc3 m) A' := j
  have le3 : (enc3 m).length ≤ 40414 := by unfold enc3; rw [List.length_append]; omega
  have hms := j.ms
  clear j
  simp (maxSteps := 1000000) (disch := (first | omega | (simp only [nx_alloc, nx_upd, len_cons, len_nil, List.length_set, List.length_map, List.length_append] <;> omega) | fail)) only [go_sem, h1, h4, h5, hsl, hln, hix, hms]
  refine (j7.put w0 m.client 1 (by omega) (by omega) (by (try simp only [List.length_append, onesL_len, idsL_len, bigL_length, List.length_cons, List.length_nil, Int.reduceToNat]); omega)).mono ?_
  rintro _ A8 ⟨rfl, j8, hk8⟩
  have hms8 := j8.ms
  simp (maxSteps := 1000000) (disch := (first | omega | (simp only [nx_alloc, nx_upd, len_cons, len_nil, List.length_set, List.length_map, List.length_append] <;> omega) | fail)) only [go_sem, h1, h4, h5, hms8]
  refine (j8.put w0 m.seq 4 (by omega) (by omega) (by (try simp only [List.length_append, onesL_len, idsL_len, bigL_length, List.length_cons, List.length_nil, Int.reduceToNat]); omega)).mono ?_
  rintro _ A9 ⟨rfl, j9, hk9⟩
  have hms9 := j9.ms
  simp (maxSteps := 1000000) (disch := (first | omega | (simp only [nx_alloc, nx_upd, len_cons, len_nil, List.length_set, List.length_map, List.length_append] <;> omega) | fail)) only [go_sem, h1, h4, h5, hms9]
  refine (j9.put w0 m.reply.e 2 (by omega) (by omega) (by (try simp only [List.length_append, onesL_len, idsL_len, bigL_length, List.length_cons, List.length_nil, Int.reduceToNat]); omega)).mono ?_
  rintro _ A10 ⟨rfl, j10, hk10⟩
  have hms10 := j10.ms
  simp (maxSteps := 1000000) (disch := (first | omega | (simp only [nx_alloc, nx_upd, len_cons, len_nil, List.length_set, List.length_map, List.length_append] <;> omega) | fail)) only [go_sem, h1, h4, h5, hms10]
  refine (j10.put w0 (m.reply.ids.length : Int) 1 (by omega) (by omega) (by (try simp only [List.length_append, onesL_len, idsL_len, bigL_length, List.length_cons, List.length_nil, Int.reduceToNat]); omega)).mono ?_
  rintro _ A11 ⟨rfl, j11, hk11⟩
  have hms11 := j11.ms
  simp (maxSteps := 1000000) (disch := (first | omega | (simp only [nx_alloc, nx_upd, len_cons, len_nil, List.length_set, List.length_map, List.length_append] <;> omega) | fail)) only [go_sem, h1, h4, h5, hms11]
  have j12 : EJ A (.cells (.int .i64 m.kind :: .int .i64 m.src :: .int .i64 m.dst :: .int .u32 m.view :: .int .u32 m.last :: .int .i64 m.n :: .int .i64 m.commit :: .slice ad m.log.length ac :: .int .i64 m.client :: .int .u32 m.seq :: .int .i64 m.reply.e :: .slice bd m.reply.ids.length bc :: .int .u32 m.reply.v.id :: p :: q :: u :: (hsC m.hash ++ [.string m.block])) 45 (some 0)) (enc4 m) A11 := j11
  have le4 : (enc4 m).length ≤ 40422 := by unfold enc4; simp only [List.length_append, bigL_length]; omega
  clear j11 j10 j9 j8 j7 hms8 hms9 hms10 hk8 hk9 hk10 hk11 hms hsl hln hix
  generalize A11 = A12 at *
  refine aw_loop (fun k x A' => ∃ (ρ : Nat → Value) (i : Nat), x = E 127 ρ [] ∧ k = m.reply.ids.length - i ∧ i ≤ m.reply.ids.length ∧ EJ A (.cells (.int .i64 m.kind :: .int .i64 m.src :: .int .i64 m.dst :: .int .u32 m.view :: .int .u32 m.last :: .int .i64 m.n :: .int .i64 m.commit :: .slice ad m.log.length ac :: .int .i64 m.client :: .int .u32 m.seq :: .int .i64 m.reply.e :: .slice bd m.reply.ids.length bc :: .int .u32 m.reply.v.id :: p :: q :: u :: (hsC m.hash ++ [.string m.block])) 45 (some 0)) (enc4 m ++ idsL (m.reply.ids.take i)) A' ∧
      ρ 1 = .pointer (some ⟨A.next, 0, none⟩) ∧ ρ 4 = .pointer (some ⟨A.next + 1, 0, none⟩) ∧ ρ 5 = .func (.func 31) #[] #[.pointer (some ⟨A.next + 1, 0, none⟩)] ∧ ρ 97 = .slice bd m.reply.ids.length bc ∧ ρ 98 = .int .i64 m.reply.ids.length ∧ ρ 99 = .int .i64 i) m.reply.ids.length
    ⟨_, 0, rfl, rfl, Nat.zero_le _, by simpa [idsL] using j12, h1, h4, h5, rfl, rfl, rfl⟩ ?_
  clear h1 h4 h5
  rintro k x A' ⟨ρ, i, rfl, hk, hi, j, h1, h4, h5, hsl, hln, hix⟩
  refine aw_of ?_
  by_cases hend : i = m.reply.ids.length
  rotate_left
  · have e1 : (i : Int) < m.reply.ids.length := by omega
    obtain ⟨x, hx⟩ : ∃ r, m.reply.ids[i]? = some r := ⟨_, List.getElem?_eq_getElem (by omega)⟩
    have hxb := k10 x (List.mem_of_getElem? hx)
    obtain ⟨pb, po, hb1, hb2, hb3, cells, e', md, hb4, hb5⟩ := View.at1 (P := Try.prog) (e := 22) (View.over v2 j.ov) Try.sz22 (u32E_at' _ i x hx)
    have hol := idsL_len (m.reply.ids.take i)
    have htl : (m.reply.ids.take i).length ≤ 8 := by rw [List.length_take]; omega
    simp (maxSteps := 1000000) (disch := (first | omega | (simp only [nx_alloc, nx_upd, len_cons, len_nil, List.length_set, List.length_map, List.length_append] <;> omega) | fail)) only [go_sem, h1, h4, h5, hsl, hln, hix, hb3, hb4, hb5]
    refine (j.put w0 x 4 hxb (by omega) (by rw [List.length_append]; omega)).mono ?_
    rintro _ A3 ⟨rfl, j3, hk3⟩
    simp (maxSteps := 1000000) (disch := (first | omega | (simp only [nx_alloc, nx_upd, len_cons, len_nil, List.length_set, List.length_map, List.length_append] <;> omega) | fail)) only [go_sem, h1, h4, h5, hsl, hln, hix]
    refine ⟨k - 1, by omega, _, i + 1, rfl, by omega, by omega, by rw [idsL_snoc _ _ _ hx, ← List.append_assoc]; exact j3, ?_, ?_, ?_, ?_, ?_, ?_⟩
    · simp (maxSteps := 1000000) (disch := (first | omega | (simp only [nx_alloc, nx_upd, len_cons, len_nil, List.length_set, List.length_map, List.length_append] <;> omega) | fail)) only [go_sem, h1]
    · simp (maxSteps := 1000000) (disch := (first | omega | (simp only [nx_alloc, nx_upd, len_cons, len_nil, List.length_set, List.length_map, List.length_append] <;> omega) | fail)) only [go_sem, h4]
    · simp (maxSteps := 1000000) (disch := (first | omega | (simp only [nx_alloc, nx_upd, len_cons, len_nil, List.length_set, List.length_map, List.length_append] <;> omega) | fail)) only [go_sem, h5]
    · simp (maxSteps := 1000000) (disch := (first | omega | (simp only [nx_alloc, nx_upd, len_cons, len_nil, List.length_set, List.length_map, List.length_append] <;> omega) | fail)) only [go_sem, hsl]
    · simp (maxSteps := 1000000) (disch := (first | omega | (simp only [nx_alloc, nx_upd, len_cons, len_nil, List.length_set, List.length_map, List.length_append] <;> omega) | fail)) only [go_sem, hln]
    · simp (maxSteps := 1000000) (disch := (first | omega | (simp only [nx_alloc, nx_upd, len_cons, len_nil, List.length_set, List.length_map, List.length_append] <;> omega) | fail)) only [go_sem]
      rfl
  subst hend
  rw [List.take_length] at j
  have e1 : ¬ ((m.reply.ids.length : Int) < m.reply.ids.length) := by omega
  have j13 : EJ A (.cells (.int .i64 m.kind :: .int .i64 m.src :: .int .i64 m.dst :: .int .u32 m.view :: .int .u32 m.last :: .int .i64 m.n :: .int .i64 m.commit :: .slice ad m.log.length ac :: .int .i64 m.client :: .int .u32 m.seq :: .int .i64 m.reply.e :: .slice bd m.reply.ids.length bc :: .int .u32 m.reply.v.id :: p :: q :: u :: (hsC m.hash ++ [.string m.block])) 45 (some 0)) (enc5 m) A' := j
  have le5 : (enc5 m).length ≤ 40454 := by unfold enc5; rw [List.length_append, idsL_len]; omega
  have hms := j.ms
  clear j j12
  have hvr : VerV A' m.reply.v (.agg #[.int .u32 m.reply.v.id, p, q, u]) := ⟨p, q, u, rfl, View.over v3 j13.ov, View.over v4 j13.ov, View.over v5 j13.ov⟩
  have henc := encode_ok w0 A' m.reply.v _ hvr s2 k11
  have he : encR m.reply.v = (strOfNums (encV m.reply.v), 0) := if_pos f18
  rw [he] at henc
  simp (maxSteps := 1000000) (disch := (first | omega | (simp only [nx_alloc, nx_upd, len_cons, len_nil, List.length_set, List.length_map, List.length_append] <;> omega) | fail)) only [go_sem, h1, h4, h5, hsl, hln, hix, hms, ldV]
  refine call1 henc ?_
  unfold strIntV
  have hsl32 : ∀ (X : St) (sp : Option Nat) (c : Nat), (sp = none ∨ sp = some 1) → X.get A.next = some (.cells (.int .i64 m.kind :: .int .i64 m.src :: .int .i64 m.dst :: .int .u32 m.view :: .int .u32 m.last :: .int .i64 m.n :: .int .i64 m.commit :: .slice ad m.log.length ac :: .int .i64 m.client :: .int .u32 m.seq :: .int .i64 m.reply.e :: .slice bd m.reply.ids.length bc :: .int .u32 m.reply.v.id :: p :: q :: u :: (hsC m.hash ++ [.string m.block])) 45 (some 0)) → srcCells X 1 (.slice (some ⟨A.next, 16, sp⟩) 32 c) = some (m.hash.1.length, m.hash.1.map (.int .u8 ·)) := fun X sp c _ hX => by
    have e1 : 16 + 32 * 1 ≤ (.int .i64 m.kind :: .int .i64 m.src :: .int .i64 m.dst :: .int .u32 m.view :: .int .u32 m.last :: .int .i64 m.n :: .int .i64 m.commit :: .slice ad m.log.length ac :: .int .i64 m.client :: .int .u32 m.seq :: .int .i64 m.reply.e :: .slice bd m.reply.ids.length bc :: .int .u32 m.reply.v.id :: p :: q :: u :: (hsC m.hash ++ [.string m.block])).length := by rw [hml]; omega
    have e2 : ((.int .i64 m.kind :: .int .i64 m.src :: .int .i64 m.dst :: .int .u32 m.view :: .int .u32 m.last :: .int .i64 m.n :: .int .i64 m.commit :: .slice ad m.log.length ac :: .int .i64 m.client :: .int .u32 m.seq :: .int .i64 m.reply.e :: .slice bd m.reply.ids.length bc :: .int .u32 m.reply.v.id :: p :: q :: u :: (hsC m.hash ++ [.string m.block])).drop 16).take (32 * 1) = hsC m.hash := List.take_left' (hsC_len _)
    rw [srcCells_slice (by decide) hX e1, e2, m.hash.2]
    rfl
  obtain ⟨v, y1, X1, y2, X2, d1, d2, d3, d4, d5, j14⟩ := j13.add2 (x := .string (strOfNums (encV m.reply.v))) (y := .slice (some ⟨A.next, 16, none⟩) 32 32) (src_str _ _ (encV_byte k11)) (fun X hX => hsl32 X _ _ (.inl rfl) hX) (by have := encV_bound f18; have := m.hash.2; omega)
  simp (maxSteps := 1000000) (disch := (first | omega | (simp only [nx_alloc, nx_upd, len_cons, len_nil, List.length_set, List.length_map, List.length_append] <;> omega) | fail)) only [go_sem, h1, h4, h5]
  refine aw_draw2 [⟨false, [], [0]⟩, ⟨false, [], [0]⟩, ⟨true, [0, 1], [0]⟩, ⟨false, [], [0, 1]⟩, ⟨false, [3], [0, 1]⟩, ⟨true, [0, 1, 2, 3, 4], [1]⟩, ⟨true, [0, 1, 2, 3, 4, 5], [2]⟩] [A', X1, X2, X2.upd (A.next + 1) (some (.cells [y2] 66 (some 0)))] 3 (by kernel_rfl) (by kernel_rfl) rfl ?_
  simp (maxSteps := 1000000) (disch := (first | omega | (simp only [nx_alloc, nx_upd, len_cons, len_nil, List.length_set, List.length_map, List.length_append] <;> omega) | fail)) only [go_sem, h1, h4, d1]
  rw [d2]
  simp (maxSteps := 1000000) (disch := (first | omega | (simp only [nx_alloc, nx_upd, len_cons, len_nil, List.length_set, List.length_map, List.length_append] <;> omega) | fail)) only [go_sem, h1, h4]
  rw [d3]
  simp (maxSteps := 1000000) (disch := (first | omega | (simp only [nx_alloc, nx_upd, len_cons, len_nil, List.length_set, List.length_map, List.length_append] <;> omega) | fail)) only [go_sem, h1, h4, d5]
  rw [storeC_val d4]
  obtain ⟨A15, hA15⟩ : ∃ X, X = X2.upd (A.next + 1) (some (.cells [y2] 66 (some 0))) := ⟨_, rfl⟩
  have hg15 : A15.get (A.next + 1) = some (.cells [y2] 66 (some 0)) := by rw [hA15]; exact get_upd_same ..
  rw [← hA15] at j14
  obtain ⟨v', hg, hr⟩ := j14.by'
  rw [hg15] at hg
  injection hg with hg
  injection hg with hg _ _
  injection hg with hg _
  subst hg
  have htx := (Row.view hr).text (P := Try.prog) (e := 5) Try.underlying5
  have hms := j14.ms
  simp (maxSteps := 1000000) (disch := (first | omega | (simp only [nx_alloc, nx_upd, len_cons, len_nil, List.length_set, List.length_map, List.length_append] <;> omega) | fail)) only [go_sem, h1, h4, d5]
  try rw [← hA15]
  refine aw_draw2 [⟨false, [], [0]⟩, ⟨false, [0], [0]⟩, ⟨false, [], [0]⟩, ⟨false, [2], [0]⟩, ⟨false, [2, 3], [0]⟩, ⟨false, [0, 1, 2, 3, 4], [0]⟩, ⟨false, [0, 1, 2, 3, 4, 5], [0]⟩, ⟨false, [0, 1, 2, 3, 4, 5, 6], [0]⟩] [A15] 0 (by kernel_rfl) (by kernel_rfl) rfl ?_
  have hc1 := str_size (enc5 m ++ encV m.reply.v ++ m.hash.1)
  have hc2 := str_size (enc m.block.size ++ nums m.block)
  have hc3 := encV_bound f18
  have hc4 := m.hash.2
  have hc5 := nums_length m.block
  have hc6 := enc_len 1 m.block.size (by omega)
  simp only [List.length_append] at hc1 hc2
  simp (maxSteps := 1000000) (disch := (first | omega | (simp only [nx_alloc, nx_upd, len_cons, len_nil, List.length_set, List.length_map, List.length_append] <;> omega) | fail)) only [go_sem, h1, h4, hg15, htx, hms, hbk]
  refine ⟨_, text_ok w0 A15 m.block (by omega), ?_⟩
  simp (maxSteps := 1000000) (disch := (first | omega | (simp only [nx_alloc, nx_upd, len_cons, len_nil, List.length_set, List.length_map, List.length_append] <;> omega) | fail)) only [go_sem, Try.results14]
  refine gc_fin' hw j14.ov ?_ (bnd_strIntV _ _)
  have hcat : ∀ a b : List Int, strOfNums a ++ strOfNums b = strOfNums (a ++ b) := str_append
  unfold encB encM
  rw [hmay, if_pos rfl, hcat]
end Go.Fw
