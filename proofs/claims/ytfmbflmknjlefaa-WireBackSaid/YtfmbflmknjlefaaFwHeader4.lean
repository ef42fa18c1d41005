import Derived.Test.YtfmbflmknjlefaaFwHeader3
set_option linter.unusedSimpArgs false
set_option linter.unusedVariables false
set_option maxRecDepth 4000
namespace Go.Fw
open Go.Proofs Go.RowKit
theorem Try.enters28 : Enters Try.prog 28 := enters_of Try.func28 rfl (by kernel_rfl)
theorem set_all (cs vs : List Value) (h : vs.length = cs.length) : setList cs 0 vs = vs := by
  have := setList_at0 vs [] cs [] h
  simpa using this
/-- Bytes pushed onto bytes. -/
theorem by_src {A : St} {lo xT : Nat} {acc new : List Int} {x v : Value} {ux : TypeDesc} (hx : Try.prog.underlying xT = some ux) (hux : ∀ k, ux ≠ .int k) (h : Row A 5 1 lo (acc.map (.int .u8 ·)) acc.length v) (hlo : lo ≤ A.next) (hsrc : srcCells A 1 x = some (new.length, new.map (.int .u8 ·))) (hl : acc.length + new.length ≤ 1073741824) :
    ∃ v' A', aappend Try.prog A 66 xT v x = some (v', A') ∧ Row A' 5 1 lo ((acc ++ new).map (.int .u8 ·)) (acc ++ new).length v' ∧ A.next ≤ A'.next ∧ (∀ b, b < A.next → rowB v ≠ some b → A'.get b = A.get b) ∧ (∀ b, rowB v' = some b → rowB v = some b ∨ A.next ≤ b) := by
  obtain ⟨v', A2, hap, hr2, hn2, hf2, hrb, hz0⟩ := row_src (P := Try.prog) (m := new.length) Try.el66 hx hux Try.sz5 Try.byt5 Try.zero5 rfl h hlo hsrc (by simp) (by omega) (by omega) (by simp [cell1])
  refine ⟨v', A2, hap, ?_, hn2, hf2, hrb⟩
  rw [List.map_append, List.length_append]; exact hr2
theorem src_str (A : St) (l : List Int) (h : ∀ x ∈ l, Byte x) : srcCells A 1 (.string (strOfNums l)) = some (l.length, l.map (.int .u8 ·)) := by
  rw [srcCells_string, bcells_nums, nums_str h, str_size]
/-- A version's bytes. -/
def blkL (l : List HashT) : List Int := l.flatMap (·.1)
def namL (l : List (ByteArray × Int)) : List Int := l.flatMap fun p => enc p.1.size ++ nums p.1 ++ enc p.2.toNat
def encV (V : VerT) : List Int := bigL V.id.toNat 4 ++ enc V.blocks.length ++ blkL V.blocks ++ enc V.names.length ++ namL (V.names.zip V.sizes)
def encR (V : VerT) : ByteArray × Int := if mayB V then (strOfNums (encV V), 0) else (ByteArray.empty, 1)
def strIntV (r : ByteArray × Int) : Value := .tuple #[.string r.1, .int .i64 r.2]
theorem bnd_strIntV (n : Nat) (r : ByteArray × Int) : Bnd n (strIntV r) := by unfold strIntV; simp only [bnd_tuple, bndL_cons, bndL_nil, bnd_int, bnd_string, and_self]
theorem blkL_len (l : List HashT) : (blkL l).length = 32 * l.length := by
  induction l with
  | nil => rfl
  | cons h l ih => unfold blkL at *; rw [List.flatMap_cons, List.length_append, ih, h.2, List.length_cons]; omega
theorem enc_le10 (n : Nat) (h : n < 18446744073709551616) : (enc n).length ≤ 10 := enc_len 9 n (by omega)
/-- What may be of a version's id and hashes. -/
def VerT.ok (V : VerT) : Prop := 0 ≤ V.id ∧ V.id < 4294967296 ∧ ∀ h ∈ V.blocks, ∀ x ∈ h.1, Byte x
/-- A hash's bytes pushed, that were laid into a variable ahead. -/
theorem hash_push {A : St} {lo : Nat} {acc : List Int} {p : Value} (h : HashT) (hr : Row A 5 1 lo (acc.map (.int .u8 ·)) acc.length p) (hlo : lo ≤ A.next) (hl : acc.length + 32 ≤ 1073741824) (z : List Value) :
    ∃ v' A', aappend Try.prog ((A.alloc (.cells z 43 (some 0))).upd A.next (some (.cells (hsC h) 43 (some 0)))) 66 66 p (.slice (some ⟨A.next, 0, none⟩) 32 32) = some (v', A') ∧ Row A' 5 1 lo ((acc ++ h.1).map (.int .u8 ·)) (acc ++ h.1).length v' ∧ A.next ≤ A'.next ∧ ∀ b, b < A.next → rowB p ≠ some b → A'.get b = A.get b := by
  have o : Over A ((A.alloc (.cells z 43 (some 0))).upd A.next (some (.cells (hsC h) 43 (some 0)))) := ((Over.refl A).alloc _).upd (Nat.le_refl _) _
  obtain ⟨v', A', h1, h2, h3, h4, h5⟩ := by_src (x := .slice (some ⟨A.next, 0, none⟩) 32 32) (new := h.1) Try.underlying66 (by intro k; exact TypeDesc.noConfusion) (hr.over o) (Nat.le_trans hlo o.next) (by
    rw [srcCells_slice (by decide) (get_upd_same ..) (by rw [hsC_len]; decide), List.drop_zero, List.take_of_length_le (by rw [hsC_len]; decide), h.2]; rfl) (by rw [h.2]; exact hl)
  exact ⟨v', A', h1, h2, Nat.le_trans o.next h3, fun b hb hp => by rw [h4 b (Nat.lt_of_lt_of_le hb o.next) hp]; exact o.get b hb⟩
set_option maxHeartbeats 8000000 in
theorem encode_ok (w0 : World) (A : St) (V : VerT) (v : Value) (hv : VerV A V v) (hs : V.small) (hk : V.ok) : ACalls Try.prog w0 28 #[v] A (fin (strIntV (encR V)) A) := by
  have hmayok := fun (A' : St) (o : Over A A') => may_ok w0 A' V v (hv.over o) hs
  have hmi := may_iff V
  obtain ⟨b, n, s, rfl, vb, vn, vs⟩ := hv
  obtain ⟨hs1, hs2, hs3⟩ := hs
  obtain ⟨hk1, hk2, hk3⟩ := hk
  obtain ⟨ab, cb, rfl⟩ := View.sl0 vb
  obtain ⟨an, cn, rfl⟩ := View.sl0 vn
  obtain ⟨az, cs, rfl⟩ := View.sl0 vs
  refine call_E Try.enters28 Try.func28 rfl (Nat.le_of_ble_eq_true rfl) fun hw hbd => ?_
  have hres : encR V = if mayB V then (strOfNums (encV V), 0) else (ByteArray.empty, 1) := rfl
  rw [hres]
  have henc : encV V = bigL V.id.toNat 4 ++ enc V.blocks.length ++ blkL V.blocks ++ enc V.names.length ++ namL (V.names.zip V.sizes) := rfl
  obtain ⟨id, B, N, S⟩ := V
  simp only at vb vn vs hs1 hs2 hs3 hk1 hk2 hk3 hmi hmayok henc ⊢
  obtain ⟨id, rfl⟩ := Int.eq_ofNat_of_zero_le hk1
  rw [Int.toNat_natCast] at henc
  obtain ⟨A1, hA1⟩ : ∃ A1, A1 = A.alloc (.cells [.int .u32 id, .slice ab B.length cb, .slice an N.length cn, .slice az S.length cs] 27 (some 0)) := ⟨_, rfl⟩
  have ov1 : Over A A1 := hA1 ▸ (Over.refl A).alloc _
  have hn1 : A1.next = A.next + 1 := by rw [hA1]; rfl
  have hbx : A1.get A.next = some (.cells [.int .u32 id, .slice ab B.length cb, .slice an N.length cn, .slice az S.length cs] 27 (some 0)) := by rw [hA1]; exact get_alloc_same ..
  have vb1 : HsView A1 B _ := View.over vb ov1
  have vn1 : StView A1 N _ := View.over vn ov1
  have vs1 : InView A1 S _ := View.over vs ov1
  simp (maxSteps := 1000000) (disch := (first | omega | (simp only [nx_alloc, nx_upd, len_cons, len_nil, List.length_set, List.length_map, List.length_append] <;> omega) | fail)) only [go_sem, Try.ntmps28, Try.results28]
  rw [← hA1]
  refine call1 (hmayok A1 ov1) ?_
  cases hm : mayB ⟨id, B, N, S⟩
  · simp (maxSteps := 1000000) (disch := (first | omega | (simp only [nx_alloc, nx_upd, len_cons, len_nil, List.length_set, List.length_map, List.length_append] <;> omega) | fail)) only [go_sem, Try.results28]
    exact gc_fin' hw ov1 rfl (bnd_strIntV _ _)
  obtain ⟨m1, m2, m3, m4⟩ := hmi.1 hm
  simp (maxSteps := 1000000) (disch := (first | omega | (simp only [nx_alloc, nx_upd, len_cons, len_nil, List.length_set, List.length_map, List.length_append] <;> omega) | fail)) only [go_sem]
  have hb4 : bigS id 4 = bigL id 4 := rfl
  have hbl4 : (bigL id 4).length = 4 := bigL_length id 4
  have hby4 : ∀ x ∈ bigL id 4, Byte x := bigL_byte id 4
  have heb := enc_le10 B.length (by omega)
  have hz1 : (strOfNums (bigL id 4)).size = 4 := by rw [str_size, hbl4]
  have hz2 : (strOfNums (enc B.length)).size = (enc B.length).length := str_size _
  have hcat : strOfNums (bigL id 4) ++ strOfNums (enc B.length) = strOfNums (bigL id 4 ++ enc B.length) := str_append ..
  refine aw_draw2 [⟨false, [], [0]⟩, ⟨false, [0], [0]⟩, ⟨false, [0, 1], [0]⟩, ⟨false, [0, 1, 2], [0]⟩, ⟨false, [], [0]⟩, ⟨false, [4], [0]⟩, ⟨false, [4, 5], [0]⟩, ⟨false, [4, 5, 6], [0]⟩, ⟨false, [0, 1, 2, 3, 4, 5, 6, 7], [0]⟩, ⟨false, [0, 1, 2, 3, 4, 5, 6, 7, 8], [0]⟩, ⟨true, [0, 1, 2, 3, 4, 5, 6, 7, 8, 9], [0]⟩, ⟨false, [0, 1, 2, 3, 4, 5, 6, 7, 8, 9, 10], [1]⟩] [A1, A1.alloc (.cells ((bigL id 4 ++ enc B.length).map (.int .u8 ·)) 5 (some 0))] 1 (by kernel_rfl) (by kernel_rfl) rfl ?_
  simp (maxSteps := 1000000) (disch := (first | omega | (simp only [nx_alloc, nx_upd, len_cons, len_nil, List.length_set, List.length_map, List.length_append] <;> omega) | fail)) only [go_sem, hbx]
  refine ⟨_, big_ok w0 A1 id 4 (by omega), _, put_ok w0 A1 B.length (by omega), ?_⟩
  rw [hb4]
  have hl0 : (bigL id 4 ++ enc B.length).length = 4 + (enc B.length).length := by rw [List.length_append, hbl4]
  have hb0 : ∀ x ∈ bigL id 4 ++ enc B.length, Byte x := fun x hx => by
    rcases List.mem_append.1 hx with h | h
    · exact hby4 x h
    · exact enc_byte _ x h
  generalize hL0 : bigL id 4 ++ enc B.length = L0 at *
  have hsz0 := str_size L0
  have hbc0 : bcells (strOfNums L0) = L0.map (.int .u8 ·) := by rw [bcells_nums, nums_str hb0]
  simp (maxSteps := 1000000) (disch := (first | omega | (simp only [nx_alloc, nx_upd, len_cons, len_nil, List.length_set, List.length_map, List.length_append] <;> omega) | fail)) only [go_sem, hcat, hz1, hz2, hsz0, hbc0, hbx]
  obtain ⟨A2, hA2⟩ : ∃ A2, A2 = A1.alloc (.cells (L0.map (.int .u8 ·)) 5 (some 0)) := ⟨_, rfl⟩
  have ov2 : Over A1 A2 := hA2 ▸ (Over.refl A1).alloc _
  have hr2 : Row A2 5 1 A1.next (L0.map (.int .u8 ·)) L0.length (.slice (some ⟨A1.next, 0, some 1⟩) L0.length L0.length) := ⟨by simp, .inr ⟨A1.next, some 1, rfl, .inr rfl, Nat.le_refl _, by rw [hA2]; simp, by rw [hA2]; exact get_alloc_same ..⟩⟩
  have hbx2 : A2.get A.next = _ := (ov2.get _ (by omega)).trans hbx
  rw [← hA2]
  -- the blocks
  refine aw_loop (fun k x A' => ∃ (ρ : Nat → Value) (i : Nat) (p : Value), x = E 64 ρ [] ∧ Over A1 A' ∧ k = B.length - i ∧ i ≤ B.length ∧ Row A' 5 1 A1.next ((L0 ++ blkL (B.take i)).map (.int .u8 ·)) (L0 ++ blkL (B.take i)).length p ∧
      ρ 1 = .pointer (some ⟨A.next, 0, none⟩) ∧ ρ 4 = p ∧ ρ 24 = .slice ab B.length cb ∧ ρ 25 = .int .i64 B.length ∧ ρ 26 = .int .i64 i) B.length
    ⟨_, 0, .slice (some ⟨A1.next, 0, some 1⟩) L0.length L0.length, rfl, ov2, rfl, Nat.zero_le _, by simpa [blkL] using hr2, rfl, rfl, rfl, rfl, rfl⟩ ?_
  clear hr2 hbx2 hA2
  rintro k x A' ⟨ρ, i, p, rfl, ov3, hk, hi, hrow, g1, g4, g24, g25, g26⟩
  refine aw_of ?_
  have hbx3 : A'.get A.next = _ := (ov3.get _ (by omega)).trans hbx
  have hnx3 := ov3.next
  have hlB := blkL_len (B.take i)
  have htB : (B.take i).length ≤ i := List.length_take_le ..
  by_cases hend : i = B.length
  rotate_left
  · have e1 : ((i : Int) < B.length) := by omega
    obtain ⟨h, hx⟩ : ∃ x, B[i]? = some x := ⟨_, List.getElem?_eq_getElem (by omega)⟩
    obtain ⟨pb, po, cells, e', m, hb1, hb2, hb3, hb4, hb5, hb6⟩ := View.en (P := Try.prog) (e := 43) (View.over vb1 ov3) hsC_len Try.sz43 hx
    have hlen32 := hsC_len h
    have hcell := hsC_cell h
    simp (maxSteps := 1000000) (disch := (first | omega | (simp only [nx_alloc, nx_upd, len_cons, len_nil, List.length_set, List.length_map, List.length_append] <;> omega) | fail)) only [go_sem, g1, g4, g24, g25, g26, hb3, hb4, hb5, hcell]
    rw [set_all _ (hsC h) (by rw [hsC_len]; rfl)]
    obtain ⟨v', A4, hap, hr4, hn4, hf4⟩ := hash_push h hrow (by omega) (by rw [List.length_append]; omega) (List.replicate 32 (.int .u8 0))
    simp only [List.reduceReplicate] at hap
    rw [hap]
    simp (maxSteps := 1000000) (disch := (first | omega | (simp only [nx_alloc, nx_upd, len_cons, len_nil, List.length_set, List.length_map, List.length_append] <;> omega) | fail)) only [go_sem, g26]
    have hst : blkL (B.take (i + 1)) = blkL (B.take i) ++ h.1 := by unfold blkL; rw [List.take_add_one, hx]; simp
    refine ⟨k - 1, by omega, _, i + 1, v', rfl, Row.push_over (by omega) (fun b hb => (Row.rb hrow b hb).1) hn4 hf4 ov3 (Nat.le_refl _), by omega, by omega, by rw [hst, ← List.append_assoc]; exact hr4, ?_, ?_, ?_, ?_, ?_⟩
    · simp (maxSteps := 1000000) (disch := (first | omega | (simp only [nx_alloc, nx_upd, len_cons, len_nil, List.length_set, List.length_map, List.length_append] <;> omega) | fail)) only [go_sem, g1]
    · simp (maxSteps := 1000000) (disch := (first | omega | (simp only [nx_alloc, nx_upd, len_cons, len_nil, List.length_set, List.length_map, List.length_append] <;> omega) | fail)) only [go_sem]
    · simp (maxSteps := 1000000) (disch := (first | omega | (simp only [nx_alloc, nx_upd, len_cons, len_nil, List.length_set, List.length_map, List.length_append] <;> omega) | fail)) only [go_sem, g24]
    · simp (maxSteps := 1000000) (disch := (first | omega | (simp only [nx_alloc, nx_upd, len_cons, len_nil, List.length_set, List.length_map, List.length_append] <;> omega) | fail)) only [go_sem, g25]
    · simp (maxSteps := 1000000) (disch := (first | omega | (simp only [nx_alloc, nx_upd, len_cons, len_nil, List.length_set, List.length_map, List.length_append] <;> omega) | fail)) only [go_sem]
      rfl
  have e1 : ¬ ((i : Int) < B.length) := by omega
  rw [hend, List.take_length] at hrow
  have hlB2 := blkL_len B
  have hen := enc_le10 N.length (by omega)
  simp (maxSteps := 1000000) (disch := (first | omega | (simp only [nx_alloc, nx_upd, len_cons, len_nil, List.length_set, List.length_map, List.length_append] <;> omega) | fail)) only [go_sem, g1, g4, g24, g25, g26, hbx3]
  refine call1 (put_ok w0 A' N.length (by omega)) ?_
  obtain ⟨v5, A5, hap5, hr5, hn5, hf5, hrb5⟩ := by_src (x := .string (strOfNums (enc N.length))) (new := enc N.length) Try.underlying9 (by intro k; exact TypeDesc.noConfusion) hrow (by omega) (src_str _ _ (enc_byte _)) (by rw [List.length_append]; omega)
  have ov5 : Over A1 A5 := Row.push_over (by omega) (fun b hb => (Row.rb hrow b hb).1) hn5 hf5 ov3 (Nat.le_refl _)
  have hbx5 : A5.get A.next = _ := (ov5.get _ (by omega)).trans hbx
  simp (maxSteps := 1000000) (disch := (first | omega | (simp only [nx_alloc, nx_upd, len_cons, len_nil, List.length_set, List.length_map, List.length_append] <;> omega) | fail)) only [go_sem]
  rw [hap5]
  simp (maxSteps := 1000000) (disch := (first | omega | (simp only [nx_alloc, nx_upd, len_cons, len_nil, List.length_set, List.length_map, List.length_append] <;> omega) | fail)) only [go_sem, g1, hbx5]
  have hzl : (N.zip S).length = N.length := by rw [List.length_zip]; omega
  have hL1 : L0 ++ blkL B ++ enc N.length = (L0 ++ blkL B ++ enc N.length) ++ namL ((N.zip S).take 0) := by simp [namL]
  have hl1 : (L0 ++ blkL B ++ enc N.length).length = L0.length + (blkL B).length + (enc N.length).length := by rw [List.length_append, List.length_append]
  rw [hL1] at hr5
  have henc' : encV ⟨id, B, N, S⟩ = (L0 ++ blkL B ++ enc N.length) ++ namL (N.zip S) := henc
  generalize L0 ++ blkL B ++ enc N.length = L1 at *
  refine aw_loop (fun k x A' => ∃ (ρ : Nat → Value) (i : Nat) (p : Value), x = E 64 ρ [] ∧ Over A1 A' ∧ k = N.length - i ∧ i ≤ N.length ∧ Row A' 5 1 A1.next ((L1 ++ namL ((N.zip S).take i)).map (.int .u8 ·)) (L1 ++ namL ((N.zip S).take i)).length p ∧ (namL ((N.zip S).take i)).length ≤ i * 40 ∧
      ρ 1 = .pointer (some ⟨A.next, 0, none⟩) ∧ ρ 4 = p ∧ ρ 42 = .slice an N.length cn ∧ ρ 43 = .int .i64 N.length ∧ ρ 44 = .int .i64 i) N.length
    ⟨_, 0, v5, rfl, ov5, rfl, Nat.zero_le _, hr5, by simp [namL], g1, rfl, rfl, rfl, rfl⟩ ?_
  clear hr5 hbx5 hap5 hf5 hrb5 hrow ov3 hbx3 g1 g4 g24 g25 g26
  rintro k x A' ⟨ρ, i, p, rfl, ov3, hk, hi, hrow, hnl, g1, g4, g42, g43, g44⟩
  refine aw_of ?_
  have hbx3 : A'.get A.next = _ := (ov3.get _ (by omega)).trans hbx
  have hnx3 := ov3.next
  by_cases hend : i = N.length
  · have e1 : ¬ ((i : Int) < N.length) := by omega
    rw [hend, List.take_of_length_le (by omega)] at hrow
    have htx := hrow.view.text (P := Try.prog) (e := 5) Try.underlying5
    simp (maxSteps := 1000000) (disch := (first | omega | (simp only [nx_alloc, nx_upd, len_cons, len_nil, List.length_set, List.length_map, List.length_append] <;> omega) | fail)) only [go_sem, g1, g4, g42, g43, g44, htx, Try.results28]
    exact gc_fin' hw (ov1.trans ov3) (by rw [henc']; rfl) (bnd_strIntV _ _)
  have e1 : ((i : Int) < N.length) := by omega
  obtain ⟨nm, hx⟩ : ∃ x, N[i]? = some x := ⟨_, List.getElem?_eq_getElem (by omega)⟩
  obtain ⟨sz, hy⟩ : ∃ x, S[i]? = some x := ⟨_, List.getElem?_eq_getElem (by omega)⟩
  obtain ⟨pb, po, hb1, hb2, hb3, cells, e', md, hb4, hb5⟩ := View.at1 (P := Try.prog) (e := 9) (View.over vn1 ov3) Try.sz9 (strE_at _ i nm hx)
  obtain ⟨qb, qo, hc1, hc2, hc3, cells2, e2', md2, hc4, hc5⟩ := View.at1 (P := Try.prog) (e := 3) (View.over vs1 ov3) Try.sz3 (i64E_at _ i sz hy)
  obtain ⟨o1, o2, o3, o4, _⟩ := m4 i (by omega)
  rw [nmN_at hx] at o1 o2
  rw [szN_at hy] at o3 o4
  obtain ⟨sz, rfl⟩ := Int.eq_ofNat_of_zero_le o3
  have q1 := enc_le10 nm.size (by omega)
  have q2 := enc_le10 sz (by omega)
  have hzi : (N.zip S)[i]? = some (nm, (sz : Int)) := by rw [List.getElem?_zip_eq_some]; exact ⟨hx, hy⟩
  have hst : namL ((N.zip S).take (i + 1)) = namL ((N.zip S).take i) ++ (enc nm.size ++ nums nm ++ enc sz) := by
    unfold namL; rw [List.take_add_one, hzi, List.flatMap_append]; simp
  have hbs : ∀ x ∈ enc nm.size ++ nums nm ++ enc sz, Byte x := fun x hx => by
    rcases List.mem_append.1 hx with h | h
    · rcases List.mem_append.1 h with h | h
      · exact enc_byte _ x h
      · exact nums_byte _ x h
    · exact enc_byte _ x h
  have hln : (enc nm.size ++ nums nm ++ enc sz).length = (enc nm.size).length + nm.size + (enc sz).length := by rw [List.length_append, List.length_append, nums_length]
  have hcat2 : strOfNums (enc nm.size ++ nums nm) ++ strOfNums (enc sz) = strOfNums (enc nm.size ++ nums nm ++ enc sz) := str_append ..
  have hz3 : (strOfNums (enc nm.size ++ nums nm)).size = (enc nm.size).length + nm.size := by rw [str_size, List.length_append, nums_length]
  have hz4 : (strOfNums (enc sz)).size = (enc sz).length := str_size _
  obtain ⟨v6, A6, hap6, hr6, hn6, hf6, hrb6⟩ := by_src (x := .string (strOfNums (enc nm.size ++ nums nm ++ enc sz))) (new := enc nm.size ++ nums nm ++ enc sz) Try.underlying9 (by intro k; exact TypeDesc.noConfusion) hrow (by omega) (src_str _ _ hbs) (by rw [List.length_append]; omega)
  simp (maxSteps := 1000000) (disch := (first | omega | (simp only [nx_alloc, nx_upd, len_cons, len_nil, List.length_set, List.length_map, List.length_append] <;> omega) | fail)) only [go_sem, g1, g4, g42, g43, g44, hb3, hb4, hb5]
  refine aw_draw2 [⟨false, [], [0]⟩, ⟨false, [], [0]⟩, ⟨false, [1], [0]⟩, ⟨false, [], [0]⟩, ⟨false, [3], [0]⟩, ⟨false, [], [0]⟩, ⟨false, [3, 4, 5], [0]⟩, ⟨false, [3, 4, 5, 6], [0]⟩, ⟨false, [3, 4, 5, 6, 7], [0]⟩, ⟨false, [1, 2, 3, 4, 5, 6, 7, 8], [0]⟩, ⟨false, [1, 2, 3, 4, 5, 6, 7, 8, 9], [0]⟩, ⟨true, [0, 1, 2, 3, 4, 5, 6, 7, 8, 9, 10], [0]⟩, ⟨false, [0, 1, 2, 3, 4, 5, 6, 7, 8, 9, 10, 11], [1]⟩] [A', A6] 1 (by kernel_rfl) (by kernel_rfl) rfl ?_
  simp (maxSteps := 1000000) (disch := (first | omega | (simp only [nx_alloc, nx_upd, len_cons, len_nil, List.length_set, List.length_map, List.length_append] <;> omega) | fail)) only [go_sem, g1, g4, hbx3, hc3, hc4, hc5]
  refine ⟨_, text_ok w0 A' nm (by omega), _, put_ok w0 A' sz (by omega), ?_⟩
  simp (maxSteps := 1000000) (disch := (first | omega | (simp only [nx_alloc, nx_upd, len_cons, len_nil, List.length_set, List.length_map, List.length_append] <;> omega) | fail)) only [go_sem, hcat2, hz3, hz4]
  rw [hap6]
  simp (maxSteps := 1000000) (disch := (first | omega | (simp only [nx_alloc, nx_upd, len_cons, len_nil, List.length_set, List.length_map, List.length_append] <;> omega) | fail)) only [go_sem, g44]
  refine ⟨k - 1, by omega, _, i + 1, v6, rfl, Row.push_over (by omega) (fun b hb => (Row.rb hrow b hb).1) hn6 hf6 ov3 (Nat.le_refl _), by omega, by omega, by rw [hst, ← List.append_assoc]; exact hr6, by rw [hst, List.length_append, hln]; omega, ?_, ?_, ?_, ?_, ?_⟩
  · simp (maxSteps := 1000000) (disch := (first | omega | (simp only [nx_alloc, nx_upd, len_cons, len_nil, List.length_set, List.length_map, List.length_append] <;> omega) | fail)) only [go_sem, g1]
  · simp (maxSteps := 1000000) (disch := (first | omega | (simp only [nx_alloc, nx_upd, len_cons, len_nil, List.length_set, List.length_map, List.length_append] <;> omega) | fail)) only [go_sem]
  · simp (maxSteps := 1000000) (disch := (first | omega | (simp only [nx_alloc, nx_upd, len_cons, len_nil, List.length_set, List.length_map, List.length_append] <;> omega) | fail)) only [go_sem, g42]
  · simp (maxSteps := 1000000) (disch := (first | omega | (simp only [nx_alloc, nx_upd, len_cons, len_nil, List.length_set, List.length_map, List.length_append] <;> omega) | fail)) only [go_sem, g43]
  · simp (maxSteps := 1000000) (disch := (first | omega | (simp only [nx_alloc, nx_upd, len_cons, len_nil, List.length_set, List.length_map, List.length_append] <;> omega) | fail)) only [go_sem]
    rfl
end Go.Fw
