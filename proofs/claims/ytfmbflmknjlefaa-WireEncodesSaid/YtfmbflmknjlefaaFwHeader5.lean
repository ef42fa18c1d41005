import Derived.Test.YtfmbflmknjlefaaFwHeader4
set_option linter.unusedSimpArgs false
set_option linter.unusedVariables false
set_option maxRecDepth 4000
namespace Go.Fw
open Go.Proofs Go.RowKit
theorem Try.enters66 : Enters Try.prog 66 := enters_of Try.func66 rfl (by kernel_rfl)
theorem Try.enters65 : Enters Try.prog 65 := enters_of Try.func65 rfl (by kernel_rfl)
set_option maxHeartbeats 2000000 in
theorem bytes_ok (w0 : World) (A : St) (h : HashT) : ACalls Try.prog w0 66 #[.agg (hsC h).toArray] A (fin (.string (strOfNums h.1)) A) := by
  refine call_E Try.enters66 Try.func66 rfl (Nat.le_of_ble_eq_true rfl) fun hw hbd => ?_
  have hlen32 := hsC_len h
  have hcell := hsC_cell h
  simp (maxSteps := 1000000) (disch := (first | omega | (simp only [nx_alloc, nx_upd, len_cons, len_nil, List.length_set, List.length_map, List.length_append] <;> omega) | fail)) only [go_sem, Try.ntmps66, Try.results66, hcell]
  obtain ⟨A1, hA1⟩ : ∃ A1, A1 = A.alloc (.cells (hsC h) 43 (some 0)) := ⟨_, rfl⟩
  rw [← hA1]
  have ov1 : Over A A1 := hA1 ▸ (Over.refl A).alloc _
  have hn1 : A1.next = A.next + 1 := by rw [hA1]; rfl
  have hbx : A1.get A.next = some (.cells (hsC h) 43 (some 0)) := by rw [hA1]; exact get_alloc_same ..
  have h32 := h.2
  refine aw_loop (fun k x A' => ∃ (ρ : Nat → Value) (i : Nat) (p : Value), x = E 18 ρ [] ∧ Over A1 A' ∧ k = 32 - i ∧ i ≤ 32 ∧ Row A' 5 1 A1.next ((h.1.take i).map (.int .u8 ·)) (h.1.take i).length p ∧ ρ 1 = .pointer (some ⟨A.next, 0, none⟩) ∧ ρ 3 = p ∧ ρ 4 = .int .i64 i) 32
    ⟨_, 0, .slice (some ⟨A.next + 1, 0, none⟩) 0 0, rfl, (Over.refl A1).alloc _, rfl, Nat.zero_le _, ⟨rfl, .inr ⟨A1.next, none, by rw [hn1]; rfl, .inl rfl, Nat.le_refl _, by simp, get_alloc_same ..⟩⟩, rfl, rfl, rfl⟩ ?_
  rintro k x A' ⟨ρ, i, p, rfl, ov2, hk, hi, hrow, g1, g3, g4⟩
  refine aw_of ?_
  have hbx2 : A'.get A.next = _ := (ov2.get _ (by omega)).trans hbx
  have hnx := ov2.next
  by_cases hend : i = 32
  · have e1 : ¬ ((i : Int) < 32) := by omega
    rw [hend, List.take_of_length_le (by omega)] at hrow
    have htx := hrow.view.text (P := Try.prog) (e := 5) Try.underlying5
    simp (maxSteps := 1000000) (disch := (first | omega | (simp only [nx_alloc, nx_upd, len_cons, len_nil, List.length_set, List.length_map, List.length_append] <;> omega) | fail)) only [go_sem, g1, g3, g4, htx, Try.results66]
    exact gc_fin' hw (ov1.trans ov2) rfl (.string _)
  have e1 : ((i : Int) < 32) := by omega
  obtain ⟨y, hy⟩ : ∃ y, h.1[i]? = some y := ⟨_, List.getElem?_eq_getElem (by omega)⟩
  have hcy : (hsC h)[i]? = some (.int .u8 y) := by unfold hsC; rw [List.getElem?_map, hy]; rfl
  obtain ⟨v', A2, hap, hr2, hn2, hrb, hf2⟩ := row_push (P := Try.prog) (A := A') (sp := none) (c := 1) (xs := [.int .u8 y]) Try.el66 Try.underlying66 (by intro k; exact TypeDesc.noConfusion) Try.sz5 Try.byt5 Try.zero5 rfl hrow (by omega) (by rw [List.length_take]; omega) (by rw [List.length_take]; omega) rfl rfl
  simp (maxSteps := 1000000) (disch := (first | omega | (simp only [nx_alloc, nx_upd, len_cons, len_nil, List.length_set, List.length_map, List.length_append] <;> omega) | fail)) only [go_sem, g1, g3, g4, hbx2, hcy]
  rw [hap]
  simp (maxSteps := 1000000) (disch := (first | omega | (simp only [nx_alloc, nx_upd, len_cons, len_nil, List.length_set, List.length_map, List.length_append] <;> omega) | fail)) only [go_sem, g4]
  have hst : h.1.take (i + 1) = h.1.take i ++ [y] := by rw [List.take_add_one, hy]; rfl
  refine ⟨k - 1, by omega, _, i + 1, v', rfl, Row.push_over (by omega) (fun b hb => (Row.rb hrow b hb).1) (by omega) hf2 ov2 (Nat.le_refl _), by omega, by omega, by rw [hst, List.map_append, List.length_append]; exact hr2, ?_, ?_, ?_⟩
  · simp (maxSteps := 1000000) (disch := (first | omega | (simp only [nx_alloc, nx_upd, len_cons, len_nil, List.length_set, List.length_map, List.length_append] <;> omega) | fail)) only [go_sem, g1]
  · simp (maxSteps := 1000000) (disch := (first | omega | (simp only [nx_alloc, nx_upd, len_cons, len_nil, List.length_set, List.length_map, List.length_append] <;> omega) | fail)) only [go_sem]
  · simp (maxSteps := 1000000) (disch := (first | omega | (simp only [nx_alloc, nx_upd, len_cons, len_nil, List.length_set, List.length_map, List.length_append] <;> omega) | fail)) only [go_sem]
    rfl
set_option maxHeartbeats 8000000 in
theorem rencode_ok (w0 : World) (A : St) (V : VerT) (v : Value) (hv : VerV A V v) (hs : V.small) (hk : V.ok) : ACalls Try.prog w0 65 #[v] A (fin (strIntV (encR V)) A) := by
  have hmayok := fun (A' : St) (o : Over A A') => rmay_ok w0 A' V v (hv.over o) hs
  have hmi := may_iff V
  obtain ⟨b, n, s, rfl, vb, vn, vs⟩ := hv
  obtain ⟨hs1, hs2, hs3⟩ := hs
  obtain ⟨hk1, hk2, hk3⟩ := hk
  obtain ⟨ab, cb, rfl⟩ := View.sl0 vb
  obtain ⟨an, cn, rfl⟩ := View.sl0 vn
  obtain ⟨az, cs, rfl⟩ := View.sl0 vs
  refine call_E Try.enters65 Try.func65 rfl (Nat.le_of_ble_eq_true rfl) fun hw hbd => ?_
  have hres : encR V = if mayB V then (strOfNums (encV V), 0) else (ByteArray.empty, 1) := rfl
  rw [hres]
  have henc : encV V = bigL V.id.toNat 4 ++ enc V.blocks.length ++ blkL V.blocks ++ enc V.names.length ++ namL (V.names.zip V.sizes) := rfl
  obtain ⟨id, B, N, S⟩ := V
  simp only at vb vn vs hs1 hs2 hs3 hk1 hk2 hk3 hmi hmayok henc ⊢
  obtain ⟨id, rfl⟩ := Int.eq_ofNat_of_zero_le hk1
  rw [Int.toNat_natCast] at henc
  obtain ⟨A1, hA1⟩ : ∃ A1, A1 = A.alloc (.cells [.int .u32 id, .slice ab B.length cb, .slice an N.length cn, .slice az S.length cs] 27 (some 0)) := ⟨_, rfl⟩
  have ov1 : Over A A1 := hA1 ▸ (Over.refl A).alloc _
  have hn1 : A1.next = A.next + 1 := by rw [hA1]; rfl
  have hbx : A1.get A.next = some (.cells [.int .u32 id, .slice ab B.length cb, .slice an N.length cn, .slice az S.length cs] 27 (some 0)) := by rw [hA1]; exact get_alloc_same ..
  have vb1 : HsView A1 B _ := View.over vb ov1
  have vn1 : StView A1 N _ := View.over vn ov1
  have vs1 : InView A1 S _ := View.over vs ov1
  simp (maxSteps := 1000000) (disch := (first | omega | (simp only [nx_alloc, nx_upd, len_cons, len_nil, List.length_set, List.length_map, List.length_append] <;> omega) | fail)) only [go_sem, Try.ntmps65, Try.results65]
  rw [← hA1]
  refine call1 (hmayok A1 ov1) ?_
  cases hm : mayB ⟨id, B, N, S⟩
  · simp (maxSteps := 1000000) (disch := (first | omega | (simp only [nx_alloc, nx_upd, len_cons, len_nil, List.length_set, List.length_map, List.length_append] <;> omega) | fail)) only [go_sem, Try.results65]
    exact gc_fin' hw ov1 rfl (bnd_strIntV _ _)
  obtain ⟨m1, m2, m3, m4⟩ := hmi.1 hm
  simp (maxSteps := 1000000) (disch := (first | omega | (simp only [nx_alloc, nx_upd, len_cons, len_nil, List.length_set, List.length_map, List.length_append] <;> omega) | fail)) only [go_sem]
  have hb4 : bigS id 4 = bigL id 4 := rfl
  have hbl4 : (bigL id 4).length = 4 := bigL_length id 4
  have hby4 : ∀ x ∈ bigL id 4, Byte x := bigL_byte id 4
  have heb := enc_le10 B.length (by omega)
  have hz1 : (strOfNums (bigL id 4)).size = 4 := by rw [str_size, hbl4]
  have hz2 : (strOfNums (enc B.length)).size = (enc B.length).length := str_size _
  have hcat : strOfNums (bigL id 4) ++ strOfNums (enc B.length) = strOfNums (bigL id 4 ++ enc B.length) := str_append ..
  refine aw_draw (by kernel_rfl) ?_
  simp (maxSteps := 1000000) (disch := (first | omega | (simp only [nx_alloc, nx_upd, len_cons, len_nil, List.length_set, List.length_map, List.length_append] <;> omega) | fail)) only [go_sem, hbx]
  refine ⟨_, rbig_ok w0 A1 id 4 (by omega), _, rput_ok w0 B.length A1 (by omega), ?_⟩
  rw [hb4]
  have hl0 : (bigL id 4 ++ enc B.length).length = 4 + (enc B.length).length := by rw [List.length_append, hbl4]
  generalize hL0 : bigL id 4 ++ enc B.length = L0 at *
  simp (maxSteps := 1000000) (disch := (first | omega | (simp only [nx_alloc, nx_upd, len_cons, len_nil, List.length_set, List.length_map, List.length_append] <;> omega) | fail)) only [go_sem, hcat, hz1, hz2]
  refine aw_loop (fun k x A' => ∃ (ρ : Nat → Value) (i : Nat), x = E 66 ρ [] ∧ A' = A1 ∧ k = B.length - i ∧ i ≤ B.length ∧
      ρ 1 = .pointer (some ⟨A.next, 0, none⟩) ∧ ρ 4 = .string (strOfNums (L0 ++ blkL (B.take i))) ∧ ρ 5 = .int .i64 i) B.length
    ⟨_, 0, rfl, rfl, rfl, Nat.zero_le _, rfl, by simp [blkL, upd], rfl⟩ ?_
  rintro k x A' ⟨ρ, i, rfl, rfl, hk, hi, g1, g4, g5⟩
  refine aw_of ?_
  have hlB := blkL_len (B.take i)
  have htB : (B.take i).length ≤ i := List.length_take_le ..
  have hszi := str_size (L0 ++ blkL (B.take i))
  rw [List.length_append] at hszi
  by_cases hend : i = B.length
  rotate_left
  · have e1 : ((i : Int) < B.length) := by omega
    obtain ⟨h, hx⟩ : ∃ x, B[i]? = some x := ⟨_, List.getElem?_eq_getElem (by omega)⟩
    obtain ⟨pb, po, cells, e', m, hb1, hb2, hb3, hb4, hb5, hb6⟩ := View.en (P := Try.prog) (e := 43) vb1 hsC_len Try.sz43 hx
    simp (maxSteps := 1000000) (disch := (first | omega | (simp only [nx_alloc, nx_upd, len_cons, len_nil, List.length_set, List.length_map, List.length_append] <;> omega) | fail)) only [go_sem, g1, g4, g5, hbx, hb3, hb4, hb5]
    refine call1 (bytes_ok w0 A' h) ?_
    have hst : blkL (B.take (i + 1)) = blkL (B.take i) ++ h.1 := by unfold blkL; rw [List.take_add_one, hx]; simp
    have hcat1 : strOfNums (L0 ++ blkL (B.take i)) ++ strOfNums h.1 = strOfNums (L0 ++ blkL (B.take (i + 1))) := by rw [str_append, hst, List.append_assoc]
    have hzh : (strOfNums h.1).size = 32 := by rw [str_size, h.2]
    simp (maxSteps := 1000000) (disch := (first | omega | (simp only [nx_alloc, nx_upd, len_cons, len_nil, List.length_set, List.length_map, List.length_append] <;> omega) | fail)) only [go_sem, g5, hcat1]
    refine ⟨k - 1, by omega, _, i + 1, rfl, by omega, by omega, ?_, ?_, ?_⟩
    · simp (maxSteps := 1000000) (disch := (first | omega | (simp only [nx_alloc, nx_upd, len_cons, len_nil, List.length_set, List.length_map, List.length_append] <;> omega) | fail)) only [go_sem, g1]
    · simp (maxSteps := 1000000) (disch := (first | omega | (simp only [nx_alloc, nx_upd, len_cons, len_nil, List.length_set, List.length_map, List.length_append] <;> omega) | fail)) only [go_sem]
    · simp (maxSteps := 1000000) (disch := (first | omega | (simp only [nx_alloc, nx_upd, len_cons, len_nil, List.length_set, List.length_map, List.length_append] <;> omega) | fail)) only [go_sem]
      rfl
  have e1 : ¬ ((i : Int) < B.length) := by omega
  rw [hend, List.take_length] at g4 hszi hlB
  have hen := enc_le10 N.length (by omega)
  simp (maxSteps := 1000000) (disch := (first | omega | (simp only [nx_alloc, nx_upd, len_cons, len_nil, List.length_set, List.length_map, List.length_append] <;> omega) | fail)) only [go_sem, g1, g4, g5, hbx]
  refine call1 (rput_ok w0 N.length A' (by omega)) ?_
  have hz5 : (strOfNums (enc N.length)).size = (enc N.length).length := str_size _
  have hcat5 : strOfNums (L0 ++ blkL B) ++ strOfNums (enc N.length) = strOfNums (L0 ++ blkL B ++ enc N.length) := str_append ..
  simp (maxSteps := 1000000) (disch := (first | omega | (simp only [nx_alloc, nx_upd, len_cons, len_nil, List.length_set, List.length_map, List.length_append] <;> omega) | fail)) only [go_sem, g1, hcat5]
  have hzl : (N.zip S).length = N.length := by rw [List.length_zip]; omega
  have hl1 : (L0 ++ blkL B ++ enc N.length).length = L0.length + (blkL B).length + (enc N.length).length := by rw [List.length_append, List.length_append]
  have henc' : encV ⟨id, B, N, S⟩ = (L0 ++ blkL B ++ enc N.length) ++ namL (N.zip S) := henc
  generalize L0 ++ blkL B ++ enc N.length = L1 at *
  refine aw_loop (fun k x A2 => ∃ (ρ : Nat → Value) (i : Nat), x = E 66 ρ [] ∧ A2 = A' ∧ k = N.length - i ∧ i ≤ N.length ∧ (namL ((N.zip S).take i)).length ≤ i * 40 ∧
      ρ 1 = .pointer (some ⟨A.next, 0, none⟩) ∧ ρ 4 = .string (strOfNums (L1 ++ namL ((N.zip S).take i))) ∧ ρ 6 = .int .i64 i) N.length
    ⟨_, 0, rfl, rfl, rfl, Nat.zero_le _, by simp [namL], g1, by simp [namL, upd], rfl⟩ ?_
  clear g1 g4 g5
  rintro k x A2 ⟨ρ, i, rfl, rfl, hk, hi, hnl, g1, g4, g6⟩
  refine aw_of ?_
  have hszi := str_size (L1 ++ namL ((N.zip S).take i))
  rw [List.length_append] at hszi
  by_cases hend : i = N.length
  · have e1 : ¬ ((i : Int) < N.length) := by omega
    rw [hend, List.take_of_length_le (by omega)] at g4
    simp (maxSteps := 1000000) (disch := (first | omega | (simp only [nx_alloc, nx_upd, len_cons, len_nil, List.length_set, List.length_map, List.length_append] <;> omega) | fail)) only [go_sem, g1, g4, g6, hbx, Try.results65]
    exact gc_fin' hw ov1 (by rw [henc']; rfl) (bnd_strIntV _ _)
  have e1 : ((i : Int) < N.length) := by omega
  obtain ⟨nm, hx⟩ : ∃ x, N[i]? = some x := ⟨_, List.getElem?_eq_getElem (by omega)⟩
  obtain ⟨sz, hy⟩ : ∃ x, S[i]? = some x := ⟨_, List.getElem?_eq_getElem (by omega)⟩
  obtain ⟨pb, po, hb1, hb2, hb3, cells, e', md, hb4, hb5⟩ := View.at1 (P := Try.prog) (e := 9) vn1 Try.sz9 (strE_at _ i nm hx)
  obtain ⟨qb, qo, hc1, hc2, hc3, cells2, e2', md2, hc4, hc5⟩ := View.at1 (P := Try.prog) (e := 3) vs1 Try.sz3 (i64E_at _ i sz hy)
  obtain ⟨o1, o2, o3, o4, _⟩ := m4 i (by omega)
  rw [nmN_at hx] at o1 o2
  rw [szN_at hy] at o3 o4
  obtain ⟨sz, rfl⟩ := Int.eq_ofNat_of_zero_le o3
  have q1 := enc_le10 nm.size (by omega)
  have q2 := enc_le10 sz (by omega)
  have hzi : (N.zip S)[i]? = some (nm, (sz : Int)) := by rw [List.getElem?_zip_eq_some]; exact ⟨hx, hy⟩
  have hst : namL ((N.zip S).take (i + 1)) = namL ((N.zip S).take i) ++ (enc nm.size ++ nums nm ++ enc sz) := by
    unfold namL; rw [List.take_add_one, hzi, List.flatMap_append]; simp
  have hln : (enc nm.size ++ nums nm ++ enc sz).length = (enc nm.size).length + nm.size + (enc sz).length := by rw [List.length_append, List.length_append, nums_length]
  have hz3 : (strOfNums (enc nm.size ++ nums nm)).size = (enc nm.size).length + nm.size := by rw [str_size, List.length_append, nums_length]
  have hz4 : (strOfNums (enc sz)).size = (enc sz).length := str_size _
  have hcat3 : strOfNums (L1 ++ namL ((N.zip S).take i)) ++ strOfNums (enc nm.size ++ nums nm) = strOfNums (L1 ++ namL ((N.zip S).take i) ++ (enc nm.size ++ nums nm)) := str_append ..
  have hz6 : (strOfNums (L1 ++ namL ((N.zip S).take i) ++ (enc nm.size ++ nums nm))).size = L1.length + (namL ((N.zip S).take i)).length + ((enc nm.size).length + nm.size) := by rw [str_size, List.length_append, List.length_append, List.length_append, nums_length]
  have hcat4 : strOfNums (L1 ++ namL ((N.zip S).take i) ++ (enc nm.size ++ nums nm)) ++ strOfNums (enc sz) = strOfNums (L1 ++ namL ((N.zip S).take (i + 1))) := by rw [str_append, hst]; simp only [List.append_assoc]
  simp (maxSteps := 1000000) (disch := (first | omega | (simp only [nx_alloc, nx_upd, len_cons, len_nil, List.length_set, List.length_map, List.length_append] <;> omega) | fail)) only [go_sem, g1, g4, g6, hbx]
  refine aw_draw (by kernel_rfl) ?_
  simp (maxSteps := 1000000) (disch := (first | omega | (simp only [nx_alloc, nx_upd, len_cons, len_nil, List.length_set, List.length_map, List.length_append] <;> omega) | fail)) only [go_sem, g1, g4, g6, hbx, hb3, hb4, hb5]
  refine ⟨_, rtext_ok w0 A2 nm (by omega), ?_⟩
  simp (maxSteps := 1000000) (disch := (first | omega | (simp only [nx_alloc, nx_upd, len_cons, len_nil, List.length_set, List.length_map, List.length_append] <;> omega) | fail)) only [go_sem, g1, g6, hcat3, hbx, hc3, hc4, hc5]
  refine ⟨_, rput_ok w0 sz A2 (by omega), ?_⟩
  simp (maxSteps := 1000000) (disch := (first | omega | (simp only [nx_alloc, nx_upd, len_cons, len_nil, List.length_set, List.length_map, List.length_append] <;> omega) | fail)) only [go_sem, g6, hcat4]
  refine ⟨k - 1, by omega, _, i + 1, rfl, by omega, by omega, by rw [hst, List.length_append, hln]; omega, ?_, ?_, ?_⟩
  · simp (maxSteps := 1000000) (disch := (first | omega | (simp only [nx_alloc, nx_upd, len_cons, len_nil, List.length_set, List.length_map, List.length_append] <;> omega) | fail)) only [go_sem, g1]
  · simp (maxSteps := 1000000) (disch := (first | omega | (simp only [nx_alloc, nx_upd, len_cons, len_nil, List.length_set, List.length_map, List.length_append] <;> omega) | fail)) only [go_sem]
  · simp (maxSteps := 1000000) (disch := (first | omega | (simp only [nx_alloc, nx_upd, len_cons, len_nil, List.length_set, List.length_map, List.length_append] <;> omega) | fail)) only [go_sem]
    rfl
end Go.Fw
