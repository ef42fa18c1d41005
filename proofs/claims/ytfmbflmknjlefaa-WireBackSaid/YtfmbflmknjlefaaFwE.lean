import Derived.Test.YtfmbflmknjlefaaFwD
import Derived.Test.YtfmbflmknjlefaaFwWire21
set_option linter.unusedSimpArgs false
set_option linter.unusedVariables false
set_option maxRecDepth 4000
namespace Go.Fw
open Go.Proofs Go.RowKit
theorem Try.enters6 : Enters Try.prog 6 := enters_of Try.func6 rfl (by kernel_rfl)
theorem encM_byte {m : MsgT} (hmay : mayM m = true) (hk : m.okA) : ∀ x ∈ encM m, Byte x := by
  obtain ⟨_, _, _, _, _, _, f12, _⟩ := mayM_facts hmay
  obtain ⟨k1, k2, k3, k4, k5, k6, k7, k8, k9, k10, k11, k12⟩ := hk
  have ho : ∀ (l : List Int), ∀ x ∈ onesL l, Byte x := fun l x hx => by
    obtain ⟨a, _, h⟩ := List.mem_flatMap.1 hx; exact bigL_byte _ _ x h
  have hi : ∀ (l : List Int), ∀ x ∈ idsL l, Byte x := fun l x hx => by
    obtain ⟨a, _, h⟩ := List.mem_flatMap.1 hx; exact bigL_byte _ _ x h
  have hl : ∀ x ∈ logL m.log, Byte x := fun x hx => by
    obtain ⟨a, ha, h⟩ := List.mem_flatMap.1 hx; exact putL_byte (k8 a ha) (f12 a ha) x h
  intro x hx
  unfold encM enc5 enc4 enc3 enc2 enc1 at hx
  simp only [List.mem_append] at hx
  rcases hx with (((((((((((((hx | hx) | hx) | hx) | hx) | hx) | hx) | hx) | hx) | hx) | hx) | hx) | (hx | hx)))
  · exact ho _ x hx
  · exact bigL_byte _ _ x hx
  · exact bigL_byte _ _ x hx
  · exact ho _ x hx
  · exact hl x hx
  · exact bigL_byte _ _ x hx
  · exact bigL_byte _ _ x hx
  · exact bigL_byte _ _ x hx
  · exact bigL_byte _ _ x hx
  · exact hi _ x hx
  · exact encV_byte k11 x hx
  · exact k12 x hx
  · exact enc_byte _ x hx
  · exact nums_byte _ x hx
theorem encM_len {m : MsgT} (hmay : mayM m = true) : 14 ≤ (encM m).length ∧ (encM m).length ≤ 100000 := by
  obtain ⟨_, _, _, _, _, f11, f12, _, _, f17, f18, f19⟩ := mayM_facts hmay
  have yl := logL_len m.log f12
  have hvb := encV_bound f18
  have hhl := m.hash.2
  have htx := enc_le10 m.block.size (by omega)
  have hnb := nums_length m.block
  unfold encM enc5 enc4 enc3 enc2 enc1
  simp only [List.length_append, onesL_len, bigL_length, idsL_len, List.length_cons, List.length_nil, hhl, hnb]
  omega
theorem msg_blk (X : St) (z : Blk) (b : Option Blk) : Over X ((X.alloc z).upd X.next b) ∧ ((X.alloc z).upd X.next b).next = X.next + 1 ∧ ((X.alloc z).upd X.next b).get X.next = b := ⟨((Over.refl X).alloc _).upd (Nat.le_refl _) _, rfl, get_upd_same ..⟩
set_option maxHeartbeats 16000000 in
theorem back18_walk (w0 : World) (A : St) (vm : Value) (m : MsgT) (vr : Value) (r : ReqT) (cut : Int) (hm : MsgV A m vm) (km : m.okA) (hr : ReqV A r vr) (kr : r.okA) (hcut : 0 ≤ cut ∧ cut ≤ 65535) : ACalls Try.prog w0 6 #[vm, vr, .int .u16 cut] A (fin (.bool true) A) := by
  obtain ⟨c0, c1⟩ := hcut
  obtain ⟨mc, rfl, hmc⟩ := hm
  obtain ⟨rc, rfl, hrc⟩ := hr
  have hrc0 := hrc
  have hrcl := hrc.len
  obtain ⟨oc, rfl, vs, rfl, hvs⟩ := hrc
  have hvl := hvs.len
  have hvtk : vs.take 4 = vs := List.take_of_length_le (by omega)
  have hml := hmc.len
  refine call_E Try.enters6 Try.func6 rfl (Nat.le_of_ble_eq_true rfl) fun hw hbd => ?_
  obtain ⟨A1, hA1⟩ : ∃ A1, A1 = (A.alloc (.cells mc 45 (some 0))).alloc (.cells (.int .i64 r.client :: .int .u32 r.seq :: .int .i64 r.op.kind :: .int .u32 r.op.id :: vs) 31 (some 0)) := ⟨_, rfl⟩
  have o1 : Over A A1 := hA1 ▸ ((Over.refl A).alloc _).alloc _
  have nA1 : A1.next = A.next + 2 := by rw [hA1]; rfl
  have g1 : A1.get A.next = some (.cells mc 45 (some 0)) := by rw [hA1]; simp (disch := (first | omega | (simp only [nx_alloc, nx_upd, len_cons, len_nil, List.length_set, List.length_map, List.length_append] <;> omega) | fail)) only [St.get_upd, St.get_alloc, St.next_alloc, St.next_upd, ↓reduceIte, natF_lt, natF_gt, natF_ne, Nat.add_assoc, Nat.reduceAdd, Nat.reduceEqDiff, Nat.add_left_cancel_iff]
  have g3 : A1.get (A.next + 1) = some (.cells (.int .i64 r.client :: .int .u32 r.seq :: .int .i64 r.op.kind :: .int .u32 r.op.id :: vs) 31 (some 0)) := by rw [hA1]; simp (disch := (first | omega | (simp only [nx_alloc, nx_upd, len_cons, len_nil, List.length_set, List.length_map, List.length_append] <;> omega) | fail)) only [St.get_upd, St.get_alloc, St.next_alloc, St.next_upd, ↓reduceIte, natF_lt, natF_gt, natF_ne, Nat.add_assoc, Nat.reduceAdd, Nat.reduceEqDiff, Nat.add_left_cancel_iff]
  have ldm := ldN (n := 49) (cs := mc) (e := 45) (m := some 0) hml
  have ldr := ldN (n := 8) (e := 31) (m := some 0) hrcl
  have ld4 := ld_agg (sz := 4) (off := 4) (e' := 31) (m := some 0) (cells := .int .i64 r.client :: .int .u32 r.seq :: .int .i64 r.op.kind :: .int .u32 r.op.id :: vs) (cs := vs) (by simp; omega) (by rw [List.drop_succ_cons, List.drop_succ_cons, List.drop_succ_cons, List.drop_succ_cons, List.drop_zero, hvtk])
  have hsh := shown18_ok w0 A1
  have hm1 := hmc.ge o1.ge
  have hr1 := hrc0.ge o1.ge
  have hv1 := (hvs.ge o1.ge).ver
  simp (maxSteps := 1000000) (disch := (first | omega | (simp only [nx_alloc, nx_upd, len_cons, len_nil, List.length_set, List.length_map, List.length_append] <;> omega) | fail)) only [go_sem, Try.ntmps6, Try.results6, ldm, hml]
  rw [← hA1]
  try simp (maxSteps := 1000000) (disch := (first | omega | (simp only [nx_alloc, nx_upd, len_cons, len_nil, List.length_set, List.length_map, List.length_append] <;> omega) | fail)) only [go_sem, g1, ldm]
  refine call1 (heavyM_ok w0 A1 m _ hm1) ?_
  cases q1 : hvM m
  rotate_left
  · simp (maxSteps := 1000000) (disch := (first | omega | (simp only [nx_alloc, nx_upd, len_cons, len_nil, List.length_set, List.length_map, List.length_append] <;> omega) | fail)) only [go_sem]
    refine call1 hsh ?_
    simp (maxSteps := 1000000) (disch := (first | omega | (simp only [nx_alloc, nx_upd, len_cons, len_nil, List.length_set, List.length_map, List.length_append] <;> omega) | fail)) only [go_sem, Try.results6]
    exact gc_fin hw o1 (.bool _)
  simp (maxSteps := 1000000) (disch := (first | omega | (simp only [nx_alloc, nx_upd, len_cons, len_nil, List.length_set, List.length_map, List.length_append] <;> omega) | fail)) only [go_sem, g3, ld4, hvtk]
  refine call1 (much_ok w0 A1 r.op.v _ hv1) ?_
  cases q3 : hvV r.op.v
  rotate_left
  · simp (maxSteps := 1000000) (disch := (first | omega | (simp only [nx_alloc, nx_upd, len_cons, len_nil, List.length_set, List.length_map, List.length_append] <;> omega) | fail)) only [go_sem]
    refine call1 hsh ?_
    simp (maxSteps := 1000000) (disch := (first | omega | (simp only [nx_alloc, nx_upd, len_cons, len_nil, List.length_set, List.length_map, List.length_append] <;> omega) | fail)) only [go_sem, Try.results6]
    exact gc_fin hw o1 (.bool _)
  have sm := hvM_small q1
  have sr := hvV_small q3
  simp (maxSteps := 1000000) (disch := (first | omega | (simp only [nx_alloc, nx_upd, len_cons, len_nil, List.length_set, List.length_map, List.length_append] <;> omega) | fail)) only [go_sem]
  refine call1 hsh ?_
  simp (maxSteps := 1000000) (disch := (first | omega | (simp only [nx_alloc, nx_upd, len_cons, len_nil, List.length_set, List.length_map, List.length_append] <;> omega) | fail)) only [go_sem, g3, ldr, hvtk]
  refine call1 (put_req_ok w0 A1 r _ hr1 sr kr) ?_
  have tail : ∀ (B : St), Over A1 B → (mayM m = true → ∀ k : Nat, k < (encM m).length → ACalls Try.prog w0 16 #[.string (strOfNums (encM m))] B (DecPost B (m, 0)) ∧ (∀ X, ACalls Try.prog w0 16 #[.string (strOfNums ((encM m).take k))] X (DecPost X (decP ((encM m).take k)))) ∧ (decP ((encM m).take k)).2 = 40 ∧ (∀ X, ACalls Try.prog w0 16 #[.string (strOfNums (encM m) ++ ⟨#[120]⟩)] X (DecPost X (msg0, 42)))) := by
    intro B oB hmay k hk
    have hb := encM_byte hmay km
    obtain ⟨l1, l2⟩ := encM_len hmay
    have h0 := decP_fw hmay km []
    rw [List.append_nil, if_neg (by simp)] at h0
    have hx : (⟨#[120]⟩ : ByteArray).size = 1 := rfl
    refine ⟨?_, fun X => ?_, ?_, fun X => ?_⟩
    · have := wdec_ok w0 B (strOfNums (encM m)) (by rw [str_size]; omega)
      rw [nums_str hb, h0] at this; exact this
    · have := wdec_ok w0 X (strOfNums ((encM m).take k)) (by rw [str_size, List.length_take]; omega)
      rw [nums_str (fun x hx => hb x (List.mem_of_mem_take hx))] at this; exact this
    · exact decP_cut hmay km (q := (encM m).take k) (u := (encM m).drop k) (by intro e; have := congrArg List.length e; simp at this; omega) (List.take_append_drop ..).symm
    · have := wdec_ok w0 X (strOfNums (encM m) ++ ⟨#[120]⟩) (by rw [ByteArray.size_append, str_size]; omega)
      rw [nums_append, nums_str hb, show nums ⟨#[120]⟩ = [120] from rfl, decP_fw hmay km, if_pos (by simp)] at this; exact this
  have henc := fun (B : St) (oB : Over A1 B) => wenc_ok w0 B m _ (hm1.ge oB.ge) sm km
  have hb120 : (⟨#[120]⟩ : ByteArray).size = 1 := rfl
  have hb122 : (⟨#[122]⟩ : ByteArray).size = 1 := rfl
  cases hrb : rightB r
  · rw [putR_neg hrb]
    have e0 : (ByteArray.empty == (⟨#[]⟩ : ByteArray)) = true := rfl
    simp (maxSteps := 1000000) (disch := (first | omega | (simp only [nx_alloc, nx_upd, len_cons, len_nil, List.length_set, List.length_map, List.length_append] <;> omega) | fail)) only [go_sem, e0, g1, ldm, hml]
    refine call1 (henc A1 (Over.refl _)) ?_
    unfold encB strIntV
    cases hmay : mayM m
    · have e0 : (ByteArray.empty == (⟨#[]⟩ : ByteArray)) = true := rfl
      simp (maxSteps := 1000000) (disch := (first | omega | (simp only [nx_alloc, nx_upd, len_cons, len_nil, List.length_set, List.length_map, List.length_append] <;> omega) | fail)) only [go_sem, e0, Try.results6]
      exact gc_fin hw (o1.trans (Over.refl A1)) (.bool _)
    have hsz := str_size (encM m)
    obtain ⟨l1, l2⟩ := encM_len hmay
    have hb := encM_byte hmay km
    obtain ⟨k, hk1, hk2⟩ : ∃ k : Nat, k < (encM m).length ∧ cut.tmod ((strOfNums (encM m)).size : Int) = k := by
      have h1 := Int.tmod_nonneg ((strOfNums (encM m)).size : Int) c0
      have h2 := Int.tmod_lt_of_pos cut (b := ((strOfNums (encM m)).size : Int)) (by omega)
      obtain ⟨k, hk⟩ := Int.eq_ofNat_of_zero_le h1
      exact ⟨k, by omega, hk⟩
    have hex := str_take hb k
    obtain ⟨t1, t2, t3, t4⟩ := tail A1 (Over.refl A1) hmay k hk1
    simp (maxSteps := 1000000) (disch := (first | omega | (simp only [nx_alloc, nx_upd, len_cons, len_nil, List.length_set, List.length_map, List.length_append] <;> omega) | fail)) only [go_sem]
    refine t1.mono ?_
    rintro e D1 ⟨dc, rfl, p1, hd1⟩
    dsimp only at hd1
    have hdl := hd1.len
    have hdcc := hd1.cell
    have hst3 := fun (X : St) (b : Nat) (z : List Value) (hz : z.length = 49) => stN (n := 49) (X := X) (b := b) (z := z) (e := 45) hz hdl hdcc
    have ldd := ldN (n := 49) (e := 45) (m := some 0) hdl
    obtain ⟨C1, hC1⟩ : ∃ C, C = (D1.alloc (.cells [.int .i64 0, .int .i64 0, .int .i64 0, .int .u32 0, .int .u32 0, .int .i64 0, .int .i64 0, .slice none 0 0, .int .i64 0, .int .u32 0, .int .i64 0, .slice none 0 0, .int .u32 0, .slice none 0 0, .slice none 0 0, .slice none 0 0, .int .u8 0, .int .u8 0, .int .u8 0, .int .u8 0, .int .u8 0, .int .u8 0, .int .u8 0, .int .u8 0, .int .u8 0, .int .u8 0, .int .u8 0, .int .u8 0, .int .u8 0, .int .u8 0, .int .u8 0, .int .u8 0, .int .u8 0, .int .u8 0, .int .u8 0, .int .u8 0, .int .u8 0, .int .u8 0, .int .u8 0, .int .u8 0, .int .u8 0, .int .u8 0, .int .u8 0, .int .u8 0, .int .u8 0, .int .u8 0, .int .u8 0, .int .u8 0, .string ByteArray.empty] 45 (some 0))).upd D1.next (some (.cells dc 45 (some 0))) := ⟨_, rfl⟩
    have ow1 : Over D1 C1 := hC1 ▸ ((Over.refl D1).alloc _).upd (Nat.le_refl _) _
    have gC1 : C1.get D1.next = some (.cells dc 45 (some 0)) := by rw [hC1]; exact get_upd_same ..
    have nC1 : C1.next = D1.next + 1 := by rw [hC1]; rfl
    have hke : (cut.tmod ((strOfNums (encM m)).size : Int)).toNat = k := by rw [hk2]; rfl
    simp (maxSteps := 1000000) (disch := (first | omega | (simp only [nx_alloc, nx_upd, len_cons, len_nil, List.length_set, List.length_map, List.length_append] <;> omega) | fail)) only [go_sem, hst3]
    rw [← hC1]
    rw [hke, hex]
    refine (t2 C1).mono ?_
    rintro e D2 ⟨fc, rfl, p2, hd2⟩
    rw [t3]
    have hfl := hd2.len
    have hfcc := hd2.cell
    have hst4 := fun (X : St) (b : Nat) (z : List Value) (hz : z.length = 49) => stN (n := 49) (X := X) (b := b) (z := z) (e := 45) hz hfl hfcc
    obtain ⟨C2, hC2⟩ : ∃ C, C = (D2.alloc (.cells [.int .i64 0, .int .i64 0, .int .i64 0, .int .u32 0, .int .u32 0, .int .i64 0, .int .i64 0, .slice none 0 0, .int .i64 0, .int .u32 0, .int .i64 0, .slice none 0 0, .int .u32 0, .slice none 0 0, .slice none 0 0, .slice none 0 0, .int .u8 0, .int .u8 0, .int .u8 0, .int .u8 0, .int .u8 0, .int .u8 0, .int .u8 0, .int .u8 0, .int .u8 0, .int .u8 0, .int .u8 0, .int .u8 0, .int .u8 0, .int .u8 0, .int .u8 0, .int .u8 0, .int .u8 0, .int .u8 0, .int .u8 0, .int .u8 0, .int .u8 0, .int .u8 0, .int .u8 0, .int .u8 0, .int .u8 0, .int .u8 0, .int .u8 0, .int .u8 0, .int .u8 0, .int .u8 0, .int .u8 0, .int .u8 0, .string ByteArray.empty] 45 (some 0))).upd D2.next (some (.cells fc 45 (some 0))) := ⟨_, rfl⟩
    have ow2 : Over D2 C2 := hC2 ▸ ((Over.refl D2).alloc _).upd (Nat.le_refl _) _
    simp (maxSteps := 1000000) (disch := (first | omega | (simp only [nx_alloc, nx_upd, len_cons, len_nil, List.length_set, List.length_map, List.length_append] <;> omega) | fail)) only [go_sem, hst4]
    rw [← hC2]
    refine (t4 C2).mono ?_
    rintro e D3 ⟨hc, rfl, p3, hd3⟩
    dsimp only at hd3
    have hhl := hd3.len
    have hhcc := hd3.cell
    have hst5 := fun (X : St) (b : Nat) (z : List Value) (hz : z.length = 49) => stN (n := 49) (X := X) (b := b) (z := z) (e := 45) hz hhl hhcc
    obtain ⟨C3, hC3⟩ : ∃ C, C = (D3.alloc (.cells [.int .i64 0, .int .i64 0, .int .i64 0, .int .u32 0, .int .u32 0, .int .i64 0, .int .i64 0, .slice none 0 0, .int .i64 0, .int .u32 0, .int .i64 0, .slice none 0 0, .int .u32 0, .slice none 0 0, .slice none 0 0, .slice none 0 0, .int .u8 0, .int .u8 0, .int .u8 0, .int .u8 0, .int .u8 0, .int .u8 0, .int .u8 0, .int .u8 0, .int .u8 0, .int .u8 0, .int .u8 0, .int .u8 0, .int .u8 0, .int .u8 0, .int .u8 0, .int .u8 0, .int .u8 0, .int .u8 0, .int .u8 0, .int .u8 0, .int .u8 0, .int .u8 0, .int .u8 0, .int .u8 0, .int .u8 0, .int .u8 0, .int .u8 0, .int .u8 0, .int .u8 0, .int .u8 0, .int .u8 0, .int .u8 0, .string ByteArray.empty] 45 (some 0))).upd D3.next (some (.cells hc 45 (some 0))) := ⟨_, rfl⟩
    have ow3 : Over D3 C3 := hC3 ▸ ((Over.refl D3).alloc _).upd (Nat.le_refl _) _
    have e1 : Over C1 D3 := (p2.trans ow2).trans p3
    have e2 : Over C1 C3 := e1.trans ow3
    have m1 := p1.next
    have m2 := e1.next
    have nO := ((Over.refl A1)).next
    have y1 : D3.get D1.next = _ := (e1.get _ (by omega)).trans gC1
    have y2 : D3.get A.next = _ := (((p1.trans ow1).trans e1).get _ (by omega)).trans g1
    simp (maxSteps := 1000000) (disch := (first | omega | (simp only [nx_alloc, nx_upd, len_cons, len_nil, List.length_set, List.length_map, List.length_append] <;> omega) | fail)) only [go_sem, hst5, y1, y2, ldd, ldm]
    rw [← hC3]
    refine call1 (rsame_ok w0 C3 m m _ _ (hd1.ge (ow1.trans e2).ge) ((hm1.ge ((Over.refl A1)).ge).ge (((p1.trans ow1).trans e2)).ge) sm sm) ?_
    rw [sameM_self]
    simp (maxSteps := 1000000) (disch := (first | omega | (simp only [nx_alloc, nx_upd, len_cons, len_nil, List.length_set, List.length_map, List.length_append] <;> omega) | fail)) only [go_sem, Try.results6]
    exact gc_fin hw (o1.trans (((Over.refl A1)).trans ((p1.trans ow1).trans e2))) (.bool _)
  · have hpr : putR r = strOfNums (putL r) := if_pos hrb
    have hpb := putL_byte kr hrb
    have hpl := putL_len hrb
    have hpos : ¬ (putL r).length = 0 := by unfold putL; simp
    have hne : (strOfNums (putL r) == (⟨#[]⟩ : ByteArray)) = false := by rw [beq_emptyS, str_size]; exact decide_eq_false hpos
    have hsz := str_size (putL r)
    have hget := getreq_ok w0 A1 (strOfNums (putL r) ++ ⟨#[122]⟩) (by rw [ByteArray.size_append, str_size]; omega)
    rw [nums_append, nums_str hpb, show nums ⟨#[122]⟩ = [122] from rfl, reqP_fw hrb kr] at hget
    rw [hpr]
    simp (maxSteps := 1000000) (disch := (first | omega | (simp only [nx_alloc, nx_upd, len_cons, len_nil, List.length_set, List.length_map, List.length_append] <;> omega) | fail)) only [go_sem, hne]
    refine hget.mono ?_
    rintro e A2 ⟨v2, rfl, o2, hq2⟩
    obtain ⟨tc, rfl, htc⟩ := hq2.req
    have htl := htc.len
    have htcc := htc.cell
    have hst2 := fun (X : St) (b : Nat) (z : List Value) (hz : z.length = 8) => stN (n := 8) (X := X) (b := b) (z := z) (e := 31) hz htl htcc
    have ldt := ldN (n := 8) (e := 31) (m := some 0) htl
    obtain ⟨B2, hB2⟩ : ∃ B, B = (A2.alloc (.cells [.int .i64 0, .int .u32 0, .int .i64 0, .int .u32 0, .int .u32 0, .slice none 0 0, .slice none 0 0, .slice none 0 0] 31 (some 0))).upd A2.next (some (.cells tc 31 (some 0))) := ⟨_, rfl⟩
    have ov2 : Over A2 B2 := hB2 ▸ ((Over.refl A2).alloc _).upd (Nat.le_refl _) _
    have oB2 : Over A1 B2 := o2.trans ov2
    have n2 := o2.next
    have gB2 : B2.get A2.next = some (.cells tc 31 (some 0)) := by rw [hB2]; exact get_upd_same ..
    have k3 : A2.get (A.next + 1) = _ := (o2.get _ (by omega)).trans g3
    have k1 : A2.get A.next = _ := (o2.get _ (by omega)).trans g1
    have h122 : (strOfNums [122] == (⟨#[122]⟩ : ByteArray)) = true := rfl
    simp (maxSteps := 1000000) (disch := (first | omega | (simp only [nx_alloc, nx_upd, len_cons, len_nil, List.length_set, List.length_map, List.length_append] <;> omega) | fail)) only [go_sem, hst2, h122, k3, ldr, ldt, hvtk]
    rw [← hB2]
    refine call1 (samerq_ok w0 B2 r r _ _ (htc.ge ov2.ge) (hr1.ge oB2.ge) sr sr) ?_
    rw [sameQ_self]
    have j1 : B2.get A.next = _ := (oB2.get _ (by omega)).trans g1
    simp (maxSteps := 1000000) (disch := (first | omega | (simp only [nx_alloc, nx_upd, len_cons, len_nil, List.length_set, List.length_map, List.length_append] <;> omega) | fail)) only [go_sem, j1, ldm, hml]
    refine call1 (henc B2 oB2) ?_
    unfold encB strIntV
    cases hmay : mayM m
    · have e0 : (ByteArray.empty == (⟨#[]⟩ : ByteArray)) = true := rfl
      simp (maxSteps := 1000000) (disch := (first | omega | (simp only [nx_alloc, nx_upd, len_cons, len_nil, List.length_set, List.length_map, List.length_append] <;> omega) | fail)) only [go_sem, e0, Try.results6]
      exact gc_fin hw (o1.trans oB2) (.bool _)
    have hsz := str_size (encM m)
    obtain ⟨l1, l2⟩ := encM_len hmay
    have hb := encM_byte hmay km
    obtain ⟨k, hk1, hk2⟩ : ∃ k : Nat, k < (encM m).length ∧ cut.tmod ((strOfNums (encM m)).size : Int) = k := by
      have h1 := Int.tmod_nonneg ((strOfNums (encM m)).size : Int) c0
      have h2 := Int.tmod_lt_of_pos cut (b := ((strOfNums (encM m)).size : Int)) (by omega)
      obtain ⟨k, hk⟩ := Int.eq_ofNat_of_zero_le h1
      exact ⟨k, by omega, hk⟩
    have hex := str_take hb k
    obtain ⟨t1, t2, t3, t4⟩ := tail B2 oB2 hmay k hk1
    simp (maxSteps := 1000000) (disch := (first | omega | (simp only [nx_alloc, nx_upd, len_cons, len_nil, List.length_set, List.length_map, List.length_append] <;> omega) | fail)) only [go_sem]
    refine t1.mono ?_
    rintro e D1 ⟨dc, rfl, p1, hd1⟩
    dsimp only at hd1
    have hdl := hd1.len
    have hdcc := hd1.cell
    have hst3 := fun (X : St) (b : Nat) (z : List Value) (hz : z.length = 49) => stN (n := 49) (X := X) (b := b) (z := z) (e := 45) hz hdl hdcc
    have ldd := ldN (n := 49) (e := 45) (m := some 0) hdl
    obtain ⟨C1, hC1⟩ : ∃ C, C = (D1.alloc (.cells [.int .i64 0, .int .i64 0, .int .i64 0, .int .u32 0, .int .u32 0, .int .i64 0, .int .i64 0, .slice none 0 0, .int .i64 0, .int .u32 0, .int .i64 0, .slice none 0 0, .int .u32 0, .slice none 0 0, .slice none 0 0, .slice none 0 0, .int .u8 0, .int .u8 0, .int .u8 0, .int .u8 0, .int .u8 0, .int .u8 0, .int .u8 0, .int .u8 0, .int .u8 0, .int .u8 0, .int .u8 0, .int .u8 0, .int .u8 0, .int .u8 0, .int .u8 0, .int .u8 0, .int .u8 0, .int .u8 0, .int .u8 0, .int .u8 0, .int .u8 0, .int .u8 0, .int .u8 0, .int .u8 0, .int .u8 0, .int .u8 0, .int .u8 0, .int .u8 0, .int .u8 0, .int .u8 0, .int .u8 0, .int .u8 0, .string ByteArray.empty] 45 (some 0))).upd D1.next (some (.cells dc 45 (some 0))) := ⟨_, rfl⟩
    have ow1 : Over D1 C1 := hC1 ▸ ((Over.refl D1).alloc _).upd (Nat.le_refl _) _
    have gC1 : C1.get D1.next = some (.cells dc 45 (some 0)) := by rw [hC1]; exact get_upd_same ..
    have nC1 : C1.next = D1.next + 1 := by rw [hC1]; rfl
    have hke : (cut.tmod ((strOfNums (encM m)).size : Int)).toNat = k := by rw [hk2]; rfl
    simp (maxSteps := 1000000) (disch := (first | omega | (simp only [nx_alloc, nx_upd, len_cons, len_nil, List.length_set, List.length_map, List.length_append] <;> omega) | fail)) only [go_sem, hst3]
    rw [← hC1]
    rw [hke, hex]
    refine (t2 C1).mono ?_
    rintro e D2 ⟨fc, rfl, p2, hd2⟩
    rw [t3]
    have hfl := hd2.len
    have hfcc := hd2.cell
    have hst4 := fun (X : St) (b : Nat) (z : List Value) (hz : z.length = 49) => stN (n := 49) (X := X) (b := b) (z := z) (e := 45) hz hfl hfcc
    obtain ⟨C2, hC2⟩ : ∃ C, C = (D2.alloc (.cells [.int .i64 0, .int .i64 0, .int .i64 0, .int .u32 0, .int .u32 0, .int .i64 0, .int .i64 0, .slice none 0 0, .int .i64 0, .int .u32 0, .int .i64 0, .slice none 0 0, .int .u32 0, .slice none 0 0, .slice none 0 0, .slice none 0 0, .int .u8 0, .int .u8 0, .int .u8 0, .int .u8 0, .int .u8 0, .int .u8 0, .int .u8 0, .int .u8 0, .int .u8 0, .int .u8 0, .int .u8 0, .int .u8 0, .int .u8 0, .int .u8 0, .int .u8 0, .int .u8 0, .int .u8 0, .int .u8 0, .int .u8 0, .int .u8 0, .int .u8 0, .int .u8 0, .int .u8 0, .int .u8 0, .int .u8 0, .int .u8 0, .int .u8 0, .int .u8 0, .int .u8 0, .int .u8 0, .int .u8 0, .int .u8 0, .string ByteArray.empty] 45 (some 0))).upd D2.next (some (.cells fc 45 (some 0))) := ⟨_, rfl⟩
    have ow2 : Over D2 C2 := hC2 ▸ ((Over.refl D2).alloc _).upd (Nat.le_refl _) _
    simp (maxSteps := 1000000) (disch := (first | omega | (simp only [nx_alloc, nx_upd, len_cons, len_nil, List.length_set, List.length_map, List.length_append] <;> omega) | fail)) only [go_sem, hst4]
    rw [← hC2]
    refine (t4 C2).mono ?_
    rintro e D3 ⟨hc, rfl, p3, hd3⟩
    dsimp only at hd3
    have hhl := hd3.len
    have hhcc := hd3.cell
    have hst5 := fun (X : St) (b : Nat) (z : List Value) (hz : z.length = 49) => stN (n := 49) (X := X) (b := b) (z := z) (e := 45) hz hhl hhcc
    obtain ⟨C3, hC3⟩ : ∃ C, C = (D3.alloc (.cells [.int .i64 0, .int .i64 0, .int .i64 0, .int .u32 0, .int .u32 0, .int .i64 0, .int .i64 0, .slice none 0 0, .int .i64 0, .int .u32 0, .int .i64 0, .slice none 0 0, .int .u32 0, .slice none 0 0, .slice none 0 0, .slice none 0 0, .int .u8 0, .int .u8 0, .int .u8 0, .int .u8 0, .int .u8 0, .int .u8 0, .int .u8 0, .int .u8 0, .int .u8 0, .int .u8 0, .int .u8 0, .int .u8 0, .int .u8 0, .int .u8 0, .int .u8 0, .int .u8 0, .int .u8 0, .int .u8 0, .int .u8 0, .int .u8 0, .int .u8 0, .int .u8 0, .int .u8 0, .int .u8 0, .int .u8 0, .int .u8 0, .int .u8 0, .int .u8 0, .int .u8 0, .int .u8 0, .int .u8 0, .int .u8 0, .string ByteArray.empty] 45 (some 0))).upd D3.next (some (.cells hc 45 (some 0))) := ⟨_, rfl⟩
    have ow3 : Over D3 C3 := hC3 ▸ ((Over.refl D3).alloc _).upd (Nat.le_refl _) _
    have e1 : Over C1 D3 := (p2.trans ow2).trans p3
    have e2 : Over C1 C3 := e1.trans ow3
    have m1 := p1.next
    have m2 := e1.next
    have nO := (oB2).next
    have y1 : D3.get D1.next = _ := (e1.get _ (by omega)).trans gC1
    have y2 : D3.get A.next = _ := (((p1.trans ow1).trans e1).get _ (by omega)).trans j1
    simp (maxSteps := 1000000) (disch := (first | omega | (simp only [nx_alloc, nx_upd, len_cons, len_nil, List.length_set, List.length_map, List.length_append] <;> omega) | fail)) only [go_sem, hst5, y1, y2, ldd, ldm]
    rw [← hC3]
    refine call1 (rsame_ok w0 C3 m m _ _ (hd1.ge (ow1.trans e2).ge) ((hm1.ge (oB2).ge).ge (((p1.trans ow1).trans e2)).ge) sm sm) ?_
    rw [sameM_self]
    simp (maxSteps := 1000000) (disch := (first | omega | (simp only [nx_alloc, nx_upd, len_cons, len_nil, List.length_set, List.length_map, List.length_append] <;> omega) | fail)) only [go_sem, Try.results6]
    exact gc_fin hw (o1.trans ((oB2).trans ((p1.trans ow1).trans e2))) (.bool _)
end Go.Fw
