import Derived.Test.YtfmbflmknjlefaaFwWire26
set_option linter.unusedSimpArgs false
set_option linter.unusedVariables false
set_option maxRecDepth 4000
namespace Go.Fw
open Go.Proofs Go.RowKit
theorem Try.enters5 : Enters Try.prog 5 := enters_of Try.func5 rfl (by kernel_rfl)
theorem decP_err {r : List Int} {m : MsgT} {e : Int} (h : decP r = (m, e)) (he : e ≠ 0) : m = msg0 := by
  have := h
  unfold decP at this
  split at this
  split at this; · cases this; rfl
  split at this
  split at this; · cases this; rfl
  split at this
  split at this; · cases this; rfl
  split at this
  split at this; · cases this; rfl
  split at this
  split at this; · cases this; rfl
  split at this
  split at this; · cases this; rfl
  unfold decL at this
  split at this
  split at this; · cases this; rfl
  split at this
  split at this; · cases this; rfl
  split at this
  split at this; · cases this; rfl
  split at this
  split at this; · cases this; rfl
  split at this
  split at this; · cases this; rfl
  unfold decT at this
  split at this
  split at this; · cases this; rfl
  split at this
  split at this; · cases this; rfl
  split at this; · cases this; rfl
  split at this; · cases this; rfl
  cases this; exact absurd rfl he
theorem msg0_small : msg0.small := ⟨fun r h => (by cases h), verN_small, by decide, by decide, by decide⟩
theorem decP_small {r : List Int} (hr : RW r) : (decP r).1.small := by
  rcases h : decP r with ⟨m, e⟩
  by_cases he : e = 0
  · subst he; exact (decP_inv hr h).2.2.1
  · obtain rfl := decP_err h he; exact msg0_small
theorem reqP_small {r : List Int} (hr : RW r) : (reqP r).1.op.v.small := by
  rcases h : reqP r with ⟨m, t, e⟩
  by_cases he : e = 0
  · subst he; exact (reqP_inv hr h).2.2.1
  · obtain ⟨rfl, _⟩ := reqP_err h he; exact verN_small
theorem sameQ_self (a : ReqT) : sameQ a a = true := (sameQ_iff a a).2 rfl
theorem beqSelf (s : ByteArray) : (s == s) = true := by rw [beqBytes]; simp
set_option maxHeartbeats 16000000 in
theorem decodes_walk (w0 : World) (A : St) (s : ByteArray) : ACalls Try.prog w0 5 #[.string s] A (fin (.bool true) A) := by
  refine call_E (l := [.string s]) Try.enters5 Try.func5 rfl (Nat.le_of_ble_eq_true rfl) fun hw hbd => ?_
  have hsh := shown18_ok w0 A
  by_cases hbig : 4000 < (s.size : Int)
  · simp (maxSteps := 1000000) (disch := (first | omega | (simp only [nx_alloc, nx_upd, len_cons, len_nil, List.length_set, List.length_map, List.length_append] <;> omega) | fail)) only [go_sem, Try.ntmps5, Try.results5, hbig]
    refine call1 hsh ?_
    simp (maxSteps := 1000000) (disch := (first | omega | (simp only [nx_alloc, nx_upd, len_cons, len_nil, List.length_set, List.length_map, List.length_append] <;> omega) | fail)) only [go_sem, Try.results5]
    exact gc_fin hw (Over.refl _) (.bool _)
  have hsz : s.size ≤ 1048576 := by omega
  have hr : RW (nums s) := ⟨nums_byte s, by rw [nums_length]; exact hsz⟩
  simp (maxSteps := 1000000) (disch := (first | omega | (simp only [nx_alloc, nx_upd, len_cons, len_nil, List.length_set, List.length_map, List.length_append] <;> omega) | fail)) only [go_sem, Try.ntmps5, Try.results5, hbig]
  refine call1 hsh ?_
  simp (maxSteps := 1000000) (disch := (first | omega | (simp only [nx_alloc, nx_upd, len_cons, len_nil, List.length_set, List.length_map, List.length_append] <;> omega) | fail)) only [go_sem]
  refine (wdec_ok w0 A s hsz).mono ?_
  rintro e A1 ⟨cs, rfl, o1, hc1⟩
  have hsm := decP_small hr
  have hsq := reqP_small hr
  have hcl := hc1.len
  have hcc := hc1.cell
  have hst := fun (X : St) (b : Nat) (z : List Value) (hz : z.length = 49) => stN (n := 49) (X := X) (b := b) (z := z) (e := 45) hz hcl hcc
  obtain ⟨B1, hB1⟩ : ∃ B, B = (A1.alloc (.cells [.int .i64 0, .int .i64 0, .int .i64 0, .int .u32 0, .int .u32 0, .int .i64 0, .int .i64 0, .slice none 0 0, .int .i64 0, .int .u32 0, .int .i64 0, .slice none 0 0, .int .u32 0, .slice none 0 0, .slice none 0 0, .slice none 0 0, .int .u8 0, .int .u8 0, .int .u8 0, .int .u8 0, .int .u8 0, .int .u8 0, .int .u8 0, .int .u8 0, .int .u8 0, .int .u8 0, .int .u8 0, .int .u8 0, .int .u8 0, .int .u8 0, .int .u8 0, .int .u8 0, .int .u8 0, .int .u8 0, .int .u8 0, .int .u8 0, .int .u8 0, .int .u8 0, .int .u8 0, .int .u8 0, .int .u8 0, .int .u8 0, .int .u8 0, .int .u8 0, .int .u8 0, .int .u8 0, .int .u8 0, .int .u8 0, .string ByteArray.empty] 45 (some 0))).upd A1.next (some (.cells cs 45 (some 0))) := ⟨_, rfl⟩
  have ov1 : Over A1 B1 := hB1 ▸ ((Over.refl A1).alloc _).upd (Nat.le_refl _) _
  have nB1 : B1.next = A1.next + 1 := by rw [hB1]; rfl
  have gB1 : B1.get A1.next = some (.cells cs 45 (some 0)) := by rw [hB1]; exact get_upd_same ..
  simp (maxSteps := 1000000) (disch := (first | omega | (simp only [nx_alloc, nx_upd, len_cons, len_nil, List.length_set, List.length_map, List.length_append] <;> omega) | fail)) only [go_sem, hst]
  rw [← hB1]
  refine (rdec_ok w0 B1 s hsz).mono ?_
  rintro e A2 ⟨ds, rfl, o2, hd2⟩
  have hdl := hd2.len
  have hdc := hd2.cell
  have hst2 := fun (X : St) (b : Nat) (z : List Value) (hz : z.length = 49) => stN (n := 49) (X := X) (b := b) (z := z) (e := 53) hz hdl hdc
  obtain ⟨B2, hB2⟩ : ∃ B, B = (A2.alloc (.cells [.int .i64 0, .int .i64 0, .int .i64 0, .int .u32 0, .int .u32 0, .int .i64 0, .int .i64 0, .slice none 0 0, .int .i64 0, .int .u32 0, .int .i64 0, .slice none 0 0, .int .u32 0, .slice none 0 0, .slice none 0 0, .slice none 0 0, .int .u8 0, .int .u8 0, .int .u8 0, .int .u8 0, .int .u8 0, .int .u8 0, .int .u8 0, .int .u8 0, .int .u8 0, .int .u8 0, .int .u8 0, .int .u8 0, .int .u8 0, .int .u8 0, .int .u8 0, .int .u8 0, .int .u8 0, .int .u8 0, .int .u8 0, .int .u8 0, .int .u8 0, .int .u8 0, .int .u8 0, .int .u8 0, .int .u8 0, .int .u8 0, .int .u8 0, .int .u8 0, .int .u8 0, .int .u8 0, .int .u8 0, .int .u8 0, .string ByteArray.empty] 53 (some 0))).upd A2.next (some (.cells ds 53 (some 0))) := ⟨_, rfl⟩
  have ov2 : Over A2 B2 := hB2 ▸ ((Over.refl A2).alloc _).upd (Nat.le_refl _) _
  have nB2 : B2.next = A2.next + 1 := by rw [hB2]; rfl
  have gB2 : B2.get A2.next = some (.cells ds 53 (some 0)) := by rw [hB2]; exact get_upd_same ..
  simp (maxSteps := 1000000) (disch := (first | omega | (simp only [nx_alloc, nx_upd, len_cons, len_nil, List.length_set, List.length_map, List.length_append] <;> omega) | fail)) only [go_sem, hst2]
  rw [← hB2]
  refine (getreq_ok w0 B2 s hsz).mono ?_
  rintro e A3 ⟨v3, rfl, o3, hq3⟩
  obtain ⟨rc, rfl, hrc⟩ := hq3.req
  have hrl := hrc.len
  have hrcc := hrc.cell
  have hst3 := fun (X : St) (b : Nat) (z : List Value) (hz : z.length = 8) => stN (n := 8) (X := X) (b := b) (z := z) (e := 31) hz hrl hrcc
  obtain ⟨B3, hB3⟩ : ∃ B, B = (A3.alloc (.cells [.int .i64 0, .int .u32 0, .int .i64 0, .int .u32 0, .int .u32 0, .slice none 0 0, .slice none 0 0, .slice none 0 0] 31 (some 0))).upd A3.next (some (.cells rc 31 (some 0))) := ⟨_, rfl⟩
  have ov3 : Over A3 B3 := hB3 ▸ ((Over.refl A3).alloc _).upd (Nat.le_refl _) _
  have nB3 : B3.next = A3.next + 1 := by rw [hB3]; rfl
  have gB3 : B3.get A3.next = some (.cells rc 31 (some 0)) := by rw [hB3]; exact get_upd_same ..
  simp (maxSteps := 1000000) (disch := (first | omega | (simp only [nx_alloc, nx_upd, len_cons, len_nil, List.length_set, List.length_map, List.length_append] <;> omega) | fail)) only [go_sem, hst3]
  rw [← hB3]
  refine (rgetq_ok w0 B3 s hsz).mono ?_
  rintro e A4 ⟨v4, rfl, o4, hq4⟩
  obtain ⟨tc, rfl, htc⟩ := hq4.req
  have htl := htc.len
  have htcc := htc.cell
  have hst4 := fun (X : St) (b : Nat) (z : List Value) (hz : z.length = 8) => stN (n := 8) (X := X) (b := b) (z := z) (e := 31) hz htl htcc
  obtain ⟨B4, hB4⟩ : ∃ B, B = (A4.alloc (.cells [.int .i64 0, .int .u32 0, .int .i64 0, .int .u32 0, .int .u32 0, .slice none 0 0, .slice none 0 0, .slice none 0 0] 31 (some 0))).upd A4.next (some (.cells tc 31 (some 0))) := ⟨_, rfl⟩
  have ov4 : Over A4 B4 := hB4 ▸ ((Over.refl A4).alloc _).upd (Nat.le_refl _) _
  have gB4 : B4.get A4.next = some (.cells tc 31 (some 0)) := by rw [hB4]; exact get_upd_same ..
  have e34 : Over B3 B4 := o4.trans ov4
  have e24 : Over B2 B4 := (o3.trans ov3).trans e34
  have e14 : Over B1 B4 := (o2.trans ov2).trans e24
  have n2 := o2.next
  have n3 := o3.next
  have n4 := o4.next
  have g1 : B4.get A1.next = some (.cells cs 45 (some 0)) := (e14.get _ (by omega)).trans gB1
  have g2 : B4.get A2.next = some (.cells ds 53 (some 0)) := (e24.get _ (by omega)).trans gB2
  have g3 : B4.get A3.next = some (.cells rc 31 (some 0)) := (e34.get _ (by omega)).trans gB3
  have m1 : MsgC B4 (decP (nums s)).1 cs := hc1.ge (ov1.trans e14).ge
  have m2 : MsgC B4 (decP (nums s)).1 ds := hd2.ge (ov2.trans e24).ge
  have m3 : ReqC B4 (reqP (nums s)).1 rc := hrc.ge (ov3.trans e34).ge
  have m4 : ReqC B4 (reqP (nums s)).1 tc := htc.ge ov4.ge
  have ld1 := ldN (n := 49) (e := 45) (m := some 0) hcl
  have ld2 := ldN (n := 49) (e := 53) (m := some 0) hdl
  have ld3 := ldN (n := 8) (e := 31) (m := some 0) hrl
  have ld4 := ldN (n := 8) (e := 31) (m := some 0) htl
  have ovA : Over A B4 := (o1.trans ov1).trans e14
  have k3 : A4.get A3.next = some (.cells rc 31 (some 0)) := (o4.get _ (by omega)).trans gB3
  have k2 : A4.get A2.next = some (.cells ds 53 (some 0)) := (((o3.trans ov3).trans o4).get _ (by omega)).trans gB2
  have k1 : A4.get A1.next = some (.cells cs 45 (some 0)) := (((o2.trans ov2).trans ((o3.trans ov3).trans o4)).get _ (by omega)).trans gB1
  simp (maxSteps := 1000000) (disch := (first | omega | (simp only [nx_alloc, nx_upd, len_cons, len_nil, List.length_set, List.length_map, List.length_append] <;> omega) | fail)) only [go_sem, hst4, k1, k2, k3, ld1, ld2]
  rw [← hB4]
  refine call1 (rsame_ok w0 B4 _ _ _ _ m1 m2 hsm hsm) ?_
  rw [sameM_self]
  simp (maxSteps := 1000000) (disch := (first | omega | (simp only [nx_alloc, nx_upd, len_cons, len_nil, List.length_set, List.length_map, List.length_append] <;> omega) | fail)) only [go_sem, g3, gB4, ld3, ld4]
  refine call1 (samerq_ok w0 B4 _ _ _ _ m3 m4 hsq hsq) ?_
  rw [sameQ_self]
  rcases hd : decP (nums s) with ⟨m, e⟩
  rw [hd] at hsm m1
  by_cases he : e = 0
  rotate_left
  · simp (maxSteps := 1000000) (disch := (first | omega | (simp only [nx_alloc, nx_upd, len_cons, len_nil, List.length_set, List.length_map, List.length_append] <;> omega) | fail)) only [go_sem, beqSelf, he, Try.results5]
    exact gc_fin hw ovA (.bool _)
  subst he
  obtain ⟨hmay, hok, _, hinv⟩ := decP_inv hr hd
  have hs' : s = strOfNums (encM m) := by rw [← hinv, str_nums]
  simp (maxSteps := 1000000) (disch := (first | omega | (simp only [nx_alloc, nx_upd, len_cons, len_nil, List.length_set, List.length_map, List.length_append] <;> omega) | fail)) only [go_sem, beqSelf, g1, ld1]
  refine call1 (wenc_ok w0 B4 m _ m1 hsm hok) ?_
  have hb : encB m = (strOfNums (encM m), 0) := if_pos hmay
  rw [hb, ← hs']
  unfold strIntV
  simp (maxSteps := 1000000) (disch := (first | omega | (simp only [nx_alloc, nx_upd, len_cons, len_nil, List.length_set, List.length_map, List.length_append] <;> omega) | fail)) only [go_sem, beqSelf, Try.results5]
  exact gc_fin hw ovA (.bool _)
end Go.Fw
