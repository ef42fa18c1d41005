import Derived.Test.YtfmbflmknjlefaaFwWire13
set_option linter.unusedSimpArgs false
set_option linter.unusedVariables false
set_option maxRecDepth 4000
namespace Go.Fw
open Go.Proofs Go.RowKit
theorem Try.enters9 : Enters Try.prog 9 := enters_of Try.func9 rfl (by kernel_rfl)
def msgS : MsgT := ⟨3, 1, 2, 4, 0, 0, 0, [], 0, 0, ⟨0, [], verN⟩, zeroH, ByteArray.empty⟩
def msgSL : List Value := .int .i64 3 :: .int .i64 1 :: .int .i64 2 :: .int .u32 4 :: .int .u32 0 :: .int .i64 0 :: .int .i64 0 :: .slice none 0 0 :: .int .i64 0 :: .int .u32 0 :: .int .i64 0 :: .slice none 0 0 :: .int .u32 0 :: .slice none 0 0 :: .slice none 0 0 :: .slice none 0 0 :: (hsC zeroH ++ [.string ByteArray.empty])
theorem msgS_c (A : St) : MsgC A msgS msgSL := ⟨_, _, _, _, _, rfl, RqV.nil A, View.nil .., View.nil .., View.nil .., View.nil ..⟩
theorem msgS_may : mayM msgS = true := by kernel_rfl
theorem msgS_dec : (decP (encM msgS)).2 = 0 ∧ (decP (encM msgS)).1.view = 4 ∧ (decP (encM msgS)).1.kind = 3 := ⟨by kernel_rfl, by kernel_rfl, by kernel_rfl⟩
theorem msgS_len : (encM msgS).length = 61 := by kernel_rfl
theorem msgS_byte : ∀ x ∈ encM msgS, Byte x := by
  have : (encM msgS).all (fun x => decide (0 ≤ x ∧ x < 256)) = true := by kernel_rfl
  intro x hx
  have := List.all_eq_true.1 this x hx
  simp only [decide_eq_true_eq] at this
  exact ⟨by omega, by omega⟩
theorem MsgC.cell {A : St} {m : MsgT} {cs : List Value} (h : MsgC A m cs) : cs.all cell1 = true := by
  obtain ⟨lg, w, p, q, u, rfl, h1, h2, h3, h4, h5⟩ := h
  obtain ⟨_, _, rfl⟩ := NV.sl h1
  obtain ⟨_, _, rfl⟩ := View.sl h2
  obtain ⟨_, _, rfl⟩ := View.sl h3
  obtain ⟨_, _, rfl⟩ := View.sl h4
  obtain ⟨_, _, rfl⟩ := View.sl h5
  simp only [List.all_cons, List.all_append, hsC_cell m.hash]; rfl
theorem msgS_build : abuild Try.prog 45 #[(0, .int .i64 3), (1, .int .i64 1), (2, .int .i64 2), (3, .int .u32 4)] = some (.agg msgSL.toArray) := by kernel_rfl
set_option maxHeartbeats 4000000 in
theorem shown18_ok (w0 : World) (A : St) : ACalls Try.prog w0 9 #[] A (fin (.bool true) A) := by
  refine call_E (l := []) Try.enters9 Try.func9 rfl (Nat.le_of_ble_eq_true rfl) fun hw hbd => ?_
  have hb := msgS_build
  have hm := msgS_c A
  have henc : ∀ l, MsgC A msgS l → ACalls Try.prog w0 14 #[.agg l.toArray] A (fin (strIntV (encB msgS)) A) := fun l hl => wenc_ok w0 A msgS l hl ⟨fun r h => (by cases h), verN_small, by decide, by decide, by decide⟩
    ⟨⟨by decide, by decide⟩, ⟨by decide, by decide⟩, ⟨by decide, by decide⟩, ⟨by decide, by decide⟩, ⟨by decide, by decide⟩, ⟨by decide, by decide⟩, ⟨by decide, by decide⟩, fun r h => (by cases h), ⟨by decide, by decide⟩, fun r h => (by cases h), ⟨by decide, by decide, fun h hh => (by cases hh)⟩, fun x hx => by
      have : x = 0 := List.eq_of_mem_replicate hx
      subst this; exact ⟨by decide, by decide⟩⟩
  have he : encB msgS = (strOfNums (encM msgS), 0) := if_pos msgS_may
  rw [he] at henc
  generalize msgSL = L at *
  simp (maxSteps := 1000000) (disch := (first | omega | (simp only [nx_alloc, nx_upd, len_cons, len_nil, List.length_set, List.length_map, List.length_append] <;> omega) | fail)) only [go_sem, Try.ntmps9, Try.results9, hb]
  refine call1 (henc L hm) ?_
  unfold strIntV
  simp (maxSteps := 1000000) (disch := (first | omega | (simp only [nx_alloc, nx_upd, len_cons, len_nil, List.length_set, List.length_map, List.length_append] <;> omega) | fail)) only [go_sem]
  refine (wdec_ok w0 A (strOfNums (encM msgS)) (by rw [str_size, msgS_len]; decide)).mono ?_
  rintro e A2 ⟨cs, rfl, o2, hmc⟩
  rw [nums_str msgS_byte] at hmc ⊢
  obtain ⟨d1, d2, d3⟩ := msgS_dec
  rw [d1]
  generalize (decP (encM msgS)).1 = m at *
  have hml := hmc.len
  have hst := fun (X : St) (b : Nat) (z : List Value) (hz : z.length = 49) => stN (n := 49) (X := X) (b := b) (z := z) (e := 45) hz hml hmc.cell
  obtain ⟨lg, w, p, q, u, rfl, _⟩ := hmc
  rw [d2, d3] at *
  simp (maxSteps := 1000000) (disch := (first | omega | (simp only [nx_alloc, nx_upd, len_cons, len_nil, List.length_set, List.length_map, List.length_append] <;> omega) | fail)) only [go_sem, hst, Try.results9]
  exact gc_fin hw ((o2.alloc _).upd o2.next _) (.bool _)
end Go.Fw
