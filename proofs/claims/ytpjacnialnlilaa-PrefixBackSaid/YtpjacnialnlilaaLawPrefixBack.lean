/- Proved: the law PrefixBack returns true for every input, and its arguments read behind the call as they read before. Conditions: those of the given statement. -/
import Derived.Test.YtpjacnialnlilaaRows
import Derived.Test.YtpjacnialnlilaaFwG
import Derived.WalkKit
import Derived.ProofKit
import Derived.OpenShut
import Derived.ShutString
import Derived.ChangeOld
import Derived.Below
import Derived.Carry
import Derived.SizedLaws
namespace Go.Proofs.Ytpjacnialnlilaa.prefixBack
open Go.ChangeShapes Go.WideShapes Go.ChangeAt Go.RowKit
open Go.ChangeMaps (open_string shut_string)
set_option linter.unusedVariables false
theorem own : ownKnob Try.prog.godebug = none := by kernel_rfl
theorem laidOut : laidOutB Try.prog = true := by kernel_rfl
set_option maxRecDepth 100000 in
theorem lifted (os : Os) (started : os.Started) (H : Type) (enc : TypeId × Value → H) :
    ReturnsInHanded {} Try.checked os 9 .any (Rows.prefixBackSpec.pre6 enc Try.prog Try.f9 Rows.prefixBackRow.domain false) (Rows.prefixBackSpec.post enc Try.prog Try.f9 false true false false) := by
  refine returnsInHanded_of_change_sized (C := Try.checked) own started (by kernel_rfl) Try.func9
    (ChangeSpec.witness6 (enc := enc) (C := Try.checked) false ⟨#[], #[.slice none 0 0, .slice none 0 0], []⟩ 8 (by kernel_rfl) (by kernel_rfl) (by kernel_rfl) (by kernel_rfl)) ?_
  intro W base args ds gs before hval0 hW hcnd hsz0 _
  have hsz : (DataW.weightsEach Try.prog (Try.f9.params.toList ++ Rows.prefixBackSpec.plain.varTypes Try.prog) (ds ++ gs)).all (· ≤ reachBytes) = true := hsz0
  have hval : ∀ (j : Nat) t v, Try.f9.params[j]? = some t → args[j]? = some v → Value.okWide Try.prog W .any base t v := hval0
  have hW' := hW
  obtain ⟨p, q, hA0, hV, rfl, hfz, hnd⟩ := hW
  have hA : DataW.TrodAll enc Try.prog W 0 (fun _ => true) true Try.f9.params.toList args.toList ds p := hA0
  rw [Try.params9] at hA hval hsz
  obtain ⟨v0, vs0, d0, ds0, p0, q0, hargs, rfl, rfl, h0, r0⟩ := trodAll_cons hA
  obtain ⟨v1, vs1, d1, ds1, p1, q1, rfl, rfl, rfl, h1, r1⟩ := trodAll_cons r0
  obtain ⟨rfl, rfl, rfl⟩ := trodAll_nil r1
  obtain rfl : args = #[v0, v1] := by cases args; simp_all
  obtain ⟨rfl, rfl⟩ := trodVars_none hV
  have s0 := Go.Fw.start_empty W
  obtain ⟨ad0, len0, cap0, rfl⟩ := okWide_slice Try.underlying29 (hval 0 29 v0 rfl rfl)
  have k0 := h0
  have lt0 : ∀ x ∈ p0, x.block < W.heap.size := by obtain ⟨m, hm⟩ := k0; exact DataW.trod_lt m _ _ _ hm
  obtain ⟨fu0, hf0⟩ := h0
  obtain ⟨φ1, A1, u0, l0, s1, x1, o1, rr0, view0, ok0, len_0⟩ := s0.arg (enc := enc) Go.Fw.u16E Go.Fw.u16Ok (by kernel_rfl) (by decide) Try.underlying29 Go.Fw.u16E_len Go.Fw.u16E_pl Go.Fw.u16E_dec hf0
  obtain ⟨ad1, len1, cap1, rfl⟩ := okWide_slice Try.underlying55 (hval 1 55 v1 rfl rfl)
  have k1 := h1
  have lt1 : ∀ x ∈ p1, x.block < W.heap.size := by obtain ⟨m, hm⟩ := k1; exact DataW.trod_lt m _ _ _ hm
  obtain ⟨fu1, hf1⟩ := h1
  obtain ⟨φ2, A2, u1, l1, s2, x2, o2, rr1, view1, ok1, len_1⟩ := s1.arg (enc := enc) Go.Fw.u8E Go.Fw.u8Ok (by kernel_rfl) (by decide) Try.underlying55 Go.Fw.u8E_len Go.Fw.u8E_pl Go.Fw.u8E_dec hf1
  clear hA0 hval0 hsz0 hsz
  refine (Go.Fw.calls_start (args' := #[u0, u1]) s2 (Go.Fw.CRL.cr (l := [u0, u1]) (l' := [.slice ad0 len0 cap0, .slice ad1 len1 cap1]) (Go.Fw.CRL.cons (rr0.mono o2.next x2) (Go.Fw.CRL.cons rr1 Go.Fw.CRL.nil))) ((Go.Fw.back_walk W A2 u0 l0 u1 l1 (view0.over o2) ok0 view1 ok1).mono fun e A' h => h.1)).mono fun e W' ⟨he, bel⟩ => ?_
  subst he
  exact ⟨_, rfl, _, _, _, [], _, [], hW', trodAll_mk1 (shut_bool Try.underlying4 _), (trodAll_cons_mk (Below.trod laidOut (by kernel_rfl) (of_decide_eq_true (by kernel_rfl)) k0 bel lt0) (trodAll_cons_mk (Below.trod laidOut (by kernel_rfl) (of_decide_eq_true (by kernel_rfl)) k1 bel lt1) trodAll_mk0)), rfl, bel.frame _, fun h => by cases h⟩
theorem over : Rows.prefixBackRow.holds Try.pinned (OpenSpec.ofChange Rows.prefixBackSpec) :=
  OpenClaim.holds_of_wide 9 Try.f9 rfl rfl rfl rfl rfl rfl rfl ⟨rfl, rfl, rfl, rfl, rfl⟩ rfl rfl rfl rfl rfl (by kernel_rfl) Try.func9 (by kernel_rfl)
    (of_decide_eq_true (by kernel_rfl)) (by unfold Func.isWrapper; first | (rw [if_pos (by decide +kernel)]; kernel_rfl) | (rw [if_neg (by decide +kernel)]; exact ⟨rfl, rfl⟩))
    (fun os started H enc _ => lifted os started H enc)
theorem proved : Rows.PrefixBackSaid := over
#print axioms proved
end Go.Proofs.Ytpjacnialnlilaa.prefixBack
namespace Go.Proofs.Ytpjacnialnlilaa
/-- The row, under a short name, for the claim. -/
theorem prefixBack_holds : Rows.PrefixBackSaid := prefixBack.proved
end Go.Proofs.Ytpjacnialnlilaa

