import Derived.Test.YtfmbflmknjlefaaFwWire25
set_option linter.unusedSimpArgs false
set_option linter.unusedVariables false
set_option maxRecDepth 4000
namespace Go.Fw
open Go.Proofs Go.RowKit
/-- What stays, while a message is read. -/
structure DK (A : St) (mc : List Value) (s : RS) (A' : St) : Prop where
  ov : Over A A'
  n : A.next + 3 ≤ A'.next
  res : A'.get A.next = some (.cells msgZ 53 (some 0))
  rd : A'.get (A.next + 1) = some (rsB s)
  ms : A'.get (A.next + 2) = some (.cells mc 53 (some 0))
theorem DK.rdr {A A' : St} {mc : List Value} {s : RS} (h : DK A mc s A') (s' : RS) : DK A mc s' (A'.upd (A.next + 1) (some (rsB s'))) :=
  ⟨h.ov.upd (by omega) _, h.n, by rw [get_upd_old (by omega)]; exact h.res, get_upd_same .., by rw [get_upd_old (by omega)]; exact h.ms⟩
theorem DK.set {A A' : St} {mc : List Value} {s : RS} (h : DK A mc s A') (mc' : List Value) : DK A mc' s (A'.upd (A.next + 2) (some (.cells mc' 53 (some 0)))) :=
  ⟨h.ov.upd (by omega) _, h.n, by rw [get_upd_old (by omega)]; exact h.res, by rw [get_upd_old (by omega)]; exact h.rd, get_upd_same ..⟩
theorem DK.step {A A' : St} {mc : List Value} {s : RS} (h : DK A mc s A') (mc' : List Value) (s' : RS) : DK A mc' s' ((A'.upd (A.next + 1) (some (rsB s'))).upd (A.next + 2) (some (.cells mc' 53 (some 0)))) := (h.rdr s').set mc'
theorem DK.ext {A A' A2 : St} {mc : List Value} {s : RS} (h : DK A mc s A') (o : Over A' A2) : DK A mc s A2 := by
  have hn := h.n
  exact ⟨h.ov.trans o, Nat.le_trans hn o.next, (o.get _ (by omega)).trans h.res, (o.get _ (by omega)).trans h.rd, (o.get _ (by omega)).trans h.ms⟩
theorem DK.kp {A A' A2 : St} {mc : List Value} {s : RS} (h : DK A mc s A') (hn : A'.next ≤ A2.next) (hk : ∀ b, b < A.next + 3 → A2.get b = A'.get b) : DK A mc s A2 := by
  have hn' := h.n
  exact ⟨⟨Nat.le_trans h.ov.next hn, fun b hb => (hk b (by omega)).trans (h.ov.get b hb)⟩, Nat.le_trans hn' hn, (hk _ (by omega)).trans h.res, (hk _ (by omega)).trans h.rd, (hk _ (by omega)).trans h.ms⟩
end Go.Fw
