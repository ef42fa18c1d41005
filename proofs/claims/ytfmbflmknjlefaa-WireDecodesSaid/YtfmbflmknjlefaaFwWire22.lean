import Derived.Test.YtfmbflmknjlefaaFwWire19
set_option linter.unusedSimpArgs false
set_option linter.unusedVariables false
set_option maxRecDepth 4000
namespace Go.Fw
open Go.Proofs Go.RowKit
/-- A message's bytes in their parts. -/
theorem encM_parts {m : MsgT} (hmay : mayM m = true) (t : List Int) : encM m ++ t = [m.kind, m.src, m.dst] ++ (bigL m.view.toNat 4 ++ (bigL m.last.toNat 4 ++ ([m.n] ++ ([m.commit] ++ (([(m.log.length : Int)] ++ logL m.log) ++ ([m.client] ++ (bigL m.seq.toNat 4 ++ (bigL m.reply.e.toNat 2 ++ (([(m.reply.ids.length : Int)] ++ idsL m.reply.ids) ++ (encV m.reply.v ++ (m.hash.1 ++ ((enc (nums m.block).length ++ nums m.block) ++ t)))))))))))) := by
  obtain ⟨⟨f1, f2⟩, ⟨f3, f4⟩, ⟨f5, f6⟩, ⟨f7, f8⟩, ⟨f9, f10⟩, f11, f12, ⟨f13, f14⟩, ⟨f15, f16⟩, f17, f18, f19⟩ := mayM_facts hmay
  have b1 := bigL_one (show 0 ≤ m.kind by omega) (show m.kind < 256 by omega)
  have b2 := bigL_one (show 0 ≤ m.src by omega) (show m.src < 256 by omega)
  have b3 := bigL_one (show 0 ≤ m.dst by omega) (show m.dst < 256 by omega)
  have b4 := bigL_one (show 0 ≤ m.n by omega) (show m.n < 256 by omega)
  have b5 := bigL_one (show 0 ≤ m.commit by omega) (show m.commit < 256 by omega)
  have b6 := bigL_one (show 0 ≤ (m.log.length : Int) by omega) (show (m.log.length : Int) < 256 by omega)
  have b7 := bigL_one (show 0 ≤ m.client by omega) (show m.client < 256 by omega)
  have b8 := bigL_one (show 0 ≤ (m.reply.ids.length : Int) by omega) (show (m.reply.ids.length : Int) < 256 by omega)
  unfold encM enc5 enc4 enc3 enc2 enc1 onesL
  simp only [List.flatMap_cons, List.flatMap_nil, b1, b2, b3, b4, b5, b6, b7, b8, nums_length, List.append_assoc, List.append_nil, List.cons_append, List.nil_append]
end Go.Fw
