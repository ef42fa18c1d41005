import Derived.Test.YtphfkbagjpcmpaaFwHeader3
namespace Go.Fw
/-- What may be of a version's id and hashes. -/
def VerT.ok (V : VerT) : Prop := 0 ≤ V.id ∧ V.id < 4294967296 ∧ ∀ h ∈ V.blocks, ∀ x ∈ h.1, Byte x
theorem set_all (cs vs : List Value) (h : vs.length = cs.length) : setList cs 0 vs = vs := by
  have := setList_at0 vs [] cs [] h
  simpa using this
end Go.Fw
