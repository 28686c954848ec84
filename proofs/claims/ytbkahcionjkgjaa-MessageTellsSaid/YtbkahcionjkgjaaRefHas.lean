import Derived.Test.YtbkahcionjkgjaaCircle

namespace Go.Gh
open Go.Proofs
set_option linter.unusedVariables false
set_option linter.unusedSimpArgs false

/-! Layer 1: the document's answer, of single values. -/



def stp (a v : Int) : Int := if v = a then 4294967296 else far a v
theorem hasv_stp {a b v : Int} (h1 : u32r a) (h2 : u32r b) (h3 : u32r v) : decide (stp a v ≤ size a b) = hasv a b v := by
  unfold u32r at *
  unfold hasv stp size far
  rw [decide_eq_decide]
  split <;> split <;> omega



end Go.Gh

