import Derived.Test.YtbkahcionjkgjaaShort

namespace Go.Gh
open Go.Proofs
set_option linter.unusedVariables false
set_option linter.unusedSimpArgs false

/-! Layer 1: what its functions compute. -/

def far (a b : Int) : Int := (b - a) % 4294967296
def size (a b : Int) : Int := if a = b then 4294967296 else far a b
def hasv (a b v : Int) : Bool := decide (far ((a + 1) % 4294967296) v < size a b)
def spn (a b : Int) : GV := .agg [.lit (.int .u32 a), .lit (.int .u32 b)]

def u32r (a : Int) : Prop := 0 ≤ a ∧ a < 4294967296


theorem far_range (a b : Int) : 0 ≤ far a b ∧ far a b < 4294967296 := by unfold far; omega



theorem size_rng (a b : Int) : 0 ≤ size a b ∧ size a b ≤ 4294967296 := by
  have := far_range a b
  unfold size; split <;> omega

theorem size_pos {a b : Int} (h1 : u32r a) (h2 : u32r b) : 1 ≤ size a b := by
  unfold u32r at *; unfold size far; split <;> omega



end Go.Gh

