import Derived.Test.YtdfffblpnfkolaaSampleWalksA
import Derived.Test.YtdfffblpnfkolaaSampleWalksB

namespace Go.Gh
open Go.Proofs
set_option linter.unusedVariables false
set_option linter.unusedSimpArgs false

/-! Layer 16: SampleWalks. -/
theorem SampleWalks_fs {l : List Int} {ks : List (List Int × List (List GV))} {a st sd : Int} {b1 b2 : Bool} {e1 e2 : List (List GV)} (hu : ∀ x, x ∈ l → 0 ≤ x ∧ x < 4294967296) :
    FS Try.prog 4 [.sl b1 1 (l.map uuG) e1, .sl b2 1 (ks.map lnG) e2, .lit (.int .u32 a), .lit (.int .i64 st), .lit (.int .u64 sd)] [] (.lit (.bool true)) [] := by
  by_cases c : st > 60
  · exact SampleWalksA_fs hu c
  · exact SampleWalksB_fs hu c
end Go.Gh

