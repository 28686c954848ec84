import Derived.Test.YtbkahcionjkgjaaOctet4

namespace Go.Gh
open Go.Proofs
set_option linter.unusedVariables false
set_option linter.unusedSimpArgs false

/-! Layer 3: all contracts, for the laws; what a program that does nothing does not answer. -/







end Go.Gh

