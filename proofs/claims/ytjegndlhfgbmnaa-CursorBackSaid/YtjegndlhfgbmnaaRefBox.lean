import Derived.Test.YtjegndlhfgbmnaaBox

namespace Go.Gh
open Go.Proofs
set_option linter.unusedVariables false
set_option linter.unusedSimpArgs false

/-! Layer 5: the document's answer. -/



end Go.Gh

