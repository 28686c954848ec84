import Derived.Test.YtlchnpmfgblegaaCircle2

namespace Go.Gh
open Go.Proofs
set_option linter.unusedVariables false
set_option linter.unusedSimpArgs false

/-! Layer 1: others, spans; what both share. -/

def othersGo (at_ : Int) : List (Int × Int) → List (Int × Int)
  | [] => []
  | r :: l => (if r.1 > at_ then [(at_, r.1)] else []) ++ othersGo r.2 l
def others (l : List (Int × Int)) (sz : Int) : List (Int × Int) := othersGo 0 (l ++ [(sz, sz)])

theorem othersGo_len : ∀ (l : List (Int × Int)) (a : Int), (othersGo a l).length ≤ l.length
  | [], a => Nat.le_refl _
  | r :: l, a => by
    have := othersGo_len l r.2
    rw [othersGo, List.length_append, List.length_cons]
    split <;> simp <;> omega

end Go.Gh

