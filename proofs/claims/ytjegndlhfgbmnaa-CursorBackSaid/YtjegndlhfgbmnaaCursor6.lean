import Derived.Test.YtjegndlhfgbmnaaCursor5

namespace Go.Gh
open Go.Proofs
set_option linter.unusedVariables false
set_option linter.unusedSimpArgs false

/-! Layer 19: what is packed is taken; what a program that does nothing does not answer. -/
theorem aft_curv (l : List (Int × Int × Int)) (c : Int) {a : Int} (ha : 0 ≤ a ∧ a < 18446744073709551616) : aft (curv l c a) = a := by
  have e : ((curv l c a).drop 8).take 8 = be a 8 := by
    unfold curv curh
    rw [List.append_assoc, List.drop_left' (be_len _ 8), List.take_left' (be_len _ 8)]
  unfold aft
  rw [e, getv_be ha.1 (by decide)]
  show a % 18446744073709551616 = a
  omega
theorem takok_curv (l : List (Int × Int × Int)) (c : Int) {a : Int} (ha : 0 ≤ a ∧ a < 18446744073709551616) : takok l c (curv l c a) = true := by
  unfold takok
  rw [aft_curv l c ha, decide_eq_true (curv_len l c a), decide_eq_true rfl]; rfl
/-- Another box, another client: it's taken just if the marks are alike. -/
theorem takok_other (l r : List (Int × Int × Int)) (c d : Int) {a : Int} (ha : 0 ≤ a ∧ a < 18446744073709551616) : takok r d (curv l c a) = decide (markv l c = markv r d) := by
  unfold takok
  rw [aft_curv l c ha, decide_eq_true (curv_len l c a), Bool.true_and, decide_eq_decide]
  constructor
  · intro h
    unfold curv curh at h
    simp only [List.append_assoc] at h
    obtain ⟨h1, _⟩ := List.append_inj h (by rw [be_len, be_len])
    have := congrArg getv h1
    have m1 := markv_rng l c
    have m2 := markv_rng r d
    rw [getv_be m1.1 (by decide), getv_be m2.1 (by decide)] at this
    have e : (2 : Int) ^ (8 * 8) = 18446744073709551616 := by decide
    rw [e] at this
    omega
  · intro h
    unfold curv; rw [h]
end Go.Gh

