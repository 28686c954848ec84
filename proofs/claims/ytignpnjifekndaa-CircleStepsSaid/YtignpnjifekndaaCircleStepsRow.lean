/-
  THE ROW OF CircleSteps, PROVED: whatever the input the law returns true, and each argument reads behind the call as it read before.
  The walk (what the code reckons) is in the texts imported; here the law stands against the row.
-/
import Derived.Test.YtignpnjifekndaaCircleSteps
import Derived.Test.YtignpnjifekndaaRows
import Derived.ProofKit
import Derived.Below
namespace Go.Proofs.Ytignpnjifekndaa
open Go.Gh
set_option linter.unusedVariables false

theorem circleSteps_run : ∀ gs, RdAs [.lf (.int .u32), .lf (.int .u32), .lf (.int .u32)] gs → ∃ M, FS Try.prog 4 gs [] (.lit (.bool true)) M := by
  intro gs hR
  simp only [RdAs, RdA, Rd] at hR
  obtain ⟨g1, gs1, rfl, ⟨a, rfl, ha⟩, g2, gs2, rfl, ⟨b, rfl, hb⟩, g3, gs3, rfl, ⟨c, rfl, hc⟩, rfl⟩ := hR
  exact ⟨_, CircleSteps_fs (a := a) (b := b) (c := c) ⟨ha.1, Int.lt_add_one_of_le ha.2⟩ ⟨hb.1, Int.lt_add_one_of_le hb.2⟩ ⟨hc.1, Int.lt_add_one_of_le hc.2⟩⟩

theorem circleSteps_own : ownKnob Try.prog.godebug = none := by kernel_rfl

set_option maxRecDepth 100000 in
theorem circleSteps_lifted (os : Os) (started : os.Started) (H : Type) (enc : TypeId × Value → H) :
    ReturnsInHanded {} Try.checked os 4 .any (Rows.circleStepsSpec.pre6 enc Try.prog Try.f4 Rows.circleStepsRow.domain false) (Rows.circleStepsSpec.post enc Try.prog Try.f4 false true false false) :=
  lift (C := Try.checked) started circleSteps_own (by kernel_rfl) Try.func4
    (ChangeSpec.witness6 (enc := enc) (C := Try.checked) false ⟨#[], #[.int .u32 0, .int .u32 0, .int .u32 0], []⟩ 8 (by kernel_rfl) (by kernel_rfl) (by kernel_rfl) (by kernel_rfl))
    (acs := [.lf (.int .u32), .lf (.int .u32), .lf (.int .u32)]) (by kernel_rfl) (by kernel_rfl) (by kernel_rfl) rfl (fun ds h => by
      match ds, h with
      | [d0, d1, d2], _ => rfl) (tb := 4) rfl Try.underlying4 circleSteps_run

theorem circleSteps_holds : Rows.CircleStepsSaid :=
  OpenClaim.holds_of_wide 4 Try.f4 rfl rfl rfl rfl rfl rfl rfl ⟨rfl, rfl, rfl, rfl, rfl⟩ rfl rfl rfl rfl rfl (by kernel_rfl) Try.func4 (by kernel_rfl)
    (of_decide_eq_true (by kernel_rfl)) (by unfold Func.isWrapper; first | (rw [if_pos (by decide +kernel)]; kernel_rfl) | (rw [if_neg (by decide +kernel)]; exact ⟨rfl, rfl⟩))
    (fun os started H enc _ => circleSteps_lifted os started H enc)
#print axioms circleSteps_holds
end Go.Proofs.Ytignpnjifekndaa
