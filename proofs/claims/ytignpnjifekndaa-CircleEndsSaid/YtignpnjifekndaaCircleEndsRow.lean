/-
  THE ROW OF CircleEnds, PROVED: whatever the input the law returns true, and each argument reads behind the call as it read before.
  The walk (what the code reckons) is in the texts imported; here the law stands against the row.
-/
import Derived.Test.YtignpnjifekndaaCircleEnds
import Derived.Test.YtignpnjifekndaaRows
import Derived.ProofKit
import Derived.Below
namespace Go.Proofs.Ytignpnjifekndaa
open Go.Gh
set_option linter.unusedVariables false

theorem circleEnds_run : ∀ gs, RdAs [.st [.int .u32, .int .u32]] gs → ∃ M, FS Try.prog 3 gs [] (.lit (.bool true)) M := by
  intro gs hR
  obtain ⟨g, gs', rfl, hg, h⟩ := hR
  obtain rfl : gs' = [] := h
  obtain ⟨gs, rfl, hg⟩ := hg
  simp only [RdL, Rd] at hg
  obtain ⟨g1, gs1, rfl, ⟨a, rfl, ha⟩, g2, gs2, rfl, ⟨b, rfl, hb⟩, rfl⟩ := hg
  exact ⟨_, CircleEnds_fs (a := a) (b := b) ⟨ha.1, Int.lt_add_one_of_le ha.2⟩ ⟨hb.1, Int.lt_add_one_of_le hb.2⟩⟩

theorem circleEnds_own : ownKnob Try.prog.godebug = none := by kernel_rfl

set_option maxRecDepth 100000 in
theorem circleEnds_lifted (os : Os) (started : os.Started) (H : Type) (enc : TypeId × Value → H) :
    ReturnsInHanded {} Try.checked os 3 .any (Rows.circleEndsSpec.pre6 enc Try.prog Try.f3 Rows.circleEndsRow.domain false) (Rows.circleEndsSpec.post enc Try.prog Try.f3 false true false false) :=
  lift (C := Try.checked) started circleEnds_own (by kernel_rfl) Try.func3
    (ChangeSpec.witness6 (enc := enc) (C := Try.checked) false ⟨#[], #[.agg #[.int .u32 0, .int .u32 0]], []⟩ 8 (by kernel_rfl) (by kernel_rfl) (by kernel_rfl) (by kernel_rfl))
    (acs := [.st [.int .u32, .int .u32]]) (by kernel_rfl) (by kernel_rfl) (by kernel_rfl) rfl (fun ds h => by
      match ds, h with
      | [d0], _ => rfl) (tb := 4) rfl Try.underlying4 circleEnds_run

theorem circleEnds_holds : Rows.CircleEndsSaid :=
  OpenClaim.holds_of_wide 3 Try.f3 rfl rfl rfl rfl rfl rfl rfl ⟨rfl, rfl, rfl, rfl, rfl⟩ rfl rfl rfl rfl rfl (by kernel_rfl) Try.func3 (by kernel_rfl)
    (of_decide_eq_true (by kernel_rfl)) (by unfold Func.isWrapper; first | (rw [if_pos (by decide +kernel)]; kernel_rfl) | (rw [if_neg (by decide +kernel)]; exact ⟨rfl, rfl⟩))
    (fun os started H enc _ => circleEnds_lifted os started H enc)
#print axioms circleEnds_holds
end Go.Proofs.Ytignpnjifekndaa
