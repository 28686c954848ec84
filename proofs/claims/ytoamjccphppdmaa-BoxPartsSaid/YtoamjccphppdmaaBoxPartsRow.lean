/-
  THE ROW OF BoxParts, PROVED: whatever the input the law returns true, and each argument reads behind the call as it read before.
  The walk (what the code reckons) is in the texts imported; here the law stands against the row.
-/
import Derived.Test.YtoamjccphppdmaaBoxParts
import Derived.Test.YtoamjccphppdmaaRows
import Derived.ProofKit
import Derived.Below
namespace Go.Proofs.Ytoamjccphppdmaa
open Go.Gh
set_option linter.unusedVariables false

theorem boxParts_run : ∀ gs, RdAs [.lf (.int .u32), .lf (.int .u32), .lf (.int .u32), .lf (.int .u32)] gs → ∃ M, FS Try.prog 5 gs [] (.lit (.bool true)) M := by
  intro gs hR
  simp only [RdAs, RdA, Rd] at hR
  obtain ⟨g1, gs1, rfl, ⟨a1, rfl, ha1⟩, g2, gs2, rfl, ⟨a2, rfl, ha2⟩, g3, gs3, rfl, ⟨a3, rfl, ha3⟩, g4, gs4, rfl, ⟨a4, rfl, ha4⟩, rfl⟩ := hR
  have r : ∀ {n : Int}, IntKind.u32.min ≤ n ∧ n ≤ IntKind.u32.max → u32r n := fun h => by
    have e1 : IntKind.u32.min = 0 := by decide
    have e2 : IntKind.u32.max = 4294967295 := by decide
    unfold u32r; omega
  exact ⟨_, BoxParts_fs (r ha1) (r ha2) (r ha3) (r ha4)⟩

theorem boxParts_own : ownKnob Try.prog.godebug = none := by kernel_rfl

set_option maxRecDepth 100000 in
theorem boxParts_lifted (os : Os) (started : os.Started) (H : Type) (enc : TypeId × Value → H) :
    ReturnsInHanded {} Try.checked os 5 .any (Rows.boxPartsSpec.pre6 enc Try.prog Try.f5 Rows.boxPartsRow.domain false) (Rows.boxPartsSpec.post enc Try.prog Try.f5 false true false false) :=
  lift (C := Try.checked) started boxParts_own (by kernel_rfl) Try.func5
    (ChangeSpec.witness6 (enc := enc) (C := Try.checked) false ⟨#[], #[.int .u32 0, .int .u32 0, .int .u32 0, .int .u32 0], []⟩ 8 (by kernel_rfl) (by kernel_rfl) (by kernel_rfl) (by kernel_rfl))
    (acs := [.lf (.int .u32), .lf (.int .u32), .lf (.int .u32), .lf (.int .u32)]) (by kernel_rfl) (by kernel_rfl) (by kernel_rfl) rfl (fun ds h => by
      match ds, h with
      | [d0, d1, d2, d3], _ => rfl) (tb := 4) rfl Try.underlying4 boxParts_run

theorem boxParts_holds : Rows.BoxPartsSaid :=
  OpenClaim.holds_of_wide 5 Try.f5 rfl rfl rfl rfl rfl rfl rfl ⟨rfl, rfl, rfl, rfl, rfl⟩ rfl rfl rfl rfl rfl (by kernel_rfl) Try.func5 (by kernel_rfl)
    (of_decide_eq_true (by kernel_rfl)) (by unfold Func.isWrapper; first | (rw [if_pos (by decide +kernel)]; kernel_rfl) | (rw [if_neg (by decide +kernel)]; exact ⟨rfl, rfl⟩))
    (fun os started H enc _ => boxParts_lifted os started H enc)
#print axioms boxParts_holds
end Go.Proofs.Ytoamjccphppdmaa
