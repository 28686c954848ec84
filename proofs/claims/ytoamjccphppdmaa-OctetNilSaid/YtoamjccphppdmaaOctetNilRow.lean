/-
  THE ROW OF OctetNil, PROVED: whatever the input the law returns true, and each argument reads behind the call as it read before.
  The walk (what the code reckons) is in the texts imported; here the law stands against the row.
-/
import Derived.Test.YtoamjccphppdmaaOctetNil
import Derived.Test.YtoamjccphppdmaaRows
import Derived.ProofKit
import Derived.Below
namespace Go.Proofs.Ytoamjccphppdmaa
open Go.Gh
set_option linter.unusedVariables false

theorem octetNil_run : ∀ gs, RdAs [.lf (.int .u64), .lf (.int .i64)] gs → ∃ M, FS Try.prog 10 gs [] (.lit (.bool true)) M := by
  intro gs hR
  simp only [RdAs, RdA, Rd] at hR
  obtain ⟨g1, gs1, rfl, ⟨v, rfl, _⟩, g2, gs2, rfl, ⟨n, rfl, _⟩, rfl⟩ := hR
  exact ⟨_, OctetNil_fs v n⟩

theorem octetNil_own : ownKnob Try.prog.godebug = none := by kernel_rfl

set_option maxRecDepth 100000 in
theorem octetNil_lifted (os : Os) (started : os.Started) (H : Type) (enc : TypeId × Value → H) :
    ReturnsInHanded {} Try.checked os 10 .any (Rows.octetNilSpec.pre6 enc Try.prog Try.f10 Rows.octetNilRow.domain false) (Rows.octetNilSpec.post enc Try.prog Try.f10 false true false false) :=
  lift (C := Try.checked) started octetNil_own (by kernel_rfl) Try.func10
    (ChangeSpec.witness6 (enc := enc) (C := Try.checked) false ⟨#[], #[.int .u64 0, .int .i64 0], []⟩ 8 (by kernel_rfl) (by kernel_rfl) (by kernel_rfl) (by kernel_rfl))
    (acs := [.lf (.int .u64), .lf (.int .i64)]) (by kernel_rfl) (by kernel_rfl) (by kernel_rfl) rfl (fun ds h => by
      match ds, h with
      | [d0, d1], _ => rfl) (tb := 4) rfl Try.underlying4 octetNil_run

theorem octetNil_holds : Rows.OctetNilSaid :=
  OpenClaim.holds_of_wide 10 Try.f10 rfl rfl rfl rfl rfl rfl rfl ⟨rfl, rfl, rfl, rfl, rfl⟩ rfl rfl rfl rfl rfl (by kernel_rfl) Try.func10 (by kernel_rfl)
    (of_decide_eq_true (by kernel_rfl)) (by unfold Func.isWrapper; first | (rw [if_pos (by decide +kernel)]; kernel_rfl) | (rw [if_neg (by decide +kernel)]; exact ⟨rfl, rfl⟩))
    (fun os started H enc _ => octetNil_lifted os started H enc)
#print axioms octetNil_holds
end Go.Proofs.Ytoamjccphppdmaa
