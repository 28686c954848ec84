/-
  THE ROW OF OctetOrder, PROVED: whatever the input the law returns true, and each argument reads behind the call as it read before.
  The walk (what the code reckons) is in the texts imported; here the law stands against the row.
-/
import Derived.Test.YtoamjccphppdmaaOctetOrder
import Derived.Test.YtoamjccphppdmaaRows
import Derived.ProofKit
import Derived.Below
namespace Go.Proofs.Ytoamjccphppdmaa
open Go.Gh
set_option linter.unusedVariables false

theorem octetOrder_run : ∀ gs, RdAs [.lf (.int .u64), .lf (.int .u64), .lf (.int .i64)] gs → ∃ M, FS Try.prog 6 gs [] (.lit (.bool true)) M := by
  intro gs hR
  simp only [RdAs, RdA, Rd] at hR
  obtain ⟨g1, gs1, rfl, ⟨a, rfl, ha⟩, g2, gs2, rfl, ⟨b, rfl, hb⟩, g3, gs3, rfl, ⟨n, rfl, _⟩, rfl⟩ := hR
  have r : ∀ {n : Int}, IntKind.u64.min ≤ n ∧ n ≤ IntKind.u64.max → 0 ≤ n ∧ n < 18446744073709551616 := fun h => by
    have e1 : IntKind.u64.min = 0 := by decide
    have e2 : IntKind.u64.max = 18446744073709551615 := by decide
    omega
  exact ⟨_, OctetOrder_fs n (r ha) (r hb)⟩

theorem octetOrder_own : ownKnob Try.prog.godebug = none := by kernel_rfl

set_option maxRecDepth 100000 in
theorem octetOrder_lifted (os : Os) (started : os.Started) (H : Type) (enc : TypeId × Value → H) :
    ReturnsInHanded {} Try.checked os 6 .any (Rows.octetOrderSpec.pre6 enc Try.prog Try.f6 Rows.octetOrderRow.domain false) (Rows.octetOrderSpec.post enc Try.prog Try.f6 false true false false) :=
  lift (C := Try.checked) started octetOrder_own (by kernel_rfl) Try.func6
    (ChangeSpec.witness6 (enc := enc) (C := Try.checked) false ⟨#[], #[.int .u64 0, .int .u64 0, .int .i64 0], []⟩ 8 (by kernel_rfl) (by kernel_rfl) (by kernel_rfl) (by kernel_rfl))
    (acs := [.lf (.int .u64), .lf (.int .u64), .lf (.int .i64)]) (by kernel_rfl) (by kernel_rfl) (by kernel_rfl) rfl (fun ds h => by
      match ds, h with
      | [d0, d1, d2], _ => rfl) (tb := 4) rfl Try.underlying4 octetOrder_run

theorem octetOrder_holds : Rows.OctetOrderSaid :=
  OpenClaim.holds_of_wide 6 Try.f6 rfl rfl rfl rfl rfl rfl rfl ⟨rfl, rfl, rfl, rfl, rfl⟩ rfl rfl rfl rfl rfl (by kernel_rfl) Try.func6 (by kernel_rfl)
    (of_decide_eq_true (by kernel_rfl)) (by unfold Func.isWrapper; first | (rw [if_pos (by decide +kernel)]; kernel_rfl) | (rw [if_neg (by decide +kernel)]; exact ⟨rfl, rfl⟩))
    (fun os started H enc _ => octetOrder_lifted os started H enc)
#print axioms octetOrder_holds
end Go.Proofs.Ytoamjccphppdmaa
