/-
  THE ROW OF BoxSpans, PROVED: whatever the input the law returns true, and each argument reads behind the call as it read before.
  The walk (what the code reckons) is in the texts imported; here the law stands against the row.
-/
import Derived.Test.YtoamjccphppdmaaBoxLaws
import Derived.Test.YtoamjccphppdmaaRows
import Derived.ProofKit
import Derived.Below
namespace Go.Proofs.Ytoamjccphppdmaa
open Go.Gh
set_option linter.unusedVariables false

theorem boxSpans_run : ∀ gs, RdAs [.st [.int .i64, .int .u32, .int .u32], .lf (.int .u32)] gs → ∃ M, FS Try.prog 3 gs [] (.lit (.bool true)) M := by
  intro gs hR
  simp only [RdAs, RdA, RdL, Rd] at hR
  obtain ⟨g1, gs1, rfl, ⟨x, rfl, y, ys, rfl, ⟨a1, rfl, ha1⟩, z, zs, rfl, ⟨a2, rfl, ha2⟩, z3, zs3, rfl, ⟨a3, rfl, ha3⟩, rfl⟩, g3, gs3, rfl, ⟨v, rfl, hv⟩, rfl⟩ := hR
  have r : ∀ {n : Int}, IntKind.u32.min ≤ n ∧ n ≤ IntKind.u32.max → u32r n := fun h => by
    have e1 : IntKind.u32.min = 0 := by decide
    have e2 : IntKind.u32.max = 4294967295 := by decide
    unfold u32r; omega
  exact ⟨_, BoxSpans_fs (k := a1) (r ha2) (r ha3) (r hv)⟩

theorem boxSpans_own : ownKnob Try.prog.godebug = none := by kernel_rfl

set_option maxRecDepth 100000 in
theorem boxSpans_lifted (os : Os) (started : os.Started) (H : Type) (enc : TypeId × Value → H) :
    ReturnsInHanded {} Try.checked os 3 .any (Rows.boxSpansSpec.pre6 enc Try.prog Try.f3 Rows.boxSpansRow.domain false) (Rows.boxSpansSpec.post enc Try.prog Try.f3 false true false false) :=
  lift (C := Try.checked) started boxSpans_own (by kernel_rfl) Try.func3
    (ChangeSpec.witness6 (enc := enc) (C := Try.checked) false ⟨#[], #[.agg #[.int .i64 0, .int .u32 0, .int .u32 0], .int .u32 0], []⟩ 8 (by kernel_rfl) (by kernel_rfl) (by kernel_rfl) (by kernel_rfl))
    (acs := [.st [.int .i64, .int .u32, .int .u32], .lf (.int .u32)]) (by kernel_rfl) (by kernel_rfl) (by kernel_rfl) rfl (fun ds h => by
      match ds, h with
      | [d0, d1], _ => rfl) (tb := 4) rfl Try.underlying4 boxSpans_run

theorem boxSpans_holds : Rows.BoxSpansSaid :=
  OpenClaim.holds_of_wide 3 Try.f3 rfl rfl rfl rfl rfl rfl rfl ⟨rfl, rfl, rfl, rfl, rfl⟩ rfl rfl rfl rfl rfl (by kernel_rfl) Try.func3 (by kernel_rfl)
    (of_decide_eq_true (by kernel_rfl)) (by unfold Func.isWrapper; first | (rw [if_pos (by decide +kernel)]; kernel_rfl) | (rw [if_neg (by decide +kernel)]; exact ⟨rfl, rfl⟩))
    (fun os started H enc _ => boxSpans_lifted os started H enc)
#print axioms boxSpans_holds
end Go.Proofs.Ytoamjccphppdmaa
