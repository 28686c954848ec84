/-
  THE ROW OF CircleWithin, PROVED: whatever the input the law returns true, and each argument reads behind the call as it read before.
  The walk (what the code reckons) is in the texts imported; here the law stands against the row.
-/
import Derived.Test.YtignpnjifekndaaCircleWithin
import Derived.Test.YtignpnjifekndaaRows
import Derived.ProofKit
import Derived.Below
namespace Go.Proofs.Ytignpnjifekndaa
open Go.Gh
set_option linter.unusedVariables false

theorem circleWithin_run : ∀ gs, RdAs [.st [.int .u32, .int .u32], .lf (.int .u32)] gs → ∃ M, FS Try.prog 11 gs [] (.lit (.bool true)) M := by
  intro gs hR
  simp only [RdAs, RdA, RdL, Rd] at hR
  obtain ⟨g1, gs1, rfl, ⟨x, rfl, y, ys, rfl, ⟨a1, rfl, ha1⟩, z, zs, rfl, ⟨a2, rfl, ha2⟩, rfl⟩, g3, gs3, rfl, ⟨v, rfl, hv⟩, rfl⟩ := hR
  have r : ∀ {n : Int}, IntKind.u32.min ≤ n ∧ n ≤ IntKind.u32.max → u32r n := fun h => by
    have e1 : IntKind.u32.min = 0 := by decide
    have e2 : IntKind.u32.max = 4294967295 := by decide
    unfold u32r; omega
  exact ⟨_, CircleWithin_fs (r ha1) (r ha2) (r hv)⟩

theorem circleWithin_own : ownKnob Try.prog.godebug = none := by kernel_rfl

set_option maxRecDepth 100000 in
theorem circleWithin_lifted (os : Os) (started : os.Started) (H : Type) (enc : TypeId × Value → H) :
    ReturnsInHanded {} Try.checked os 11 .any (Rows.circleWithinSpec.pre6 enc Try.prog Try.f11 Rows.circleWithinRow.domain false) (Rows.circleWithinSpec.post enc Try.prog Try.f11 false true false false) :=
  lift (C := Try.checked) started circleWithin_own (by kernel_rfl) Try.func11
    (ChangeSpec.witness6 (enc := enc) (C := Try.checked) false ⟨#[], #[.agg #[.int .u32 0, .int .u32 0], .int .u32 0], []⟩ 8 (by kernel_rfl) (by kernel_rfl) (by kernel_rfl) (by kernel_rfl))
    (acs := [.st [.int .u32, .int .u32], .lf (.int .u32)]) (by kernel_rfl) (by kernel_rfl) (by kernel_rfl) rfl (fun ds h => by
      match ds, h with
      | [d0, d1], _ => rfl) (tb := 4) rfl Try.underlying4 circleWithin_run

theorem circleWithin_holds : Rows.CircleWithinSaid :=
  OpenClaim.holds_of_wide 11 Try.f11 rfl rfl rfl rfl rfl rfl rfl ⟨rfl, rfl, rfl, rfl, rfl⟩ rfl rfl rfl rfl rfl (by kernel_rfl) Try.func11 (by kernel_rfl)
    (of_decide_eq_true (by kernel_rfl)) (by unfold Func.isWrapper; first | (rw [if_pos (by decide +kernel)]; kernel_rfl) | (rw [if_neg (by decide +kernel)]; exact ⟨rfl, rfl⟩))
    (fun os started H enc _ => circleWithin_lifted os started H enc)
#print axioms circleWithin_holds
end Go.Proofs.Ytignpnjifekndaa
