/-
  THE ROW OF CircleTurns, PROVED: whatever the input the law returns true, and each argument reads behind the call as it read before.
  The walk (what the code reckons) is in the texts imported; here the law stands against the row.
-/
import Derived.Test.YtignpnjifekndaaCircleTurns
import Derived.Test.YtignpnjifekndaaRows
import Derived.ProofKit
import Derived.Below
namespace Go.Proofs.Ytignpnjifekndaa
open Go.Gh
set_option linter.unusedVariables false

theorem circleTurns_run : ∀ gs, RdAs [.st [.int .u32, .int .u32], .st [.int .u32, .int .u32], .lf (.int .u32)] gs → ∃ M, FS Try.prog 8 gs [] (.lit (.bool true)) M := by
  intro gs hR
  simp only [RdAs, RdA, RdL, Rd] at hR
  obtain ⟨g1, gs1, rfl, ⟨x, rfl, y, ys, rfl, ⟨a1, rfl, ha1⟩, z, zs, rfl, ⟨a2, rfl, ha2⟩, rfl⟩, g2, gs2, rfl, ⟨x2, rfl, y2, ys2, rfl, ⟨b1, rfl, hb1⟩, z2, zs2, rfl, ⟨b2, rfl, hb2⟩, rfl⟩, g3, gs3, rfl, ⟨v, rfl, hv⟩, rfl⟩ := hR
  have r : ∀ {n : Int}, IntKind.u32.min ≤ n ∧ n ≤ IntKind.u32.max → u32r n := fun h => by
    have e1 : IntKind.u32.min = 0 := by decide
    have e2 : IntKind.u32.max = 4294967295 := by decide
    unfold u32r; omega
  exact ⟨_, CircleTurns_fs (r ha1) (r ha2) (r hb1) (r hb2) (r hv)⟩

theorem circleTurns_own : ownKnob Try.prog.godebug = none := by kernel_rfl

set_option maxRecDepth 100000 in
theorem circleTurns_lifted (os : Os) (started : os.Started) (H : Type) (enc : TypeId × Value → H) :
    ReturnsInHanded {} Try.checked os 8 .any (Rows.circleTurnsSpec.pre6 enc Try.prog Try.f8 Rows.circleTurnsRow.domain false) (Rows.circleTurnsSpec.post enc Try.prog Try.f8 false true false false) :=
  lift (C := Try.checked) started circleTurns_own (by kernel_rfl) Try.func8
    (ChangeSpec.witness6 (enc := enc) (C := Try.checked) false ⟨#[], #[.agg #[.int .u32 0, .int .u32 0], .agg #[.int .u32 0, .int .u32 0], .int .u32 0], []⟩ 8 (by kernel_rfl) (by kernel_rfl) (by kernel_rfl) (by kernel_rfl))
    (acs := [.st [.int .u32, .int .u32], .st [.int .u32, .int .u32], .lf (.int .u32)]) (by kernel_rfl) (by kernel_rfl) (by kernel_rfl) rfl (fun ds h => by
      match ds, h with
      | [d0, d1, d2], _ => rfl) (tb := 4) rfl Try.underlying4 circleTurns_run

theorem circleTurns_holds : Rows.CircleTurnsSaid :=
  OpenClaim.holds_of_wide 8 Try.f8 rfl rfl rfl rfl rfl rfl rfl ⟨rfl, rfl, rfl, rfl, rfl⟩ rfl rfl rfl rfl rfl (by kernel_rfl) Try.func8 (by kernel_rfl)
    (of_decide_eq_true (by kernel_rfl)) (by unfold Func.isWrapper; first | (rw [if_pos (by decide +kernel)]; kernel_rfl) | (rw [if_neg (by decide +kernel)]; exact ⟨rfl, rfl⟩))
    (fun os started H enc _ => circleTurns_lifted os started H enc)
#print axioms circleTurns_holds
end Go.Proofs.Ytignpnjifekndaa
