/-
  THE ROW OF DensityAdds, PROVED: whatever the input the law returns true, and each argument reads behind the call as it read before.
  The walk (what the code reckons) is in the texts imported; here the law stands against the row.
-/
import Derived.Test.YtlchnpmfgblegaaDensityAdds
import Derived.Test.YtlchnpmfgblegaaDensRow
import Derived.Test.YtlchnpmfgblegaaRows
import Derived.ProofKit
import Derived.Below
namespace Go.Proofs.Ytlchnpmfgblegaa
open Go.Gh
set_option linter.unusedVariables false

theorem densityAdds_run : ∀ gs, RdAs [.lf (.int .u32), .lf (.int .u32), .lf (.int .i64), .lf (.int .i64)] gs → ∃ M, FS Try.prog 6 gs [] (.lit (.bool true)) M := by
  intro gs hR
  simp only [RdAs, RdA, Rd] at hR
  obtain ⟨g1, gs1, rfl, ⟨a, rfl, ha⟩, g2, gs2, rfl, ⟨b, rfl, hb⟩, g3, gs3, rfl, ⟨n, rfl, _⟩, g4, gs4, rfl, ⟨m, rfl, _⟩, rfl⟩ := hR
  exact ⟨_, DensityAdds_fs (rd_u32 ha) (rd_u32 hb)⟩

theorem densityAdds_own : ownKnob Try.prog.godebug = none := by kernel_rfl

set_option maxRecDepth 100000 in
theorem densityAdds_lifted (os : Os) (started : os.Started) (H : Type) (enc : TypeId × Value → H) :
    ReturnsInHanded {} Try.checked os 6 .any (Rows.densityAddsSpec.pre6 enc Try.prog Try.f6 Rows.densityAddsRow.domain false) (Rows.densityAddsSpec.post enc Try.prog Try.f6 false true false false) :=
  lift (C := Try.checked) started densityAdds_own (by kernel_rfl) Try.func6
    (ChangeSpec.witness6 (enc := enc) (C := Try.checked) false ⟨#[], #[.int .u32 0, .int .u32 0, .int .i64 0, .int .i64 0], []⟩ 8 (by kernel_rfl) (by kernel_rfl) (by kernel_rfl) (by kernel_rfl))
    (acs := [.lf (.int .u32), .lf (.int .u32), .lf (.int .i64), .lf (.int .i64)]) (by kernel_rfl) (by kernel_rfl) (by kernel_rfl) rfl (fun ds h => by
      match ds, h with
      | [d0, d1, d2, d3], _ => rfl) (tb := 4) rfl Try.underlying4 densityAdds_run

theorem densityAdds_holds : Rows.DensityAddsSaid :=
  OpenClaim.holds_of_wide 6 Try.f6 rfl rfl rfl rfl rfl rfl rfl ⟨rfl, rfl, rfl, rfl, rfl⟩ rfl rfl rfl rfl rfl (by kernel_rfl) Try.func6 (by kernel_rfl)
    (of_decide_eq_true (by kernel_rfl)) (by unfold Func.isWrapper; first | (rw [if_pos (by decide +kernel)]; kernel_rfl) | (rw [if_neg (by decide +kernel)]; exact ⟨rfl, rfl⟩))
    (fun os started H enc _ => densityAdds_lifted os started H enc)
#print axioms densityAdds_holds
end Go.Proofs.Ytlchnpmfgblegaa
