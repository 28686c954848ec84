/-
  THE ROW OF EstimateGrows, PROVED: whatever the input the law returns true, and each argument reads behind the call as it read before.
  The walk (what the code reckons) is in the texts imported; here the law stands against the row.
-/
import Derived.Test.YtlchnpmfgblegaaEstimateGrows
import Derived.Test.YtlchnpmfgblegaaDensRow
import Derived.Test.YtlchnpmfgblegaaRows
import Derived.ProofKit
import Derived.Below
namespace Go.Proofs.Ytlchnpmfgblegaa
open Go.Gh
set_option linter.unusedVariables false

theorem estimateGrows_run : ∀ gs, RdAs [.st [.int .u32, .int .u32, .int .u32, .int .u32, .int .u32, .int .u32, .int .u32, .int .u32, .int .u32, .int .u32, .int .u32, .int .u32, .int .u32, .int .u32, .int .u32, .int .u32], .lf (.int .u32), .lf (.int .u32), .lf (.int .u32)] gs → ∃ M, FS Try.prog 7 gs [] (.lit (.bool true)) M := by
  intro gs hR
  simp only [RdAs, RdA] at hR
  obtain ⟨g1, gs1, rfl, ⟨l1, rfl, h1⟩, g2, gs2, rfl, h2, g3, gs3, rfl, h3, g4, gs4, rfl, h4, rfl⟩ := hR
  obtain ⟨d, rfl, hd⟩ := rd_dens h1
  simp only [Rd] at h2 h3 h4
  obtain ⟨lo, rfl, hlo⟩ := h2
  obtain ⟨hi, rfl, hhi⟩ := h3
  obtain ⟨m, rfl, hm⟩ := h4
  exact ⟨_, EstimateGrows_fs hd (rd_u32 hlo) (rd_u32 hhi) (rd_u32 hm)⟩

theorem estimateGrows_own : ownKnob Try.prog.godebug = none := by kernel_rfl

set_option maxRecDepth 100000 in
theorem estimateGrows_lifted (os : Os) (started : os.Started) (H : Type) (enc : TypeId × Value → H) :
    ReturnsInHanded {} Try.checked os 7 .any (Rows.estimateGrowsSpec.pre6 enc Try.prog Try.f7 Rows.estimateGrowsRow.domain false) (Rows.estimateGrowsSpec.post enc Try.prog Try.f7 false true false false) :=
  lift (C := Try.checked) started estimateGrows_own (by kernel_rfl) Try.func7
    (ChangeSpec.witness6 (enc := enc) (C := Try.checked) false ⟨#[], #[.agg #[.int .u32 0, .int .u32 0, .int .u32 0, .int .u32 0, .int .u32 0, .int .u32 0, .int .u32 0, .int .u32 0, .int .u32 0, .int .u32 0, .int .u32 0, .int .u32 0, .int .u32 0, .int .u32 0, .int .u32 0, .int .u32 0], .int .u32 0, .int .u32 0, .int .u32 0], []⟩ 8 (by kernel_rfl) (by kernel_rfl) (by kernel_rfl) (by kernel_rfl))
    (acs := [.st [.int .u32, .int .u32, .int .u32, .int .u32, .int .u32, .int .u32, .int .u32, .int .u32, .int .u32, .int .u32, .int .u32, .int .u32, .int .u32, .int .u32, .int .u32, .int .u32], .lf (.int .u32), .lf (.int .u32), .lf (.int .u32)]) (by kernel_rfl) (by kernel_rfl) (by kernel_rfl) rfl (fun ds h => by
      match ds, h with
      | [d0, d1, d2, d3], _ => rfl) (tb := 4) rfl Try.underlying4 estimateGrows_run

theorem estimateGrows_holds : Rows.EstimateGrowsSaid :=
  OpenClaim.holds_of_wide 7 Try.f7 rfl rfl rfl rfl rfl rfl rfl ⟨rfl, rfl, rfl, rfl, rfl⟩ rfl rfl rfl rfl rfl (by kernel_rfl) Try.func7 (by kernel_rfl)
    (of_decide_eq_true (by kernel_rfl)) (by unfold Func.isWrapper; first | (rw [if_pos (by decide +kernel)]; kernel_rfl) | (rw [if_neg (by decide +kernel)]; exact ⟨rfl, rfl⟩))
    (fun os started H enc _ => estimateGrows_lifted os started H enc)
#print axioms estimateGrows_holds
end Go.Proofs.Ytlchnpmfgblegaa
