/-
  THE ROW OF EstimateEven, PROVED: whatever the input the law returns true, and each argument reads behind the call as it read before.
  The walk (what the code reckons) is in the texts imported; here the law stands against the row.
-/
import Derived.Test.YtlchnpmfgblegaaEstimateEven
import Derived.Test.YtlchnpmfgblegaaDensRow
import Derived.Test.YtlchnpmfgblegaaRows
import Derived.ProofKit
import Derived.Below
namespace Go.Proofs.Ytlchnpmfgblegaa
open Go.Gh
set_option linter.unusedVariables false

theorem estimateEven_run : ∀ gs, RdAs [.lf (.int .u32), .lf (.int .u32), .lf (.int .u32)] gs → ∃ M, FS Try.prog 8 gs [] (.lit (.bool true)) M := by
  intro gs hR
  simp only [RdAs, RdA] at hR
  obtain ⟨g2, gs2, rfl, h2, g3, gs3, rfl, h3, g4, gs4, rfl, h4, rfl⟩ := hR
  simp only [Rd] at h2 h3 h4
  obtain ⟨n, rfl, hn⟩ := h2
  obtain ⟨lo, rfl, hlo⟩ := h3
  obtain ⟨hi, rfl, hhi⟩ := h4
  exact ⟨_, EstimateEven_fs (rd_u32 hn) (rd_u32 hlo) (rd_u32 hhi)⟩

theorem estimateEven_own : ownKnob Try.prog.godebug = none := by kernel_rfl

set_option maxRecDepth 100000 in
theorem estimateEven_lifted (os : Os) (started : os.Started) (H : Type) (enc : TypeId × Value → H) :
    ReturnsInHanded {} Try.checked os 8 .any (Rows.estimateEvenSpec.pre6 enc Try.prog Try.f8 Rows.estimateEvenRow.domain false) (Rows.estimateEvenSpec.post enc Try.prog Try.f8 false true false false) :=
  lift (C := Try.checked) started estimateEven_own (by kernel_rfl) Try.func8
    (ChangeSpec.witness6 (enc := enc) (C := Try.checked) false ⟨#[], #[.int .u32 0, .int .u32 0, .int .u32 0], []⟩ 8 (by kernel_rfl) (by kernel_rfl) (by kernel_rfl) (by kernel_rfl))
    (acs := [.lf (.int .u32), .lf (.int .u32), .lf (.int .u32)]) (by kernel_rfl) (by kernel_rfl) (by kernel_rfl) rfl (fun ds h => by
      match ds, h with
      | [d0, d1, d2], _ => rfl) (tb := 4) rfl Try.underlying4 estimateEven_run

theorem estimateEven_holds : Rows.EstimateEvenSaid :=
  OpenClaim.holds_of_wide 8 Try.f8 rfl rfl rfl rfl rfl rfl rfl ⟨rfl, rfl, rfl, rfl, rfl⟩ rfl rfl rfl rfl rfl (by kernel_rfl) Try.func8 (by kernel_rfl)
    (of_decide_eq_true (by kernel_rfl)) (by unfold Func.isWrapper; first | (rw [if_pos (by decide +kernel)]; kernel_rfl) | (rw [if_neg (by decide +kernel)]; exact ⟨rfl, rfl⟩))
    (fun os started H enc _ => estimateEven_lifted os started H enc)
#print axioms estimateEven_holds
end Go.Proofs.Ytlchnpmfgblegaa
