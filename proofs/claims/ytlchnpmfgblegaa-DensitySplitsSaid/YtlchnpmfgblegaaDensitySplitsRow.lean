/-
  THE ROW OF DensitySplits, PROVED: whatever the input the law returns true, and each argument reads behind the call as it read before.
  The walk (what the code reckons) is in the texts imported; here the law stands against the row.
-/
import Derived.Test.YtlchnpmfgblegaaDensitySplits
import Derived.Test.YtlchnpmfgblegaaDensRow
import Derived.Test.YtlchnpmfgblegaaRows
import Derived.ProofKit
import Derived.Below
namespace Go.Proofs.Ytlchnpmfgblegaa
open Go.Gh
set_option linter.unusedVariables false

theorem densitySplits_run : ∀ gs, RdAs [.st [.int .u32, .int .u32, .int .u32, .int .u32, .int .u32, .int .u32, .int .u32, .int .u32, .int .u32, .int .u32, .int .u32, .int .u32, .int .u32, .int .u32, .int .u32, .int .u32], .st [.int .u32, .int .u32], .lf (.int .u32)] gs → ∃ M, FS Try.prog 4 gs [] (.lit (.bool true)) M := by
  intro gs hR
  simp only [RdAs, RdA] at hR
  obtain ⟨g1, gs1, rfl, ⟨l1, rfl, h1⟩, g2, gs2, rfl, ⟨l2, rfl, h2⟩, g3, gs3, rfl, h3, rfl⟩ := hR
  obtain ⟨d, rfl, hd⟩ := rd_dens h1
  simp only [RdL, Rd] at h2 h3
  obtain ⟨_, _, rfl, ⟨b1, rfl, hb1⟩, _, _, rfl, ⟨b2, rfl, hb2⟩, rfl⟩ := h2
  obtain ⟨v, rfl, hv⟩ := h3
  exact ⟨_, DensitySplits_fs hd (rd_u32 hb1) (rd_u32 hb2) (rd_u32 hv)⟩

theorem densitySplits_own : ownKnob Try.prog.godebug = none := by kernel_rfl

set_option maxRecDepth 100000 in
theorem densitySplits_lifted (os : Os) (started : os.Started) (H : Type) (enc : TypeId × Value → H) :
    ReturnsInHanded {} Try.checked os 4 .any (Rows.densitySplitsSpec.pre6 enc Try.prog Try.f4 Rows.densitySplitsRow.domain false) (Rows.densitySplitsSpec.post enc Try.prog Try.f4 false true false false) :=
  lift (C := Try.checked) started densitySplits_own (by kernel_rfl) Try.func4
    (ChangeSpec.witness6 (enc := enc) (C := Try.checked) false ⟨#[], #[.agg #[.int .u32 0, .int .u32 0, .int .u32 0, .int .u32 0, .int .u32 0, .int .u32 0, .int .u32 0, .int .u32 0, .int .u32 0, .int .u32 0, .int .u32 0, .int .u32 0, .int .u32 0, .int .u32 0, .int .u32 0, .int .u32 0], .agg #[.int .u32 0, .int .u32 0], .int .u32 0], []⟩ 8 (by kernel_rfl) (by kernel_rfl) (by kernel_rfl) (by kernel_rfl))
    (acs := [.st [.int .u32, .int .u32, .int .u32, .int .u32, .int .u32, .int .u32, .int .u32, .int .u32, .int .u32, .int .u32, .int .u32, .int .u32, .int .u32, .int .u32, .int .u32, .int .u32], .st [.int .u32, .int .u32], .lf (.int .u32)]) (by kernel_rfl) (by kernel_rfl) (by kernel_rfl) rfl (fun ds h => by
      match ds, h with
      | [d0, d1, d2], _ => rfl) (tb := 4) rfl Try.underlying4 densitySplits_run

theorem densitySplits_holds : Rows.DensitySplitsSaid :=
  OpenClaim.holds_of_wide 4 Try.f4 rfl rfl rfl rfl rfl rfl rfl ⟨rfl, rfl, rfl, rfl, rfl⟩ rfl rfl rfl rfl rfl (by kernel_rfl) Try.func4 (by kernel_rfl)
    (of_decide_eq_true (by kernel_rfl)) (by unfold Func.isWrapper; first | (rw [if_pos (by decide +kernel)]; kernel_rfl) | (rw [if_neg (by decide +kernel)]; exact ⟨rfl, rfl⟩))
    (fun os started H enc _ => densitySplits_lifted os started H enc)
#print axioms densitySplits_holds
end Go.Proofs.Ytlchnpmfgblegaa
