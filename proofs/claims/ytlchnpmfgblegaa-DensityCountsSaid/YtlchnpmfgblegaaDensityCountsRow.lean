/-
  THE ROW OF DensityCounts, PROVED: whatever the input the law returns true, and each argument reads behind the call as it read before.
  The walk (what the code reckons) is in the texts imported; here the law stands against the row.
-/
import Derived.Test.YtlchnpmfgblegaaDensityCounts
import Derived.Test.YtlchnpmfgblegaaDensRow
import Derived.Test.YtlchnpmfgblegaaRows
import Derived.ProofKit
import Derived.Below
namespace Go.Proofs.Ytlchnpmfgblegaa
open Go.Gh
set_option linter.unusedVariables false

theorem densityCounts_run : ∀ gs, RdAs [.lf (.sl 56 [.int .u32, .int .u64, .int .u64, .sl 4 [.int .u32], .bool]), .lf (.int .u32), .lf (.int .u32)] gs → ∃ M, FS Try.prog 5 gs [] (.lit (.bool true)) M := by
  intro gs hR
  simp only [RdAs, RdA] at hR
  obtain ⟨g4, gs4, rfl, h4, g2, gs2, rfl, h2, g3, gs3, rfl, h3, rfl⟩ := hR
  simp only [RdL, Rd] at h2 h3 h4
  obtain ⟨v, rfl, hv⟩ := h2
  obtain ⟨n, rfl, hn⟩ := h3
  obtain ⟨xs, e1, rfl, hb, _, h4⟩ := h4
  obtain ⟨l, rfl, hl⟩ := exMap (enc := enG) (p := fun e => u32r e.v) (xs := xs) fun x hx => by
    have := h4 x (List.mem_append_left _ hx)
    obtain ⟨_, _, rfl, ⟨a, rfl, ha⟩, _, _, rfl, ⟨b, rfl, _⟩, _, _, rfl, ⟨c, rfl, _⟩, _, _, rfl, ⟨vs, ve, rfl, _⟩, _, _, rfl, ⟨g, rfl⟩, rfl⟩ := this
    exact ⟨⟨a, b, c, vs, ve, g⟩, rfl, rd_u32 ha⟩
  refine ⟨_, DensityCounts_fs ?_ hl (rd_u32 hv) (rd_u32 hn)⟩
  have e : reachBytes ≤ 140737488355328 := by decide
  simp only [List.length_map] at hb
  omega

theorem densityCounts_own : ownKnob Try.prog.godebug = none := by kernel_rfl

set_option maxRecDepth 100000 in
theorem densityCounts_lifted (os : Os) (started : os.Started) (H : Type) (enc : TypeId × Value → H) :
    ReturnsInHanded {} Try.checked os 5 .any (Rows.densityCountsSpec.pre6 enc Try.prog Try.f5 Rows.densityCountsRow.domain false) (Rows.densityCountsSpec.post enc Try.prog Try.f5 false true false false) :=
  lift (C := Try.checked) started densityCounts_own (by kernel_rfl) Try.func5
    (ChangeSpec.witness6 (enc := enc) (C := Try.checked) false ⟨#[], #[.slice none 0 0, .int .u32 0, .int .u32 0], []⟩ 8 (by kernel_rfl) (by kernel_rfl) (by kernel_rfl) (by kernel_rfl))
    (acs := [.lf (.sl 56 [.int .u32, .int .u64, .int .u64, .sl 4 [.int .u32], .bool]), .lf (.int .u32), .lf (.int .u32)]) (by kernel_rfl) (by kernel_rfl) (by kernel_rfl) rfl (fun ds h => by
      match ds, h with
      | [d0, d1, d2], _ => rfl) (tb := 4) rfl Try.underlying4 densityCounts_run

theorem densityCounts_holds : Rows.DensityCountsSaid :=
  OpenClaim.holds_of_wide 5 Try.f5 rfl rfl rfl rfl rfl rfl rfl ⟨rfl, rfl, rfl, rfl, rfl⟩ rfl rfl rfl rfl rfl (by kernel_rfl) Try.func5 (by kernel_rfl)
    (of_decide_eq_true (by kernel_rfl)) (by unfold Func.isWrapper; first | (rw [if_pos (by decide +kernel)]; kernel_rfl) | (rw [if_neg (by decide +kernel)]; exact ⟨rfl, rfl⟩))
    (fun os started H enc _ => densityCounts_lifted os started H enc)
#print axioms densityCounts_holds
end Go.Proofs.Ytlchnpmfgblegaa
