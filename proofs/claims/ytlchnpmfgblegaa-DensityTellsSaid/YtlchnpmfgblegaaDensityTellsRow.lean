/-
  THE ROW OF DensityTells, PROVED: whatever the input the law returns true, and each argument reads behind the call as it read before.
  The walk (what the code reckons) is in the texts imported; here the law stands against the row.
-/
import Derived.Test.YtlchnpmfgblegaaDensityTells
import Derived.Test.YtlchnpmfgblegaaDensRow
import Derived.Test.YtlchnpmfgblegaaRows
import Derived.ProofKit
import Derived.Below
namespace Go.Proofs.Ytlchnpmfgblegaa
open Go.Gh
set_option linter.unusedVariables false

theorem densityTells_run : ∀ gs, RdAs [.st [.int .u32, .int .u32, .int .u32, .int .u32, .int .u32, .int .u32, .int .u32, .int .u32, .int .u32, .int .u32, .int .u32, .int .u32, .int .u32, .int .u32, .int .u32, .int .u32], .lf (.int .u32), .lf (.int .i64), .lf (.sl 56 [.int .u32, .int .u64, .int .u64, .sl 4 [.int .u32], .bool]), .lf (.sl 64 [.int .u32, .int .u32, .int .u32, .int .u32, .int .u32, .int .u32, .int .u32, .int .u32, .int .u32, .int .u32, .int .u32, .int .u32, .int .u32, .int .u32, .int .u32, .int .u32]), .st [.int .u32, .int .u32]] gs → ∃ M, FS Try.prog 9 gs [] (.lit (.bool true)) M := by
  intro gs hR
  simp only [RdAs, RdA] at hR
  obtain ⟨g1, gs1, rfl, ⟨l1, rfl, h1⟩, g2, gs2, rfl, h2, g3, gs3, rfl, h3, g4, gs4, rfl, h4, g5, gs5, rfl, h5, g6, gs6, rfl, ⟨l6, rfl, h6⟩, rfl⟩ := hR
  obtain ⟨d, rfl, hd⟩ := rd_dens h1
  simp only [RdL, Rd] at h2 h3 h4 h5 h6
  obtain ⟨v, rfl, hv⟩ := h2
  obtain ⟨n, rfl, _⟩ := h3
  obtain ⟨xs, e1, rfl, hb, _, h4⟩ := h4
  obtain ⟨ys, e2, rfl, _, _, h5⟩ := h5
  obtain ⟨_, _, rfl, ⟨b1, rfl, hb1⟩, _, _, rfl, ⟨b2, rfl, hb2⟩, rfl⟩ := h6
  obtain ⟨l, rfl, hl⟩ := exMap (enc := enG) (p := fun e => u32r e.v) (xs := xs) fun x hx => by
    have := h4 x (List.mem_append_left _ hx)
    obtain ⟨_, _, rfl, ⟨a, rfl, ha⟩, _, _, rfl, ⟨b, rfl, _⟩, _, _, rfl, ⟨c, rfl, _⟩, _, _, rfl, ⟨vs, ve, rfl, _⟩, _, _, rfl, ⟨g, rfl⟩, rfl⟩ := this
    exact ⟨⟨a, b, c, vs, ve, g⟩, rfl, rd_u32 ha⟩
  obtain ⟨more, rfl, hm⟩ := exMap (enc := dg) (p := rg) (xs := ys) fun x hx => rd_dens (h5 x (List.mem_append_left _ hx))
  refine ⟨_, DensityTells_fs hd (rd_u32 hv) ?_ hl hm (rd_u32 hb1) (rd_u32 hb2)⟩
  have e : reachBytes ≤ 140737488355328 := by decide
  simp only [List.length_map] at hb
  omega

theorem densityTells_own : ownKnob Try.prog.godebug = none := by kernel_rfl

set_option maxRecDepth 100000 in
theorem densityTells_lifted (os : Os) (started : os.Started) (H : Type) (enc : TypeId × Value → H) :
    ReturnsInHanded {} Try.checked os 9 .any (Rows.densityTellsSpec.pre6 enc Try.prog Try.f9 Rows.densityTellsRow.domain false) (Rows.densityTellsSpec.post enc Try.prog Try.f9 false true false false) :=
  lift (C := Try.checked) started densityTells_own (by kernel_rfl) Try.func9
    (ChangeSpec.witness6 (enc := enc) (C := Try.checked) false ⟨#[], #[.agg #[.int .u32 0, .int .u32 0, .int .u32 0, .int .u32 0, .int .u32 0, .int .u32 0, .int .u32 0, .int .u32 0, .int .u32 0, .int .u32 0, .int .u32 0, .int .u32 0, .int .u32 0, .int .u32 0, .int .u32 0, .int .u32 0], .int .u32 0, .int .i64 0, .slice none 0 0, .slice none 0 0, .agg #[.int .u32 0, .int .u32 0]], []⟩ 8 (by kernel_rfl) (by kernel_rfl) (by kernel_rfl) (by kernel_rfl))
    (acs := [.st [.int .u32, .int .u32, .int .u32, .int .u32, .int .u32, .int .u32, .int .u32, .int .u32, .int .u32, .int .u32, .int .u32, .int .u32, .int .u32, .int .u32, .int .u32, .int .u32], .lf (.int .u32), .lf (.int .i64), .lf (.sl 56 [.int .u32, .int .u64, .int .u64, .sl 4 [.int .u32], .bool]), .lf (.sl 64 [.int .u32, .int .u32, .int .u32, .int .u32, .int .u32, .int .u32, .int .u32, .int .u32, .int .u32, .int .u32, .int .u32, .int .u32, .int .u32, .int .u32, .int .u32, .int .u32]), .st [.int .u32, .int .u32]]) (by kernel_rfl) (by kernel_rfl) (by kernel_rfl) rfl (fun ds h => by
      match ds, h with
      | [d0, d1, d2, d3, d4, d5], _ => rfl) (tb := 4) rfl Try.underlying4 densityTells_run

theorem densityTells_holds : Rows.DensityTellsSaid :=
  OpenClaim.holds_of_wide 9 Try.f9 rfl rfl rfl rfl rfl rfl rfl ⟨rfl, rfl, rfl, rfl, rfl⟩ rfl rfl rfl rfl rfl (by kernel_rfl) Try.func9 (by kernel_rfl)
    (of_decide_eq_true (by kernel_rfl)) (by unfold Func.isWrapper; first | (rw [if_pos (by decide +kernel)]; kernel_rfl) | (rw [if_neg (by decide +kernel)]; exact ⟨rfl, rfl⟩))
    (fun os started H enc _ => densityTells_lifted os started H enc)
#print axioms densityTells_holds
end Go.Proofs.Ytlchnpmfgblegaa
