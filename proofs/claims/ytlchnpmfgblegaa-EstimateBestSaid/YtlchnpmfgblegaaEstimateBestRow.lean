/-
  THE ROW OF EstimateBest, PROVED: whatever the input the law returns true, and each argument reads behind the call as it read before.
  The walk (what the code reckons) is in the texts imported; here the law stands against the row.
-/
import Derived.Test.YtlchnpmfgblegaaEstimateBest
import Derived.Test.YtlchnpmfgblegaaDensRow
import Derived.Test.YtlchnpmfgblegaaRows
import Derived.ProofKit
import Derived.Below
namespace Go.Proofs.Ytlchnpmfgblegaa
open Go.Gh
set_option linter.unusedVariables false

theorem estimateBest_run : ∀ gs, RdAs [.lf (.sl 64 [.int .u32, .int .u32, .int .u32, .int .u32, .int .u32, .int .u32, .int .u32, .int .u32, .int .u32, .int .u32, .int .u32, .int .u32, .int .u32, .int .u32, .int .u32, .int .u32]), .lf (.sl 16 [.int .i64, .int .u32, .int .u32])] gs → ∃ M, FS Try.prog 11 gs [] (.lit (.bool true)) M := by
  intro gs hR
  simp only [RdAs, RdA] at hR
  obtain ⟨g3, gs3, rfl, h3, g4, gs4, rfl, h4, rfl⟩ := hR
  simp only [RdL, Rd] at h3 h4
  obtain ⟨xs, e1, rfl, _, _, h3⟩ := h3
  obtain ⟨ys, e2, rfl, _, _, h4⟩ := h4
  obtain ⟨l, rfl, hl⟩ := exMap (enc := dg) (p := rg) (xs := xs) fun x hx => rd_dens (h3 x (List.mem_append_left _ hx))
  obtain ⟨b, rfl, hb⟩ := exMap (enc := rgc) (p := rgok2) (xs := ys) fun x hx => by
    have := h4 x (List.mem_append_left _ hx)
    obtain ⟨_, _, rfl, ⟨a, rfl, _⟩, _, _, rfl, ⟨b, rfl, hb⟩, _, _, rfl, ⟨c, rfl, hc⟩, rfl⟩ := this
    exact ⟨(a, b, c), rfl, rd_u32 hb, rd_u32 hc⟩
  exact ⟨_, EstimateBest_fs hl hb⟩

theorem estimateBest_own : ownKnob Try.prog.godebug = none := by kernel_rfl

set_option maxRecDepth 100000 in
theorem estimateBest_lifted (os : Os) (started : os.Started) (H : Type) (enc : TypeId × Value → H) :
    ReturnsInHanded {} Try.checked os 11 .any (Rows.estimateBestSpec.pre6 enc Try.prog Try.f11 Rows.estimateBestRow.domain false) (Rows.estimateBestSpec.post enc Try.prog Try.f11 false true false false) :=
  lift (C := Try.checked) started estimateBest_own (by kernel_rfl) Try.func11
    (ChangeSpec.witness6 (enc := enc) (C := Try.checked) false ⟨#[], #[.slice none 0 0, .slice none 0 0], []⟩ 8 (by kernel_rfl) (by kernel_rfl) (by kernel_rfl) (by kernel_rfl))
    (acs := [.lf (.sl 64 [.int .u32, .int .u32, .int .u32, .int .u32, .int .u32, .int .u32, .int .u32, .int .u32, .int .u32, .int .u32, .int .u32, .int .u32, .int .u32, .int .u32, .int .u32, .int .u32]), .lf (.sl 16 [.int .i64, .int .u32, .int .u32])]) (by kernel_rfl) (by kernel_rfl) (by kernel_rfl) rfl (fun ds h => by
      match ds, h with
      | [d0, d1], _ => rfl) (tb := 4) rfl Try.underlying4 estimateBest_run

theorem estimateBest_holds : Rows.EstimateBestSaid :=
  OpenClaim.holds_of_wide 11 Try.f11 rfl rfl rfl rfl rfl rfl rfl ⟨rfl, rfl, rfl, rfl, rfl⟩ rfl rfl rfl rfl rfl (by kernel_rfl) Try.func11 (by kernel_rfl)
    (of_decide_eq_true (by kernel_rfl)) (by unfold Func.isWrapper; first | (rw [if_pos (by decide +kernel)]; kernel_rfl) | (rw [if_neg (by decide +kernel)]; exact ⟨rfl, rfl⟩))
    (fun os started H enc _ => estimateBest_lifted os started H enc)
#print axioms estimateBest_holds
end Go.Proofs.Ytlchnpmfgblegaa
