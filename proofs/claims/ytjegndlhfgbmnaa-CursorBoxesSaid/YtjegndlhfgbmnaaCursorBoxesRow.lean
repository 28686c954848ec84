/-
  THE ROW OF CursorBoxes, PROVED: whatever the input the law returns true, and each argument reads behind the call as it read before.
  The walk (what the code reckons) is in the texts imported; here the law stands against the row.
-/
import Derived.Test.YtjegndlhfgbmnaaCursorBoxes
import Derived.Test.YtjegndlhfgbmnaaRows
import Derived.ProofKit
import Derived.Below
namespace Go.Proofs.Ytjegndlhfgbmnaa
open Go.Gh
set_option linter.unusedVariables false

theorem cursorBoxes_run : ∀ gs, RdAs [.lf (.sl 16 [.int .i64, .int .u32, .int .u32]), .lf (.int .u32), .lf (.int .u32), .lf (.int .i64)] gs → ∃ M, FS Try.prog 6 gs [] (.lit (.bool true)) M := by
  intro gs hR
  simp only [RdAs, RdA] at hR
  obtain ⟨g1, gs1, rfl, h1, g2, gs2, rfl, h2, g3, gs3, rfl, h3, g4, gs4, rfl, h4, rfl⟩ := hR
  simp only [RdL, Rd] at h1 h2 h3 h4
  obtain ⟨xs, e1, rfl, _, _, h1⟩ := h1
  obtain ⟨lo, rfl, hlo⟩ := h2
  obtain ⟨hi, rfl, hhi⟩ := h3
  obtain ⟨client, rfl, _⟩ := h4
  have r : ∀ {n : Int}, IntKind.u32.min ≤ n ∧ n ≤ IntKind.u32.max → u32r n := fun h => by
    have e1 : IntKind.u32.min = 0 := by decide
    have e2 : IntKind.u32.max = 4294967295 := by decide
    unfold u32r; omega
  obtain ⟨b, rfl, hb⟩ := exMap (enc := rgc) (p := rgok) (xs := xs) fun x hx => by
    have := h1 x (List.mem_append_left _ hx)
    obtain ⟨_, _, rfl, ⟨a, rfl, _⟩, _, _, rfl, ⟨b, rfl, hb⟩, _, _, rfl, ⟨c, rfl, hc⟩, rfl⟩ := this
    exact ⟨(a, b, c), rfl, r hb, r hc⟩
  exact ⟨_, CursorBoxes_fs hb (r hlo) (r hhi)⟩

theorem cursorBoxes_own : ownKnob Try.prog.godebug = none := by kernel_rfl

set_option maxRecDepth 100000 in
theorem cursorBoxes_lifted (os : Os) (started : os.Started) (H : Type) (enc : TypeId × Value → H) :
    ReturnsInHanded {} Try.checked os 6 .any (Rows.cursorBoxesSpec.pre6 enc Try.prog Try.f6 Rows.cursorBoxesRow.domain false) (Rows.cursorBoxesSpec.post enc Try.prog Try.f6 false true false false) :=
  lift (C := Try.checked) started cursorBoxes_own (by kernel_rfl) Try.func6
    (ChangeSpec.witness6 (enc := enc) (C := Try.checked) false ⟨#[], #[.slice none 0 0, .int .u32 0, .int .u32 0, .int .i64 0], []⟩ 8 (by kernel_rfl) (by kernel_rfl) (by kernel_rfl) (by kernel_rfl))
    (acs := [.lf (.sl 16 [.int .i64, .int .u32, .int .u32]), .lf (.int .u32), .lf (.int .u32), .lf (.int .i64)]) (by kernel_rfl) (by kernel_rfl) (by kernel_rfl) rfl (fun ds h => by
      match ds, h with
      | [d0, d1, d2, d3], _ => rfl) (tb := 4) rfl Try.underlying4 cursorBoxes_run

theorem cursorBoxes_holds : Rows.CursorBoxesSaid :=
  OpenClaim.holds_of_wide 6 Try.f6 rfl rfl rfl rfl rfl rfl rfl ⟨rfl, rfl, rfl, rfl, rfl⟩ rfl rfl rfl rfl rfl (by kernel_rfl) Try.func6 (by kernel_rfl)
    (of_decide_eq_true (by kernel_rfl)) (by unfold Func.isWrapper; first | (rw [if_pos (by decide +kernel)]; kernel_rfl) | (rw [if_neg (by decide +kernel)]; exact ⟨rfl, rfl⟩))
    (fun os started H enc _ => cursorBoxes_lifted os started H enc)
#print axioms cursorBoxes_holds
end Go.Proofs.Ytjegndlhfgbmnaa
