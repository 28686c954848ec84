/-
  THE ROW OF OctetShort, PROVED: whatever the input the law returns true, and each argument reads behind the call as it read before.
  The walk (what the code reckons) is in the texts imported; here the law stands against the row.
-/
import Derived.Test.YtoamjccphppdmaaOctetShort
import Derived.Test.YtoamjccphppdmaaRows
import Derived.ProofKit
import Derived.Below
namespace Go.Proofs.Ytoamjccphppdmaa
open Go.Gh
set_option linter.unusedVariables false

theorem octetShort_run : ∀ gs, RdAs [.lf (.sl 1 [.int .u8]), .lf (.int .i64)] gs → ∃ M, FS Try.prog 11 gs [] (.lit (.bool true)) M := by
  intro gs hR
  simp only [RdAs, RdA, Rd] at hR
  obtain ⟨g1, gs1, rfl, ⟨xs, e1, rfl, _, _, h1⟩, g2, gs2, rfl, ⟨n, rfl, _⟩, rfl⟩ := hR
  obtain ⟨B, rfl, hB⟩ := exMap (enc := bG) (p := fun c => 0 ≤ c ∧ c < 256) (xs := xs) fun x hx => by
    have := h1 x (List.mem_append_left _ hx)
    simp only [RdL, Rd] at this
    obtain ⟨_, _, rfl, ⟨a, rfl, ha⟩, rfl⟩ := this
    have e1 : IntKind.u8.min = 0 := by decide
    have e2 : IntKind.u8.max = 255 := by decide
    exact ⟨a, rfl, by omega⟩
  exact ⟨_, OctetShort_fs n hB⟩

theorem octetShort_own : ownKnob Try.prog.godebug = none := by kernel_rfl

set_option maxRecDepth 100000 in
theorem octetShort_lifted (os : Os) (started : os.Started) (H : Type) (enc : TypeId × Value → H) :
    ReturnsInHanded {} Try.checked os 11 .any (Rows.octetShortSpec.pre6 enc Try.prog Try.f11 Rows.octetShortRow.domain false) (Rows.octetShortSpec.post enc Try.prog Try.f11 false true false false) :=
  lift (C := Try.checked) started octetShort_own (by kernel_rfl) Try.func11
    (ChangeSpec.witness6 (enc := enc) (C := Try.checked) false ⟨#[], #[.slice none 0 0, .int .i64 0], []⟩ 8 (by kernel_rfl) (by kernel_rfl) (by kernel_rfl) (by kernel_rfl))
    (acs := [.lf (.sl 1 [.int .u8]), .lf (.int .i64)]) (by kernel_rfl) (by kernel_rfl) (by kernel_rfl) rfl (fun ds h => by
      match ds, h with
      | [d0, d1], _ => rfl) (tb := 4) rfl Try.underlying4 octetShort_run

theorem octetShort_holds : Rows.OctetShortSaid :=
  OpenClaim.holds_of_wide 11 Try.f11 rfl rfl rfl rfl rfl rfl rfl ⟨rfl, rfl, rfl, rfl, rfl⟩ rfl rfl rfl rfl rfl (by kernel_rfl) Try.func11 (by kernel_rfl)
    (of_decide_eq_true (by kernel_rfl)) (by unfold Func.isWrapper; first | (rw [if_pos (by decide +kernel)]; kernel_rfl) | (rw [if_neg (by decide +kernel)]; exact ⟨rfl, rfl⟩))
    (fun os started H enc _ => octetShort_lifted os started H enc)
#print axioms octetShort_holds
end Go.Proofs.Ytoamjccphppdmaa
