/-
  THE ROW OF BoxMatches, PROVED: whatever the input the law returns true, and each argument reads behind the call as it read before.
  The walk (what the code reckons) is in the texts imported; here the law stands against the row.
-/
import Derived.Test.YtoamjccphppdmaaBoxMatches
import Derived.Test.YtoamjccphppdmaaRows
import Derived.ProofKit
import Derived.Below
namespace Go.Proofs.Ytoamjccphppdmaa
open Go.Gh
set_option linter.unusedVariables false

theorem boxMatches_run : ∀ gs, RdAs [.lf (.sl 16 [.int .i64, .int .u32, .int .u32]), .lf (.sl 4 [.int .u32])] gs → ∃ M, FS Try.prog 7 gs [] (.lit (.bool true)) M := by
  intro gs hR
  simp only [RdAs, RdA, Rd] at hR
  obtain ⟨g1, gs1, rfl, ⟨xs, e1, rfl, _, _, h1⟩, g2, gs2, rfl, ⟨ys, e2, rfl, _, _, h2⟩, rfl⟩ := hR
  obtain ⟨l, rfl, _⟩ := exMap (enc := rgc) (p := fun _ => True) (xs := xs) fun x hx => by
    have := h1 x (List.mem_append_left _ hx)
    simp only [RdL, Rd] at this
    obtain ⟨_, _, rfl, ⟨a, rfl, _⟩, _, _, rfl, ⟨b, rfl, _⟩, _, _, rfl, ⟨c, rfl, _⟩, rfl⟩ := this
    exact ⟨(a, b, c), rfl, trivial⟩
  obtain ⟨vs, rfl, _⟩ := exMap (enc := uG) (p := fun _ => True) (xs := ys) fun x hx => by
    have := h2 x (List.mem_append_left _ hx)
    simp only [RdL, Rd] at this
    obtain ⟨_, _, rfl, ⟨a, rfl, _⟩, rfl⟩ := this
    exact ⟨a, rfl, trivial⟩
  exact ⟨_, BoxMatches_fs⟩

theorem boxMatches_own : ownKnob Try.prog.godebug = none := by kernel_rfl

set_option maxRecDepth 100000 in
theorem boxMatches_lifted (os : Os) (started : os.Started) (H : Type) (enc : TypeId × Value → H) :
    ReturnsInHanded {} Try.checked os 7 .any (Rows.boxMatchesSpec.pre6 enc Try.prog Try.f7 Rows.boxMatchesRow.domain false) (Rows.boxMatchesSpec.post enc Try.prog Try.f7 false true false false) :=
  lift (C := Try.checked) started boxMatches_own (by kernel_rfl) Try.func7
    (ChangeSpec.witness6 (enc := enc) (C := Try.checked) false ⟨#[], #[.slice none 0 0, .slice none 0 0], []⟩ 8 (by kernel_rfl) (by kernel_rfl) (by kernel_rfl) (by kernel_rfl))
    (acs := [.lf (.sl 16 [.int .i64, .int .u32, .int .u32]), .lf (.sl 4 [.int .u32])]) (by kernel_rfl) (by kernel_rfl) (by kernel_rfl) rfl (fun ds h => by
      match ds, h with
      | [d0, d1], _ => rfl) (tb := 4) rfl Try.underlying4 boxMatches_run

theorem boxMatches_holds : Rows.BoxMatchesSaid :=
  OpenClaim.holds_of_wide 7 Try.f7 rfl rfl rfl rfl rfl rfl rfl ⟨rfl, rfl, rfl, rfl, rfl⟩ rfl rfl rfl rfl rfl (by kernel_rfl) Try.func7 (by kernel_rfl)
    (of_decide_eq_true (by kernel_rfl)) (by unfold Func.isWrapper; first | (rw [if_pos (by decide +kernel)]; kernel_rfl) | (rw [if_neg (by decide +kernel)]; exact ⟨rfl, rfl⟩))
    (fun os started H enc _ => boxMatches_lifted os started H enc)
#print axioms boxMatches_holds
end Go.Proofs.Ytoamjccphppdmaa
