/-
  THE ROW OF DiceFork, PROVED: whatever the input the law returns true, and each argument reads behind the call as it read before.
  The walk (what the code reckons) is in the texts imported; here the law stands against the row.
-/
import Derived.Test.YtignpnjifekndaaDiceFork
import Derived.Test.YtignpnjifekndaaRows
import Derived.ProofKit
import Derived.Below
namespace Go.Proofs.Ytignpnjifekndaa
open Go.Gh
set_option linter.unusedVariables false

theorem diceFork_run : ∀ gs, RdAs [.lf (.int .u64), .lf (.int .i64), .lf (.int .i64)] gs → ∃ M, FS Try.prog 7 gs [] (.lit (.bool true)) M := by
  intro gs hR
  simp only [RdAs, RdA, Rd] at hR
  obtain ⟨g1, gs1, rfl, ⟨a, rfl, ha⟩, g2, gs2, rfl, ⟨b, rfl, hb⟩, g3, gs3, rfl, ⟨c, rfl, hc⟩, rfl⟩ := hR
  exact ⟨_, DiceFork_fs (s := a) (n := b) (h := c) hb.2⟩

theorem diceFork_own : ownKnob Try.prog.godebug = none := by kernel_rfl

set_option maxRecDepth 100000 in
theorem diceFork_lifted (os : Os) (started : os.Started) (H : Type) (enc : TypeId × Value → H) :
    ReturnsInHanded {} Try.checked os 7 .any (Rows.diceForkSpec.pre6 enc Try.prog Try.f7 Rows.diceForkRow.domain false) (Rows.diceForkSpec.post enc Try.prog Try.f7 false true false false) :=
  lift (C := Try.checked) started diceFork_own (by kernel_rfl) Try.func7
    (ChangeSpec.witness6 (enc := enc) (C := Try.checked) false ⟨#[], #[.int .u64 0, .int .i64 0, .int .i64 0], []⟩ 8 (by kernel_rfl) (by kernel_rfl) (by kernel_rfl) (by kernel_rfl))
    (acs := [.lf (.int .u64), .lf (.int .i64), .lf (.int .i64)]) (by kernel_rfl) (by kernel_rfl) (by kernel_rfl) rfl (fun ds h => by
      match ds, h with
      | [d0, d1, d2], _ => rfl) (tb := 4) rfl Try.underlying4 diceFork_run

theorem diceFork_holds : Rows.DiceForkSaid :=
  OpenClaim.holds_of_wide 7 Try.f7 rfl rfl rfl rfl rfl rfl rfl ⟨rfl, rfl, rfl, rfl, rfl⟩ rfl rfl rfl rfl rfl (by kernel_rfl) Try.func7 (by kernel_rfl)
    (of_decide_eq_true (by kernel_rfl)) (by unfold Func.isWrapper; first | (rw [if_pos (by decide +kernel)]; kernel_rfl) | (rw [if_neg (by decide +kernel)]; exact ⟨rfl, rfl⟩))
    (fun os started H enc _ => diceFork_lifted os started H enc)
#print axioms diceFork_holds
end Go.Proofs.Ytignpnjifekndaa
