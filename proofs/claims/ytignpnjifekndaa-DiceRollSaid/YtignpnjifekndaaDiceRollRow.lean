/-
  THE ROW OF DiceRoll, PROVED: whatever the input the law returns true, and each argument reads behind the call as it read before.
  The walk (what the code reckons) is in the texts imported; here the law stands against the row.
-/
import Derived.Test.YtignpnjifekndaaDiceRoll
import Derived.Test.YtignpnjifekndaaRows
import Derived.ProofKit
import Derived.Below
namespace Go.Proofs.Ytignpnjifekndaa
open Go.Gh
set_option linter.unusedVariables false

theorem diceRoll_run : ∀ gs, RdAs [.lf (.int .u64), .lf (.sl 8 [.int .i64]), .lf (.int .i64)] gs → ∃ M, FS Try.prog 5 gs [] (.lit (.bool true)) M := by
  intro gs hR
  simp only [RdAs, RdA, Rd] at hR
  obtain ⟨g1, gs1, rfl, ⟨a, rfl, ha⟩, g2, gs2, rfl, ⟨xs, ex, rfl, hb, hb2, hxs⟩, g3, gs3, rfl, ⟨c, rfl, hc⟩, rfl⟩ := hR
  refine ⟨_, DiceRoll_fs (s := a) (h := c) (xs := xs) (ex := ex) fun x hx => ?_⟩
  have := hxs x (List.mem_append_left _ hx)
  simp only [RdL, Rd] at this
  obtain ⟨g, gs, rfl, ⟨v, rfl, hv⟩, rfl⟩ := this
  exact ⟨v, rfl, hv.2⟩

theorem diceRoll_own : ownKnob Try.prog.godebug = none := by kernel_rfl

set_option maxRecDepth 100000 in
theorem diceRoll_lifted (os : Os) (started : os.Started) (H : Type) (enc : TypeId × Value → H) :
    ReturnsInHanded {} Try.checked os 5 .any (Rows.diceRollSpec.pre6 enc Try.prog Try.f5 Rows.diceRollRow.domain false) (Rows.diceRollSpec.post enc Try.prog Try.f5 false true false false) :=
  lift (C := Try.checked) started diceRoll_own (by kernel_rfl) Try.func5
    (ChangeSpec.witness6 (enc := enc) (C := Try.checked) false ⟨#[], #[.int .u64 0, .slice none 0 0, .int .i64 0], []⟩ 8 (by kernel_rfl) (by kernel_rfl) (by kernel_rfl) (by kernel_rfl))
    (acs := [.lf (.int .u64), .lf (.sl 8 [.int .i64]), .lf (.int .i64)]) (by kernel_rfl) (by kernel_rfl) (by kernel_rfl) rfl (fun ds h => by
      match ds, h with
      | [d0, d1, d2], _ => rfl) (tb := 4) rfl Try.underlying4 diceRoll_run

theorem diceRoll_holds : Rows.DiceRollSaid :=
  OpenClaim.holds_of_wide 5 Try.f5 rfl rfl rfl rfl rfl rfl rfl ⟨rfl, rfl, rfl, rfl, rfl⟩ rfl rfl rfl rfl rfl (by kernel_rfl) Try.func5 (by kernel_rfl)
    (of_decide_eq_true (by kernel_rfl)) (by unfold Func.isWrapper; first | (rw [if_pos (by decide +kernel)]; kernel_rfl) | (rw [if_neg (by decide +kernel)]; exact ⟨rfl, rfl⟩))
    (fun os started H enc _ => diceRoll_lifted os started H enc)
#print axioms diceRoll_holds
end Go.Proofs.Ytignpnjifekndaa
