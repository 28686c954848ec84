/-
  THE ROW OF OctetWrites, PROVED: whatever the input the law returns true, and each argument reads behind the call as it read before.
  The walk (what the code reckons) is in the texts imported; here the law stands against the row.
-/
import Derived.Test.YtoamjccphppdmaaOctetWrites
import Derived.Test.YtoamjccphppdmaaRows
import Derived.ProofKit
import Derived.Below
namespace Go.Proofs.Ytoamjccphppdmaa
open Go.Gh
set_option linter.unusedVariables false

theorem octetWrites_run : ∀ gs, RdAs [.lf (.sl 48 [.bool, .int .u64, .int .i64, .sl 1 [.int .u8]])] gs → ∃ M, FS Try.prog 9 gs [] (.lit (.bool true)) M := by
  intro gs hR
  simp only [RdAs, RdA, Rd] at hR
  obtain ⟨g1, gs1, rfl, ⟨xs, e1, rfl, hb, _, h1⟩, rfl⟩ := hR
  obtain ⟨l, rfl, hl⟩ := exMap (enc := itG) (p := Itm.ok) (xs := xs) fun x hx => by
    have := h1 x (List.mem_append_left _ hx)
    simp only [RdL, Rd] at this
    obtain ⟨_, _, rfl, ⟨t, rfl⟩, _, _, rfl, ⟨v, rfl, hv⟩, _, _, rfl, ⟨n, rfl, _⟩, _, _, rfl, ⟨ys, ye, rfl, _, _, hy⟩, rfl⟩ := this
    obtain ⟨B, rfl, hB⟩ := exMap (enc := bG) (p := fun c => 0 ≤ c ∧ c < 256) (xs := ys) fun y hy' => by
      have := hy y (List.mem_append_left _ hy')
      obtain ⟨_, _, rfl, ⟨a, rfl, ha⟩, rfl⟩ := this
      have e1 : IntKind.u8.min = 0 := by decide
      have e2 : IntKind.u8.max = 255 := by decide
      exact ⟨a, rfl, by omega⟩
    have e1 : IntKind.u64.min = 0 := by decide
    have e2 : IntKind.u64.max = 18446744073709551615 := by decide
    exact ⟨⟨t, v, n, B, ye⟩, rfl, by show 0 ≤ v ∧ v < 18446744073709551616; omega, hB⟩
  refine ⟨_, OctetWrites_fs ?_ hl⟩
  have e : reachBytes ≤ 140737488355328 := by decide
  simp only [List.length_map] at hb
  omega

theorem octetWrites_own : ownKnob Try.prog.godebug = none := by kernel_rfl

set_option maxRecDepth 100000 in
theorem octetWrites_lifted (os : Os) (started : os.Started) (H : Type) (enc : TypeId × Value → H) :
    ReturnsInHanded {} Try.checked os 9 .any (Rows.octetWritesSpec.pre6 enc Try.prog Try.f9 Rows.octetWritesRow.domain false) (Rows.octetWritesSpec.post enc Try.prog Try.f9 false true false false) :=
  lift (C := Try.checked) started octetWrites_own (by kernel_rfl) Try.func9
    (ChangeSpec.witness6 (enc := enc) (C := Try.checked) false ⟨#[], #[.slice none 0 0], []⟩ 8 (by kernel_rfl) (by kernel_rfl) (by kernel_rfl) (by kernel_rfl))
    (acs := [.lf (.sl 48 [.bool, .int .u64, .int .i64, .sl 1 [.int .u8]])]) (by kernel_rfl) (by kernel_rfl) (by kernel_rfl) rfl (fun ds h => by
      match ds, h with
      | [d0], _ => rfl) (tb := 4) rfl Try.underlying4 octetWrites_run

theorem octetWrites_holds : Rows.OctetWritesSaid :=
  OpenClaim.holds_of_wide 9 Try.f9 rfl rfl rfl rfl rfl rfl rfl ⟨rfl, rfl, rfl, rfl, rfl⟩ rfl rfl rfl rfl rfl (by kernel_rfl) Try.func9 (by kernel_rfl)
    (of_decide_eq_true (by kernel_rfl)) (by unfold Func.isWrapper; first | (rw [if_pos (by decide +kernel)]; kernel_rfl) | (rw [if_neg (by decide +kernel)]; exact ⟨rfl, rfl⟩))
    (fun os started H enc _ => octetWrites_lifted os started H enc)
#print axioms octetWrites_holds
end Go.Proofs.Ytoamjccphppdmaa
