/-
  THE ROW OF BoxTells, PROVED: whatever the input the law returns true, and each argument reads behind the call as it read before.
  The walk (what the code reckons) is in the texts imported; here the law stands against the row.
-/
import Derived.Test.YtoamjccphppdmaaBoxTells
import Derived.Test.YtoamjccphppdmaaRows
import Derived.ProofKit
import Derived.Below
namespace Go.Proofs.Ytoamjccphppdmaa
open Go.Gh
set_option linter.unusedVariables false

theorem boxTells_run : ∀ gs, RdAs [.lf (.int .i64), .lf (.sl 16 [.int .i64, .int .u32, .int .u32]), .lf (.sl 4 [.int .u32]), .st [.int .i64, .int .u32, .int .u32], .lf (.int .u32)] gs → ∃ M, FS Try.prog 13 gs [] (.lit (.bool true)) M := by
  intro gs hR
  simp only [RdAs, RdA] at hR
  obtain ⟨g1, gs1, rfl, h1, g2, gs2, rfl, h2, g3, gs3, rfl, h3, g4, gs4, rfl, ⟨l4, rfl, h4⟩, g5, gs5, rfl, h5, rfl⟩ := hR
  simp only [RdL, Rd] at h1 h2 h3 h4 h5
  obtain ⟨attrs, rfl, _⟩ := h1
  obtain ⟨xs, e1, rfl, _, _, h2⟩ := h2
  obtain ⟨ys, e2, rfl, _, _, h3⟩ := h3
  obtain ⟨_, _, rfl, ⟨k, rfl, _⟩, _, _, rfl, ⟨lo, rfl, hlo⟩, _, _, rfl, ⟨hi, rfl, hhi⟩, rfl⟩ := h4
  obtain ⟨v, rfl, hv⟩ := h5
  have r : ∀ {n : Int}, IntKind.u32.min ≤ n ∧ n ≤ IntKind.u32.max → u32r n := fun h => by
    have e1 : IntKind.u32.min = 0 := by decide
    have e2 : IntKind.u32.max = 4294967295 := by decide
    unfold u32r; omega
  obtain ⟨b, rfl, hb⟩ := exMap (enc := rgc) (p := rgok) (xs := xs) fun x hx => by
    have := h2 x (List.mem_append_left _ hx)
    obtain ⟨_, _, rfl, ⟨a, rfl, _⟩, _, _, rfl, ⟨b, rfl, hb⟩, _, _, rfl, ⟨c, rfl, hc⟩, rfl⟩ := this
    exact ⟨(a, b, c), rfl, r hb, r hc⟩
  obtain ⟨vs, rfl, hvs⟩ := exMap (enc := uuG) (p := u32r) (xs := ys) fun x hx => by
    have := h3 x (List.mem_append_left _ hx)
    obtain ⟨_, _, rfl, ⟨a, rfl, ha⟩, rfl⟩ := this
    exact ⟨a, rfl, r ha⟩
  exact ⟨_, BoxTells_fs hb hvs (r hlo) (r hhi) (r hv)⟩

theorem boxTells_own : ownKnob Try.prog.godebug = none := by kernel_rfl

set_option maxRecDepth 100000 in
theorem boxTells_lifted (os : Os) (started : os.Started) (H : Type) (enc : TypeId × Value → H) :
    ReturnsInHanded {} Try.checked os 13 .any (Rows.boxTellsSpec.pre6 enc Try.prog Try.f13 Rows.boxTellsRow.domain false) (Rows.boxTellsSpec.post enc Try.prog Try.f13 false true false false) :=
  lift (C := Try.checked) started boxTells_own (by kernel_rfl) Try.func13
    (ChangeSpec.witness6 (enc := enc) (C := Try.checked) false ⟨#[], #[.int .i64 0, .slice none 0 0, .slice none 0 0, .agg #[.int .i64 0, .int .u32 0, .int .u32 0], .int .u32 0], []⟩ 8 (by kernel_rfl) (by kernel_rfl) (by kernel_rfl) (by kernel_rfl))
    (acs := [.lf (.int .i64), .lf (.sl 16 [.int .i64, .int .u32, .int .u32]), .lf (.sl 4 [.int .u32]), .st [.int .i64, .int .u32, .int .u32], .lf (.int .u32)]) (by kernel_rfl) (by kernel_rfl) (by kernel_rfl) rfl (fun ds h => by
      match ds, h with
      | [d0, d1, d2, d3, d4], _ => rfl) (tb := 4) rfl Try.underlying4 boxTells_run

theorem boxTells_holds : Rows.BoxTellsSaid :=
  OpenClaim.holds_of_wide 13 Try.f13 rfl rfl rfl rfl rfl rfl rfl ⟨rfl, rfl, rfl, rfl, rfl⟩ rfl rfl rfl rfl rfl (by kernel_rfl) Try.func13 (by kernel_rfl)
    (of_decide_eq_true (by kernel_rfl)) (by unfold Func.isWrapper; first | (rw [if_pos (by decide +kernel)]; kernel_rfl) | (rw [if_neg (by decide +kernel)]; exact ⟨rfl, rfl⟩))
    (fun os started H enc _ => boxTells_lifted os started H enc)
#print axioms boxTells_holds
end Go.Proofs.Ytoamjccphppdmaa
