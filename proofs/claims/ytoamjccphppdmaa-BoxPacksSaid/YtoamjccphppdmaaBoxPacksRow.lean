/-
  THE ROW OF BoxPacks, PROVED: whatever the input the law returns true, and each argument reads behind the call as it read before.
  The walk (what the code reckons) is in the texts imported; here the law stands against the row.
-/
import Derived.Test.YtoamjccphppdmaaBoxPacks
import Derived.Test.YtoamjccphppdmaaRows
import Derived.ProofKit
import Derived.Below
namespace Go.Proofs.Ytoamjccphppdmaa
open Go.Gh
set_option linter.unusedVariables false

theorem boxPacks_run : ∀ gs, RdAs [.lf (.sl 16 [.int .i64, .int .u32, .int .u32]), .lf (.sl 16 [.int .i64, .int .u32, .int .u32]), .lf (.sl 4 [.int .u32])] gs → ∃ M, FS Try.prog 12 gs [] (.lit (.bool true)) M := by
  intro gs hR
  simp only [RdAs, RdA] at hR
  obtain ⟨g1, gs1, rfl, h1, g2, gs2, rfl, h2, g3, gs3, rfl, h3, rfl⟩ := hR
  simp only [RdL, Rd] at h1 h2 h3
  obtain ⟨xs, e1, rfl, _, _, h1⟩ := h1
  obtain ⟨ys, e2, rfl, _, _, h2⟩ := h2
  obtain ⟨zs, e3, rfl, _, _, h3⟩ := h3
  have r : ∀ {n : Int}, IntKind.u32.min ≤ n ∧ n ≤ IntKind.u32.max → u32r n := fun h => by
    have e1 : IntKind.u32.min = 0 := by decide
    have e2 : IntKind.u32.max = 4294967295 := by decide
    unfold u32r; omega
  obtain ⟨a, rfl, ha⟩ := exMap (enc := rgc) (p := rgok) (xs := xs) fun x hx => by
    have := h1 x (List.mem_append_left _ hx)
    obtain ⟨_, _, rfl, ⟨a, rfl, _⟩, _, _, rfl, ⟨b, rfl, hb⟩, _, _, rfl, ⟨c, rfl, hc⟩, rfl⟩ := this
    exact ⟨(a, b, c), rfl, r hb, r hc⟩
  obtain ⟨b, rfl, hb⟩ := exMap (enc := rgc) (p := rgok) (xs := ys) fun x hx => by
    have := h2 x (List.mem_append_left _ hx)
    obtain ⟨_, _, rfl, ⟨a, rfl, _⟩, _, _, rfl, ⟨b, rfl, hb⟩, _, _, rfl, ⟨c, rfl, hc⟩, rfl⟩ := this
    exact ⟨(a, b, c), rfl, r hb, r hc⟩
  obtain ⟨vs, rfl, _⟩ := exMap (enc := uG) (p := fun _ => True) (xs := zs) fun x hx => by
    have := h3 x (List.mem_append_left _ hx)
    obtain ⟨_, _, rfl, ⟨a, rfl, ha⟩, rfl⟩ := this
    exact ⟨a, rfl, trivial⟩
  exact ⟨_, BoxPacks_fs ha hb⟩

theorem boxPacks_own : ownKnob Try.prog.godebug = none := by kernel_rfl

set_option maxRecDepth 100000 in
theorem boxPacks_lifted (os : Os) (started : os.Started) (H : Type) (enc : TypeId × Value → H) :
    ReturnsInHanded {} Try.checked os 12 .any (Rows.boxPacksSpec.pre6 enc Try.prog Try.f12 Rows.boxPacksRow.domain false) (Rows.boxPacksSpec.post enc Try.prog Try.f12 false true false false) :=
  lift (C := Try.checked) started boxPacks_own (by kernel_rfl) Try.func12
    (ChangeSpec.witness6 (enc := enc) (C := Try.checked) false ⟨#[], #[.slice none 0 0, .slice none 0 0, .slice none 0 0], []⟩ 8 (by kernel_rfl) (by kernel_rfl) (by kernel_rfl) (by kernel_rfl))
    (acs := [.lf (.sl 16 [.int .i64, .int .u32, .int .u32]), .lf (.sl 16 [.int .i64, .int .u32, .int .u32]), .lf (.sl 4 [.int .u32])]) (by kernel_rfl) (by kernel_rfl) (by kernel_rfl) rfl (fun ds h => by
      match ds, h with
      | [d0, d1, d2], _ => rfl) (tb := 4) rfl Try.underlying4 boxPacks_run

theorem boxPacks_holds : Rows.BoxPacksSaid :=
  OpenClaim.holds_of_wide 12 Try.f12 rfl rfl rfl rfl rfl rfl rfl ⟨rfl, rfl, rfl, rfl, rfl⟩ rfl rfl rfl rfl rfl (by kernel_rfl) Try.func12 (by kernel_rfl)
    (of_decide_eq_true (by kernel_rfl)) (by unfold Func.isWrapper; first | (rw [if_pos (by decide +kernel)]; kernel_rfl) | (rw [if_neg (by decide +kernel)]; exact ⟨rfl, rfl⟩))
    (fun os started H enc _ => boxPacks_lifted os started H enc)
#print axioms boxPacks_holds
end Go.Proofs.Ytoamjccphppdmaa
