/-
  THE ROW OF CoverApart, PROVED: whatever the input the law returns true, and each argument reads behind the call as it read before.
  The walk (what the code reckons) is in the texts imported; here the law stands against the row.
-/
import Derived.Test.YtnnhmiokgpfmoaaCoverApart
import Derived.Test.YtnnhmiokgpfmoaaRows
import Derived.ProofKit
import Derived.Below
namespace Go.Proofs.Ytnnhmiokgpfmoaa
open Go.Gh
set_option linter.unusedVariables false

theorem coverApart_run : ∀ gs, RdAs [.st [.int .u32, .int .u32], .lf (.sl 8 [.int .u32, .int .u32])] gs → ∃ M, FS Try.prog 5 gs [] (.lit (.bool true)) M := by
  intro gs hR
  simp only [RdAs, RdA] at hR
  obtain ⟨g1, gs1, rfl, h1, g2, gs2, rfl, h2, rfl⟩ := hR
  obtain ⟨l1, rfl, h1⟩ := h1
  simp only [RdL, Rd] at h1 h2
  have r4 : ∀ {n : Int}, IntKind.u32.min ≤ n ∧ n ≤ IntKind.u32.max → 0 ≤ n ∧ n < 4294967296 := fun h => by
    have e1 : IntKind.u32.min = 0 := by decide
    have e2 : IntKind.u32.max = 4294967295 := by decide
    omega
  have r8 : ∀ {n : Int}, IntKind.u64.min ≤ n ∧ n ≤ IntKind.u64.max → 0 ≤ n ∧ n < 18446744073709551616 := fun h => by
    have e1 : IntKind.u64.min = 0 := by decide
    have e2 : IntKind.u64.max = 18446744073709551615 := by decide
    omega
  have r1 : ∀ {n : Int}, IntKind.u8.min ≤ n ∧ n ≤ IntKind.u8.max → 0 ≤ n ∧ n < 256 := fun h => by
    have e1 : IntKind.u8.min = 0 := by decide
    have e2 : IntKind.u8.max = 255 := by decide
    omega
  obtain ⟨_, _, rfl, ⟨s1, rfl, q1⟩, _, _, rfl, ⟨s2, rfl, q1b⟩, rfl⟩ := h1
  obtain ⟨xs2, ex2, rfl, hb2, _, h2⟩ := h2
  obtain ⟨l, rfl, q2⟩ := exMap (enc := spc) (p := fun s => (0 ≤ s.1 ∧ s.1 < 4294967296) ∧ (0 ≤ s.2 ∧ s.2 < 4294967296)) (xs := xs2) fun x hx => by
    have := h2 x (List.mem_append_left _ hx)
    obtain ⟨_, _, rfl, ⟨a, rfl, ha⟩, _, _, rfl, ⟨b, rfl, hb⟩, rfl⟩ := this
    exact ⟨(a, b), rfl, r4 ha, r4 hb⟩
  exact ⟨_, CoverApart_fs (r4 q1) (r4 q1b) q2⟩

theorem coverApart_own : ownKnob Try.prog.godebug = none := by kernel_rfl

set_option maxRecDepth 100000 in
theorem coverApart_lifted (os : Os) (started : os.Started) (H : Type) (enc : TypeId × Value → H) :
    ReturnsInHanded {} Try.checked os 5 .any (Rows.coverApartSpec.pre6 enc Try.prog Try.f5 Rows.coverApartRow.domain false) (Rows.coverApartSpec.post enc Try.prog Try.f5 false true false false) :=
  lift (C := Try.checked) started coverApart_own (by kernel_rfl) Try.func5
    (ChangeSpec.witness6 (enc := enc) (C := Try.checked) false ⟨#[], #[.agg #[.int .u32 0, .int .u32 0], .slice none 0 0], []⟩ 8 (by kernel_rfl) (by kernel_rfl) (by kernel_rfl) (by kernel_rfl))
    (acs := [.st [.int .u32, .int .u32], .lf (.sl 8 [.int .u32, .int .u32])]) (by kernel_rfl) (by kernel_rfl) (by kernel_rfl) rfl (fun ds h => by
      match ds, h with
      | [d0, d1], _ => rfl) (tb := 4) rfl Try.underlying4 coverApart_run

theorem coverApart_holds : Rows.CoverApartSaid :=
  OpenClaim.holds_of_wide 5 Try.f5 rfl rfl rfl rfl rfl rfl rfl ⟨rfl, rfl, rfl, rfl, rfl⟩ rfl rfl rfl rfl rfl (by kernel_rfl) Try.func5 (by kernel_rfl)
    (of_decide_eq_true (by kernel_rfl)) (by unfold Func.isWrapper; first | (rw [if_pos (by decide +kernel)]; kernel_rfl) | (rw [if_neg (by decide +kernel)]; exact ⟨rfl, rfl⟩))
    (fun os started H enc _ => coverApart_lifted os started H enc)
#print axioms coverApart_holds
end Go.Proofs.Ytnnhmiokgpfmoaa
