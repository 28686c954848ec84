/-
  THE ROW OF CoverOrder, PROVED: whatever the input the law returns true, and each argument reads behind the call as it read before.
  The walk (what the code reckons) is in the texts imported; here the law stands against the row.
-/
import Derived.Test.YtnnhmiokgpfmoaaCoverOrder
import Derived.Test.YtnnhmiokgpfmoaaRows
import Derived.ProofKit
import Derived.Below
namespace Go.Proofs.Ytnnhmiokgpfmoaa
open Go.Gh
set_option linter.unusedVariables false

theorem coverOrder_run : ∀ gs, RdAs [.st [.int .u32, .int .u32], .lf (.sl 8 [.int .u32, .int .u32]), .lf (.sl 8 [.int .i64])] gs → ∃ M, FS Try.prog 3 gs [] (.lit (.bool true)) M := by
  intro gs hR
  simp only [RdAs, RdA] at hR
  obtain ⟨g1, gs1, rfl, h1, g2, gs2, rfl, h2, g3, gs3, rfl, h3, rfl⟩ := hR
  obtain ⟨l1, rfl, h1⟩ := h1
  simp only [RdL, Rd] at h1 h2 h3
  have r4 : ∀ {n : Int}, IntKind.u32.min ≤ n ∧ n ≤ IntKind.u32.max → 0 ≤ n ∧ n < 4294967296 := fun h => by
    have e1 : IntKind.u32.min = 0 := by decide
    have e2 : IntKind.u32.max = 4294967295 := by decide
    omega
  have r8 : ∀ {n : Int}, IntKind.u64.min ≤ n ∧ n ≤ IntKind.u64.max → 0 ≤ n ∧ n < 18446744073709551616 := fun h => by
    have e1 : IntKind.u64.min = 0 := by decide
    have e2 : IntKind.u64.max = 18446744073709551615 := by decide
    omega
  have r1 : ∀ {n : Int}, IntKind.u8.min ≤ n ∧ n ≤ IntKind.u8.max → 0 ≤ n ∧ n < 256 := fun h => by
    have e1 : IntKind.u8.min = 0 := by decide
    have e2 : IntKind.u8.max = 255 := by decide
    omega
  obtain ⟨_, _, rfl, ⟨s1, rfl, q1⟩, _, _, rfl, ⟨s2, rfl, q1b⟩, rfl⟩ := h1
  obtain ⟨xs2, ex2, rfl, hb2, _, h2⟩ := h2
  obtain ⟨l, rfl, q2⟩ := exMap (enc := spc) (p := fun s => (0 ≤ s.1 ∧ s.1 < 4294967296) ∧ (0 ≤ s.2 ∧ s.2 < 4294967296)) (xs := xs2) fun x hx => by
    have := h2 x (List.mem_append_left _ hx)
    obtain ⟨_, _, rfl, ⟨a, rfl, ha⟩, _, _, rfl, ⟨b, rfl, hb⟩, rfl⟩ := this
    exact ⟨(a, b), rfl, r4 ha, r4 hb⟩
  obtain ⟨xs3, ex3, rfl, hb3, _, h3⟩ := h3
  obtain ⟨ts, rfl, q3⟩ := exMap (enc := iiG) (p := fun _ => True) (xs := xs3) fun x hx => by
    have := h3 x (List.mem_append_left _ hx)
    obtain ⟨_, _, rfl, ⟨a, rfl, ha⟩, rfl⟩ := this
    exact ⟨a, rfl, trivial⟩
  exact ⟨_, CoverOrder_fs (r4 q1) (r4 q1b) q2⟩

theorem coverOrder_own : ownKnob Try.prog.godebug = none := by kernel_rfl

set_option maxRecDepth 100000 in
theorem coverOrder_lifted (os : Os) (started : os.Started) (H : Type) (enc : TypeId × Value → H) :
    ReturnsInHanded {} Try.checked os 3 .any (Rows.coverOrderSpec.pre6 enc Try.prog Try.f3 Rows.coverOrderRow.domain false) (Rows.coverOrderSpec.post enc Try.prog Try.f3 false true false false) :=
  lift (C := Try.checked) started coverOrder_own (by kernel_rfl) Try.func3
    (ChangeSpec.witness6 (enc := enc) (C := Try.checked) false ⟨#[], #[.agg #[.int .u32 0, .int .u32 0], .slice none 0 0, .slice none 0 0], []⟩ 8 (by kernel_rfl) (by kernel_rfl) (by kernel_rfl) (by kernel_rfl))
    (acs := [.st [.int .u32, .int .u32], .lf (.sl 8 [.int .u32, .int .u32]), .lf (.sl 8 [.int .i64])]) (by kernel_rfl) (by kernel_rfl) (by kernel_rfl) rfl (fun ds h => by
      match ds, h with
      | [d0, d1, d2], _ => rfl) (tb := 4) rfl Try.underlying4 coverOrder_run

theorem coverOrder_holds : Rows.CoverOrderSaid :=
  OpenClaim.holds_of_wide 3 Try.f3 rfl rfl rfl rfl rfl rfl rfl ⟨rfl, rfl, rfl, rfl, rfl⟩ rfl rfl rfl rfl rfl (by kernel_rfl) Try.func3 (by kernel_rfl)
    (of_decide_eq_true (by kernel_rfl)) (by unfold Func.isWrapper; first | (rw [if_pos (by decide +kernel)]; kernel_rfl) | (rw [if_neg (by decide +kernel)]; exact ⟨rfl, rfl⟩))
    (fun os started H enc _ => coverOrder_lifted os started H enc)
#print axioms coverOrder_holds
end Go.Proofs.Ytnnhmiokgpfmoaa
