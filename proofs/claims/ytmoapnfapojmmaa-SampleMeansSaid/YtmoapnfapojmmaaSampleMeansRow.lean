/-
  THE ROW OF SampleMeans, PROVED: whatever the input the law returns true, and each argument reads behind the call as it read before.
  The walk (what the code reckons) is in the texts imported; here the law stands against the row.
-/
import Derived.Test.YtmoapnfapojmmaaSampleMeans
import Derived.Test.YtmoapnfapojmmaaRows
import Derived.ProofKit
import Derived.Below
namespace Go.Proofs.Ytmoapnfapojmmaa
open Go.Gh
set_option linter.unusedVariables false

theorem sampleMeans_run : ∀ gs, RdAs [.lf (.sl 16 [.int .u32, .int .i64]), .lf (.int .i64)] gs → ∃ M, FS Try.prog 6 gs [] (.lit (.bool true)) M := by
  intro gs hR
  simp only [RdAs, RdA] at hR
  obtain ⟨g1, gs1, rfl, h1, g2, gs2, rfl, h2, rfl⟩ := hR
  simp only [RdL, Rd] at h1 h2
  have r4 : ∀ {n : Int}, IntKind.u32.min ≤ n ∧ n ≤ IntKind.u32.max → 0 ≤ n ∧ n < 4294967296 := fun h => by
    have e1 : IntKind.u32.min = 0 := by decide
    have e2 : IntKind.u32.max = 4294967295 := by decide
    omega
  have r8 : ∀ {n : Int}, IntKind.u64.min ≤ n ∧ n ≤ IntKind.u64.max → 0 ≤ n ∧ n < 18446744073709551616 := fun h => by
    have e1 : IntKind.u64.min = 0 := by decide
    have e2 : IntKind.u64.max = 18446744073709551615 := by decide
    omega
  have r1 : ∀ {n : Int}, IntKind.u8.min ≤ n ∧ n ≤ IntKind.u8.max → 0 ≤ n ∧ n < 256 := fun h => by
    have e1 : IntKind.u8.min = 0 := by decide
    have e2 : IntKind.u8.max = 255 := by decide
    omega
  obtain ⟨xs1, ex1, rfl, hb1, _, h1⟩ := h1
  obtain ⟨l, rfl, q1⟩ := exMap (enc := ldG) (p := fun _ => True) (xs := xs1) fun x hx => by
    have := h1 x (List.mem_append_left _ hx)
    obtain ⟨_, _, rfl, ⟨a, rfl, ha⟩, _, _, rfl, ⟨b, rfl, hb⟩, rfl⟩ := this
    exact ⟨(a, b), rfl, trivial⟩
  obtain ⟨n, rfl, q2⟩ := h2
  exact ⟨_, SampleMeans_fs⟩

theorem sampleMeans_own : ownKnob Try.prog.godebug = none := by kernel_rfl

set_option maxRecDepth 100000 in
theorem sampleMeans_lifted (os : Os) (started : os.Started) (H : Type) (enc : TypeId × Value → H) :
    ReturnsInHanded {} Try.checked os 6 .any (Rows.sampleMeansSpec.pre6 enc Try.prog Try.f6 Rows.sampleMeansRow.domain false) (Rows.sampleMeansSpec.post enc Try.prog Try.f6 false true false false) :=
  lift (C := Try.checked) started sampleMeans_own (by kernel_rfl) Try.func6
    (ChangeSpec.witness6 (enc := enc) (C := Try.checked) false ⟨#[], #[.slice none 0 0, .int .i64 0], []⟩ 8 (by kernel_rfl) (by kernel_rfl) (by kernel_rfl) (by kernel_rfl))
    (acs := [.lf (.sl 16 [.int .u32, .int .i64]), .lf (.int .i64)]) (by kernel_rfl) (by kernel_rfl) (by kernel_rfl) rfl (fun ds h => by
      match ds, h with
      | [d0, d1], _ => rfl) (tb := 4) rfl Try.underlying4 sampleMeans_run

theorem sampleMeans_holds : Rows.SampleMeansSaid :=
  OpenClaim.holds_of_wide 6 Try.f6 rfl rfl rfl rfl rfl rfl rfl ⟨rfl, rfl, rfl, rfl, rfl⟩ rfl rfl rfl rfl rfl (by kernel_rfl) Try.func6 (by kernel_rfl)
    (of_decide_eq_true (by kernel_rfl)) (by unfold Func.isWrapper; first | (rw [if_pos (by decide +kernel)]; kernel_rfl) | (rw [if_neg (by decide +kernel)]; exact ⟨rfl, rfl⟩))
    (fun os started H enc _ => sampleMeans_lifted os started H enc)
#print axioms sampleMeans_holds
end Go.Proofs.Ytmoapnfapojmmaa
