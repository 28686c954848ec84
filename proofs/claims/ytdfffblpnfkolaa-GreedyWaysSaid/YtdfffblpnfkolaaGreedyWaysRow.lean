/-
  THE ROW OF GreedyWays, PROVED: whatever the input the law returns true, and each argument reads behind the call as it read before.
  The walk (what the code reckons) is in the texts imported; here the law stands against the row.
-/
import Derived.Test.YtdfffblpnfkolaaGreedyWays
import Derived.Test.YtdfffblpnfkolaaRows
import Derived.ProofKit
import Derived.Below
namespace Go.Proofs.Ytdfffblpnfkolaa
open Go.Gh
set_option linter.unusedVariables false

theorem greedyWays_run : ∀ gs, RdAs [.lf (.sl 4 [.int .u32]), .lf (.sl 24 [.sl 4 [.int .u32]]), .lf (.int .i64), .lf (.int .u32)] gs → ∃ M, FS Try.prog 3 gs [] (.lit (.bool true)) M := by
  intro gs hR
  simp only [RdAs, RdA] at hR
  obtain ⟨g1, gs1, rfl, h1, g2, gs2, rfl, h2, g3, gs3, rfl, h3, g4, gs4, rfl, h4, rfl⟩ := hR
  simp only [RdL, Rd] at h1 h2 h3 h4
  have r4 : ∀ {n : Int}, IntKind.u32.min ≤ n ∧ n ≤ IntKind.u32.max → 0 ≤ n ∧ n < 4294967296 := fun h => by
    have e1 : IntKind.u32.min = 0 := by decide
    have e2 : IntKind.u32.max = 4294967295 := by decide
    omega
  have r8 : ∀ {n : Int}, IntKind.u64.min ≤ n ∧ n ≤ IntKind.u64.max → 0 ≤ n ∧ n < 18446744073709551616 := fun h => by
    have e1 : IntKind.u64.min = 0 := by decide
    have e2 : IntKind.u64.max = 18446744073709551615 := by decide
    omega
  have r1 : ∀ {n : Int}, IntKind.u8.min ≤ n ∧ n ≤ IntKind.u8.max → 0 ≤ n ∧ n < 256 := fun h => by
    have e1 : IntKind.u8.min = 0 := by decide
    have e2 : IntKind.u8.max = 255 := by decide
    omega
  obtain ⟨xs1, ex1, rfl, hb1, _, h1⟩ := h1
  obtain ⟨l, rfl, q1⟩ := exMap (enc := uuG) (p := fun n => 0 ≤ n ∧ n < 4294967296) (xs := xs1) fun x hx => by
    have := h1 x (List.mem_append_left _ hx)
    obtain ⟨_, _, rfl, ⟨a, rfl, ha⟩, rfl⟩ := this
    exact ⟨a, rfl, r4 ha⟩
  obtain ⟨xs2, ex2, rfl, hb2, _, h2⟩ := h2
  obtain ⟨ks, rfl, q2⟩ := exMap (enc := lnG) (p := fun _ => True) (xs := xs2) fun x hx => by
    have := h2 x (List.mem_append_left _ hx)
    obtain ⟨_, _, rfl, ⟨ys, ey, rfl, _, _, hy⟩, rfl⟩ := this
    obtain ⟨k, rfl, _⟩ := exMap (enc := uuG) (p := fun n => 0 ≤ n ∧ n < 4294967296) (xs := ys) fun x hx => by
      have := hy x (List.mem_append_left _ hx)
      obtain ⟨_, _, rfl, ⟨a, rfl, ha⟩, rfl⟩ := this
      exact ⟨a, rfl, r4 ha⟩
    exact ⟨(k, ey), rfl, trivial⟩
  obtain ⟨a, rfl, q3⟩ := h3
  obtain ⟨v, rfl, q4⟩ := h4
  exact ⟨_, GreedyWays_fs q1 (r4 q4)⟩

theorem greedyWays_own : ownKnob Try.prog.godebug = none := by kernel_rfl

set_option maxRecDepth 100000 in
theorem greedyWays_lifted (os : Os) (started : os.Started) (H : Type) (enc : TypeId × Value → H) :
    ReturnsInHanded {} Try.checked os 3 .any (Rows.greedyWaysSpec.pre6 enc Try.prog Try.f3 Rows.greedyWaysRow.domain false) (Rows.greedyWaysSpec.post enc Try.prog Try.f3 false true false false) :=
  lift (C := Try.checked) started greedyWays_own (by kernel_rfl) Try.func3
    (ChangeSpec.witness6 (enc := enc) (C := Try.checked) false ⟨#[], #[.slice none 0 0, .slice none 0 0, .int .i64 0, .int .u32 0], []⟩ 8 (by kernel_rfl) (by kernel_rfl) (by kernel_rfl) (by kernel_rfl))
    (acs := [.lf (.sl 4 [.int .u32]), .lf (.sl 24 [.sl 4 [.int .u32]]), .lf (.int .i64), .lf (.int .u32)]) (by kernel_rfl) (by kernel_rfl) (by kernel_rfl) rfl (fun ds h => by
      match ds, h with
      | [d0, d1, d2, d3], _ => rfl) (tb := 4) rfl Try.underlying4 greedyWays_run

theorem greedyWays_holds : Rows.GreedyWaysSaid :=
  OpenClaim.holds_of_wide 3 Try.f3 rfl rfl rfl rfl rfl rfl rfl ⟨rfl, rfl, rfl, rfl, rfl⟩ rfl rfl rfl rfl rfl (by kernel_rfl) Try.func3 (by kernel_rfl)
    (of_decide_eq_true (by kernel_rfl)) (by unfold Func.isWrapper; first | (rw [if_pos (by decide +kernel)]; kernel_rfl) | (rw [if_neg (by decide +kernel)]; exact ⟨rfl, rfl⟩))
    (fun os started H enc _ => greedyWays_lifted os started H enc)
#print axioms greedyWays_holds
end Go.Proofs.Ytdfffblpnfkolaa
