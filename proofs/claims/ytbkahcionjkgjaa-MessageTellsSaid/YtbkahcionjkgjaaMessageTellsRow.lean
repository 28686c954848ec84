/-
  THE ROW OF MessageTells, PROVED: whatever the input the law returns true, and each argument reads behind the call as it read before.
  The walk (what the code reckons) is in the texts imported; here the law stands against the row.
-/
import Derived.Test.YtbkahcionjkgjaaMsgTells
import Derived.Test.YtbkahcionjkgjaaRows
import Derived.ProofKit
import Derived.Below
namespace Go.Proofs.Ytbkahcionjkgjaa
open Go.Gh
set_option linter.unusedVariables false

theorem messageTells_run : ∀ gs, RdAs [.lf (.int .i64), .st [.int .i64, .int .i64, .int .u32, .int .i64, .int .i64, .int .u32, .int .i64, .int .u32, .int .i64, .int .u32, .int .u64, .int .u64, .sl 4 [.int .u32], .bool, .int .u32, .int .u32, .sl 16 [.int .i64, .int .u32, .int .u32], .sl 40 [.int .u64, .int .u64, .sl 4 [.int .u32]]], .lf (.sl 1 [.int .u8])] gs → ∃ M, FS Try.prog 3 gs [] (.lit (.bool true)) M := by
  intro gs hR
  simp only [RdAs, RdA] at hR
  obtain ⟨g1, gs1, rfl, h1, g2, gs2, rfl, h2, g3, gs3, rfl, h3, rfl⟩ := hR
  obtain ⟨l2, rfl, h2⟩ := h2
  simp only [RdL, Rd] at h1 h2 h3
  have r4 : ∀ {n : Int}, IntKind.u32.min ≤ n ∧ n ≤ IntKind.u32.max → 0 ≤ n ∧ n < 4294967296 := fun h => by
    have e1 : IntKind.u32.min = 0 := by decide
    have e2 : IntKind.u32.max = 4294967295 := by decide
    omega
  have r8 : ∀ {n : Int}, IntKind.u64.min ≤ n ∧ n ≤ IntKind.u64.max → 0 ≤ n ∧ n < 18446744073709551616 := fun h => by
    have e1 : IntKind.u64.min = 0 := by decide
    have e2 : IntKind.u64.max = 18446744073709551615 := by decide
    omega
  have r1 : ∀ {n : Int}, IntKind.u8.min ≤ n ∧ n ≤ IntKind.u8.max → 0 ≤ n ∧ n < 256 := fun h => by
    have e1 : IntKind.u8.min = 0 := by decide
    have e2 : IntKind.u8.max = 255 := by decide
    omega
  obtain ⟨n, rfl, q1⟩ := h1
  obtain ⟨_, _, rfl, ⟨mk, rfl, _⟩, _, _, rfl, ⟨mh, rfl, _⟩, _, _, rfl, ⟨mp, rfl, mp_⟩, _, _, rfl, ⟨mc, rfl, _⟩, _, _, rfl, ⟨mo, rfl, _⟩, _, _, rfl, ⟨mt, rfl, mt_⟩, _, _, rfl, ⟨mn, rfl, _⟩, _, _, rfl, ⟨mw, rfl, mw_⟩, _, _, rfl, ⟨mu, rfl, _⟩, _, _, rfl, ⟨mv, rfl, mv_⟩, _, _, rfl, ⟨mi, rfl, mi_⟩, _, _, rfl, ⟨mr, rfl, mr_⟩, _, _, rfl, ⟨mxv, mev, rfl, _, _, mhv⟩, _, _, rfl, ⟨mg, rfl⟩, _, _, rfl, ⟨msf, rfl, msf_⟩, _, _, rfl, ⟨mst, rfl, mst_⟩, _, _, rfl, ⟨mxb, meb, rfl, _, _, mhb⟩, _, _, rfl, ⟨mxr, mer, rfl, _, mmr, mhr⟩, rfl⟩ := h2
  obtain ⟨mvs, rfl, mqv⟩ := exMap (enc := uuG) (p := u32r) (xs := mxv) fun x hx => by
    have := mhv x (List.mem_append_left _ hx)
    obtain ⟨_, _, rfl, ⟨a, rfl, ha⟩, rfl⟩ := this
    exact ⟨a, rfl, r4 ha⟩
  obtain ⟨mbx, rfl, mqb⟩ := exMap (enc := rgc) (p := rgok) (xs := mxb) fun x hx => by
    have := mhb x (List.mem_append_left _ hx)
    obtain ⟨_, _, rfl, ⟨a, rfl, _⟩, _, _, rfl, ⟨b, rfl, hb⟩, _, _, rfl, ⟨c, rfl, hc⟩, rfl⟩ := this
    exact ⟨(a, b, c), rfl, r4 hb, r4 hc⟩
  obtain ⟨mrc, rfl, mqr⟩ := exMap (enc := rcG) (p := RcW) (xs := mxr) fun x hx => by
    have := mhr x (List.mem_append_left _ hx)
    obtain ⟨_, _, rfl, ⟨a, rfl, ha⟩, _, _, rfl, ⟨b, rfl, hb⟩, _, _, rfl, ⟨ys, ey, rfl, _, _, hy⟩, rfl⟩ := this
    obtain ⟨k, rfl, qk⟩ := exMap (enc := uuG) (p := u32r) (xs := ys) fun x hx => by
      have := hy x (List.mem_append_left _ hx)
      obtain ⟨_, _, rfl, ⟨a, rfl, ha⟩, rfl⟩ := this
      exact ⟨a, rfl, r4 ha⟩
    exact ⟨⟨a, b, k, ey⟩, rfl, r8 ha, r8 hb, qk⟩
  have mW : MsgW ⟨mk, mh, mp, mc, mo, mt, mn, mw, mu, mv, ⟨mi, mr, mvs, mev⟩, mg, msf, mst, mbx, meb, mrc, mer⟩ := by
    have hx : maxLen = 9223372036854775807 := by decide
    rw [List.length_map] at mmr
    exact ⟨r4 mp_, r4 mt_, r4 mw_, r4 mv_, ⟨r8 mi_, r8 mr_, mqv⟩, r4 msf_, r4 mst_, mqb, mqr, by show mrc.length ≤ _; omega⟩
  obtain ⟨xs3, ex3, rfl, hb3, _, h3⟩ := h3
  obtain ⟨b, rfl, q3⟩ := exMap (enc := bG) (p := fun c => 0 ≤ c ∧ c < 256) (xs := xs3) fun x hx => by
    have := h3 x (List.mem_append_left _ hx)
    obtain ⟨_, _, rfl, ⟨a, rfl, ha⟩, rfl⟩ := this
    exact ⟨a, rfl, r1 ha⟩
  exact ⟨_, MessageTells_fs mW q3⟩

theorem messageTells_own : ownKnob Try.prog.godebug = none := by kernel_rfl

set_option maxRecDepth 100000 in
theorem messageTells_lifted (os : Os) (started : os.Started) (H : Type) (enc : TypeId × Value → H) :
    ReturnsInHanded {} Try.checked os 3 .any (Rows.messageTellsSpec.pre6 enc Try.prog Try.f3 Rows.messageTellsRow.domain false) (Rows.messageTellsSpec.post enc Try.prog Try.f3 false true false false) :=
  lift (C := Try.checked) started messageTells_own (by kernel_rfl) Try.func3
    (ChangeSpec.witness6 (enc := enc) (C := Try.checked) false ⟨#[], #[.int .i64 0, .agg #[.int .i64 0, .int .i64 0, .int .u32 0, .int .i64 0, .int .i64 0, .int .u32 0, .int .i64 0, .int .u32 0, .int .i64 0, .int .u32 0, .int .u64 0, .int .u64 0, .slice none 0 0, .bool false, .int .u32 0, .int .u32 0, .slice none 0 0, .slice none 0 0], .slice none 0 0], []⟩ 8 (by kernel_rfl) (by kernel_rfl) (by kernel_rfl) (by kernel_rfl))
    (acs := [.lf (.int .i64), .st [.int .i64, .int .i64, .int .u32, .int .i64, .int .i64, .int .u32, .int .i64, .int .u32, .int .i64, .int .u32, .int .u64, .int .u64, .sl 4 [.int .u32], .bool, .int .u32, .int .u32, .sl 16 [.int .i64, .int .u32, .int .u32], .sl 40 [.int .u64, .int .u64, .sl 4 [.int .u32]]], .lf (.sl 1 [.int .u8])]) (by kernel_rfl) (by kernel_rfl) (by kernel_rfl) rfl (fun ds h => by
      match ds, h with
      | [d0, d1, d2], _ => rfl) (tb := 4) rfl Try.underlying4 messageTells_run

theorem messageTells_holds : Rows.MessageTellsSaid :=
  OpenClaim.holds_of_wide 3 Try.f3 rfl rfl rfl rfl rfl rfl rfl ⟨rfl, rfl, rfl, rfl, rfl⟩ rfl rfl rfl rfl rfl (by kernel_rfl) Try.func3 (by kernel_rfl)
    (of_decide_eq_true (by kernel_rfl)) (by unfold Func.isWrapper; first | (rw [if_pos (by decide +kernel)]; kernel_rfl) | (rw [if_neg (by decide +kernel)]; exact ⟨rfl, rfl⟩))
    (fun os started H enc _ => messageTells_lifted os started H enc)
#print axioms messageTells_holds
end Go.Proofs.Ytbkahcionjkgjaa
