import Derived.Test.YtignpnjifekndaaCircle

namespace Go.Gh
open Go.Proofs
set_option linter.unusedVariables false
set_option linter.unusedSimpArgs false

/-! CircleEnds. -/

theorem ends1 {a b : Int} (h1 : 0 ≤ a ∧ a < 4294967296) (h2 : 0 ≤ b ∧ b < 4294967296) : hasv a b b = true := by
  unfold hasv size far; split <;> simp <;> omega
theorem ends2 {a b : Int} (h1 : 0 ≤ a ∧ a < 4294967296) (h2 : 0 ≤ b ∧ b < 4294967296) : hasv a b (IntKind.u32.wrap (a + 1)) = true := by
  rw [wrap_u32]; unfold hasv size far; split <;> simp <;> omega
theorem ends3 {a b : Int} (h1 : 0 ≤ a ∧ a < 4294967296) (h2 : 0 ≤ b ∧ b < 4294967296) : (hasv a b a == (a == b)) = true := by
  unfold hasv size far
  split
  · simp_all; omega
  · rename_i h
    have h' : (a == b) = false := by simpa using h
    rw [h']; simp; omega
theorem ends4 {a b : Int} (h1 : 0 ≤ a ∧ a < 4294967296) (h2 : 0 ≤ b ∧ b < 4294967296) (h : (a == b) = false) (h' : (IntKind.u32.wrap (b + 1) == IntKind.u32.wrap (a + 1)) = false) : hasv a b (IntKind.u32.wrap (b + 1)) = false := by
  rw [wrap_u32, wrap_u32] at *; simp at h h'; unfold hasv size far; rw [if_neg h]; simp; omega
theorem ends5 {a b : Int} (h1 : 0 ≤ a ∧ a < 4294967296) (h2 : 0 ≤ b ∧ b < 4294967296) : ((size a b == 4294967296) == (a == b)) = true := by
  unfold size far
  split
  · simp_all
  · rename_i h
    have h' : (a == b) = false := by simpa using h
    rw [h']; simp; omega
theorem ends6 {a b : Int} (h1 : 0 ≤ a ∧ a < 4294967296) (h2 : 0 ≤ b ∧ b < 4294967296) : (IntKind.u64.wrap (far a b) == (size a b).tmod 4294967296) = true := by
  rw [wrap_u64]; unfold size far
  split
  · simp_all
  · rw [Int.tmod_eq_emod_of_nonneg (by omega)]; simp; omega

set_option maxHeartbeats 4000000 in
theorem CircleEnds_fs {a b : Int} (h1 : 0 ≤ a ∧ a < 4294967296) (h2 : 0 ≤ b ∧ b < 4294967296) : FS Try.prog 3 [spn a b] [] (.lit (.bool true)) [] := by
  have e1 := ends1 h1 h2
  have e2 := ends2 h1 h2
  have e3 := ends3 h1 h2
  have e5 := ends5 h1 h2
  have e6 := ends6 h1 h2
  refine FS.enter Try.func3 rfl fun R0 hR0 => ?_
  simp only [spn, Try.ntmps3, List.length_cons, List.length_nil, List.replicate_succ, List.replicate_zero, List.cons_append, List.nil_append, Nat.reduceAdd, Nat.reduceSub]
  cases hw : a == b
  · rw [hw] at e3 e5
    cases hv : IntKind.u32.wrap (b + 1) == IntKind.u32.wrap (a + 1)
    · have e4 := ends4 h1 h2 hw hv
      repeat ((first | refine TW.wt rfl rfl rfl ?_ | refine TW.sk rfl rfl rfl rfl rfl ?_ | refine TW.nil ?_ | refine TW.au tab rfl rfl rfl (by decide) rfl ?_ | refine TW.bl tab rfl rfl rfl rfl rfl (by decide) rfl rfl rfl rfl rfl rfl ?_ | refine TW.bd rfl rfl rfl rfl (by first | exact .inl ⟨rfl, rfl⟩ | exact .inr ⟨rfl, rfl⟩) (by decide) rfl ?_ | refine TW.sh rfl rfl rfl rfl (by first | exact .inl ⟨rfl, rfl⟩ | exact .inr ⟨rfl, rfl⟩) (by decide) rfl ?_ | refine TW.c0 tab rfl rfl rfl rfl rfl (awake1_fs ) rfl rfl rfl rfl ?_ | refine TW.c0 tab rfl rfl rfl rfl rfl (Middle_fs _ _) rfl rfl rfl rfl ?_ | refine TW.c0 tab rfl rfl rfl rfl rfl (Has_fs _ _ _) rfl rfl rfl rfl ?_ | refine TW.c0 tab rfl rfl rfl rfl rfl (Size_fs _ _) rfl rfl rfl rfl ?_ | refine TW.c0 tab rfl rfl rfl rfl rfl (Far_fs _ _) rfl rfl rfl rfl ?_ | refine CS.seq fun K hK => ?_ | refine CS.regl ?_ | refine CS.drawl tab ?_ | refine CS_ret ?_ | refine CS_skip ?_ | refine CS.blk ?_ | (refine hK _ _ ?_; clear hK K) | refine ⟨by kernel_rfl, ?_⟩ | simp only [hw, hv, e1, e2, e3, e4, e5, e6, Bool.not_false]) <;> (try dsimp only [putS, rhoOf, updA, updL, qt, getM, List.set_cons_succ, List.set_cons_zero, gd_s, gd_z, ge_s, ge_z, ga_s, ga_z, tk_s, tk_z, tk_n, dr_s, dr_z, tsz7, tsz13, tsz18, tsz23, tsz24, tsz36, tsz37, tsz51, tsz52, tsz64, tsz65, tsz66, tsz67, tsz71, tsz72, tsz81, cond_true, cond_false, List.length_cons, List.length_nil, ap_s, ap_z, Nat.reduceAdd, Nat.add_zero, Nat.zero_add, ren, renL, renO, upN, mp_s, mp_z, thenR, blockR, setMany, chunks, ch_s, ch_z, ta_l, rp_s, rp_z, Value.cells, List.flatten_cons, List.flatten_nil]))
      exact hR0 _ _ _ ⟨.inr rfl, _, [], rfl, by decide, rfl, rfl, rfl, rfl⟩
    · repeat ((first | refine TW.wt rfl rfl rfl ?_ | refine TW.sk rfl rfl rfl rfl rfl ?_ | refine TW.nil ?_ | refine TW.au tab rfl rfl rfl (by decide) rfl ?_ | refine TW.bl tab rfl rfl rfl rfl rfl (by decide) rfl rfl rfl rfl rfl rfl ?_ | refine TW.bd rfl rfl rfl rfl (by first | exact .inl ⟨rfl, rfl⟩ | exact .inr ⟨rfl, rfl⟩) (by decide) rfl ?_ | refine TW.sh rfl rfl rfl rfl (by first | exact .inl ⟨rfl, rfl⟩ | exact .inr ⟨rfl, rfl⟩) (by decide) rfl ?_ | refine TW.c0 tab rfl rfl rfl rfl rfl (awake1_fs ) rfl rfl rfl rfl ?_ | refine TW.c0 tab rfl rfl rfl rfl rfl (Middle_fs _ _) rfl rfl rfl rfl ?_ | refine TW.c0 tab rfl rfl rfl rfl rfl (Has_fs _ _ _) rfl rfl rfl rfl ?_ | refine TW.c0 tab rfl rfl rfl rfl rfl (Size_fs _ _) rfl rfl rfl rfl ?_ | refine TW.c0 tab rfl rfl rfl rfl rfl (Far_fs _ _) rfl rfl rfl rfl ?_ | refine CS.seq fun K hK => ?_ | refine CS.regl ?_ | refine CS.drawl tab ?_ | refine CS_ret ?_ | refine CS_skip ?_ | refine CS.blk ?_ | (refine hK _ _ ?_; clear hK K) | refine ⟨by kernel_rfl, ?_⟩ | simp only [hw, hv, e1, e2, e3, e5, e6]) <;> (try dsimp only [putS, rhoOf, updA, updL, qt, getM, List.set_cons_succ, List.set_cons_zero, gd_s, gd_z, ge_s, ge_z, ga_s, ga_z, tk_s, tk_z, tk_n, dr_s, dr_z, tsz7, tsz13, tsz18, tsz23, tsz24, tsz36, tsz37, tsz51, tsz52, tsz64, tsz65, tsz66, tsz67, tsz71, tsz72, tsz81, cond_true, cond_false, List.length_cons, List.length_nil, ap_s, ap_z, Nat.reduceAdd, Nat.add_zero, Nat.zero_add, ren, renL, renO, upN, mp_s, mp_z, thenR, blockR, setMany, chunks, ch_s, ch_z, ta_l, rp_s, rp_z, Value.cells, List.flatten_cons, List.flatten_nil]))
      exact hR0 _ _ _ ⟨.inr rfl, _, [], rfl, by decide, rfl, rfl, rfl, rfl⟩
  · rw [hw] at e3 e5
    repeat ((first | refine TW.wt rfl rfl rfl ?_ | refine TW.sk rfl rfl rfl rfl rfl ?_ | refine TW.nil ?_ | refine TW.au tab rfl rfl rfl (by decide) rfl ?_ | refine TW.bl tab rfl rfl rfl rfl rfl (by decide) rfl rfl rfl rfl rfl rfl ?_ | refine TW.bd rfl rfl rfl rfl (by first | exact .inl ⟨rfl, rfl⟩ | exact .inr ⟨rfl, rfl⟩) (by decide) rfl ?_ | refine TW.sh rfl rfl rfl rfl (by first | exact .inl ⟨rfl, rfl⟩ | exact .inr ⟨rfl, rfl⟩) (by decide) rfl ?_ | refine TW.c0 tab rfl rfl rfl rfl rfl (awake1_fs ) rfl rfl rfl rfl ?_ | refine TW.c0 tab rfl rfl rfl rfl rfl (Middle_fs _ _) rfl rfl rfl rfl ?_ | refine TW.c0 tab rfl rfl rfl rfl rfl (Has_fs _ _ _) rfl rfl rfl rfl ?_ | refine TW.c0 tab rfl rfl rfl rfl rfl (Size_fs _ _) rfl rfl rfl rfl ?_ | refine TW.c0 tab rfl rfl rfl rfl rfl (Far_fs _ _) rfl rfl rfl rfl ?_ | refine CS.seq fun K hK => ?_ | refine CS.regl ?_ | refine CS.drawl tab ?_ | refine CS_ret ?_ | refine CS_skip ?_ | refine CS.blk ?_ | (refine hK _ _ ?_; clear hK K) | refine ⟨by kernel_rfl, ?_⟩ | simp only [hw, e1, e2, e3, e5, e6]) <;> (try dsimp only [putS, rhoOf, updA, updL, qt, getM, List.set_cons_succ, List.set_cons_zero, gd_s, gd_z, ge_s, ge_z, ga_s, ga_z, tk_s, tk_z, tk_n, dr_s, dr_z, tsz7, tsz13, tsz18, tsz23, tsz24, tsz36, tsz37, tsz51, tsz52, tsz64, tsz65, tsz66, tsz67, tsz71, tsz72, tsz81, cond_true, cond_false, List.length_cons, List.length_nil, ap_s, ap_z, Nat.reduceAdd, Nat.add_zero, Nat.zero_add, ren, renL, renO, upN, mp_s, mp_z, thenR, blockR, setMany, chunks, ch_s, ch_z, ta_l, rp_s, rp_z, Value.cells, List.flatten_cons, List.flatten_nil]))
    exact hR0 _ _ _ ⟨.inr rfl, _, [], rfl, by decide, rfl, rfl, rfl, rfl⟩
end Go.Gh

