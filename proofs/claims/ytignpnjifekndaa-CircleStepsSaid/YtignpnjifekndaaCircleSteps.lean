import Derived.Test.YtignpnjifekndaaCircle

namespace Go.Gh
open Go.Proofs
set_option linter.unusedVariables false
set_option linter.unusedSimpArgs false

/-! CircleSteps. -/

theorem w64 {n : Int} (h0 : 0 ≤ n) (h1 : n < 18446744073709551616) : IntKind.u64.wrap n = n := by rw [wrap_u64]; omega

theorem steps1 {a b c : Int} : ((IntKind.u64.wrap (IntKind.u64.wrap (far a b + far b c) - far a c)).tmod 4294967296 == 0) = true := by
  rw [wrap_u64, wrap_u64, Int.tmod_eq_emod_of_nonneg (by omega)]
  unfold far
  simp
  omega
theorem steps2 {a : Int} (h1 : 0 ≤ a ∧ a < 4294967296) : (far a (IntKind.u32.wrap (a + 7)) == 7) = true := by
  rw [wrap_u32]; unfold far; simp; omega

set_option maxHeartbeats 4000000 in
theorem CircleSteps_fs {a b c : Int} (h1 : 0 ≤ a ∧ a < 4294967296) (h2 : 0 ≤ b ∧ b < 4294967296) (h3 : 0 ≤ c ∧ c < 4294967296) : FS Try.prog 4 [.lit (.int .u32 a), .lit (.int .u32 b), .lit (.int .u32 c)] [] (.lit (.bool true)) [] := by
  have e1 := w64 (far_range a b).1 (by have := far_range a b; omega)
  have e2 := w64 (far_range b c).1 (by have := far_range b c; omega)
  have e3 := w64 (far_range a c).1 (by have := far_range a c; omega)
  have e4 := w64 (far_range b a).1 (by have := far_range b a; omega)
  have e5 := steps1 (a := a) (b := b) (c := c)
  have e6 := steps2 h1
  refine FS.enter Try.func4 rfl fun R0 hR0 => ?_
  simp only [Try.ntmps4, List.length_cons, List.length_nil, List.replicate_succ, List.replicate_zero, List.cons_append, List.nil_append, Nat.reduceAdd, Nat.reduceSub]
  cases hw : a == b
  · have e7 : (IntKind.u64.wrap (far a b + far b a) == 4294967296) = true := by
      rw [wrap_u64]; simp at hw; unfold far; simp; omega
    have e8 : (a != b) = true := by rw [bne, hw]; rfl
    repeat ((first | refine TW.wt rfl rfl rfl ?_ | refine TW.sk rfl rfl rfl rfl rfl ?_ | refine TW.su rfl rfl rfl rfl ?_ | refine TW.nil ?_ | refine TW.au tab rfl rfl rfl (by first | exact nd0 | exact nd1 _ _) rfl ?_ | refine TW.bl tab rfl rfl rfl rfl rfl (by decide) rfl rfl rfl rfl rfl rfl ?_ | refine TW.bd rfl rfl rfl rfl (by first | exact .inl ⟨rfl, rfl⟩ | exact .inr ⟨rfl, rfl⟩) (by first | decide | assumption) rfl ?_ | refine TW.sh rfl rfl rfl rfl (by first | exact .inl ⟨rfl, rfl⟩ | exact .inr ⟨rfl, rfl⟩) (by decide) rfl ?_ | refine TW.c0 tab rfl rfl rfl rfl rfl (awake1_fs ) rfl rfl rfl rfl ?_ | refine TW.c0 tab rfl rfl rfl rfl rfl (Middle_fs _ _) rfl rfl rfl rfl ?_ | refine TW.c0 tab rfl rfl rfl rfl rfl (Has_fs _ _ _) rfl rfl rfl rfl ?_ | refine TW.c0 tab rfl rfl rfl rfl rfl (Size_fs _ _) rfl rfl rfl rfl ?_ | refine TW.c0 tab rfl rfl rfl rfl rfl (Far_fs _ _) rfl rfl rfl rfl ?_ | refine TW.ix tab rfl rfl rfl rfl rfl rfl (by decide) (by assumption) (by assumption) (by assumption) rfl ?_ | refine CS.seq fun K hK => ?_ | refine CS.regl ?_ | refine CS.drawl tab ?_ | refine CS_ret ?_ | refine CS_skip ?_ | refine CS_exit ?_ | refine CS.blk ?_ | refine CS.yes rfl ?_ | refine CS.no rfl ?_ | (refine hK _ _ ?_; clear hK K) | refine ⟨by kernel_rfl, ?_⟩ | simp only [e1, e2, e3, e4, e5, e6, hw, e7, e8]) <;> (try dsimp only [putS, rhoOf, updA, updL, qt, getM, List.set_cons_succ, List.set_cons_zero, gd_s, gd_z, ge_s, ge_z, ga_s, ga_z, tk_s, tk_z, tk_n, dr_s, dr_z, tsz7, tsz13, tsz18, tsz23, tsz24, tsz36, tsz37, tsz51, tsz52, tsz64, tsz65, tsz66, tsz67, tsz71, tsz72, tsz81, cond_true, cond_false, ln_s, ln_z, zp_s, zp_z, up_0, up_1z, up_1s, up_2z, up_2o, up_2s, loopR, ap_s, ap_z, Nat.reduceAdd, Nat.add_zero, Nat.zero_add, ren, renL, renO, mp_s, mp_z, thenR, blockR, setMany, chunks, ch_s, ch_z, ta_l, rp_s, rp_z, Value.cells, List.flatten_cons, List.flatten_nil]))
    exact hR0 _ _ _ ⟨.inr rfl, _, [], rfl, by decide, rfl, rfl, rfl, rfl⟩
  · have e7 : (IntKind.u64.wrap (far a b + far b a) == 0) = true := by
      rw [wrap_u64]; simp at hw; unfold far; simp; omega
    repeat ((first | refine TW.wt rfl rfl rfl ?_ | refine TW.sk rfl rfl rfl rfl rfl ?_ | refine TW.su rfl rfl rfl rfl ?_ | refine TW.nil ?_ | refine TW.au tab rfl rfl rfl (by first | exact nd0 | exact nd1 _ _) rfl ?_ | refine TW.bl tab rfl rfl rfl rfl rfl (by decide) rfl rfl rfl rfl rfl rfl ?_ | refine TW.bd rfl rfl rfl rfl (by first | exact .inl ⟨rfl, rfl⟩ | exact .inr ⟨rfl, rfl⟩) (by first | decide | assumption) rfl ?_ | refine TW.sh rfl rfl rfl rfl (by first | exact .inl ⟨rfl, rfl⟩ | exact .inr ⟨rfl, rfl⟩) (by decide) rfl ?_ | refine TW.c0 tab rfl rfl rfl rfl rfl (awake1_fs ) rfl rfl rfl rfl ?_ | refine TW.c0 tab rfl rfl rfl rfl rfl (Middle_fs _ _) rfl rfl rfl rfl ?_ | refine TW.c0 tab rfl rfl rfl rfl rfl (Has_fs _ _ _) rfl rfl rfl rfl ?_ | refine TW.c0 tab rfl rfl rfl rfl rfl (Size_fs _ _) rfl rfl rfl rfl ?_ | refine TW.c0 tab rfl rfl rfl rfl rfl (Far_fs _ _) rfl rfl rfl rfl ?_ | refine TW.ix tab rfl rfl rfl rfl rfl rfl (by decide) (by assumption) (by assumption) (by assumption) rfl ?_ | refine CS.seq fun K hK => ?_ | refine CS.regl ?_ | refine CS.drawl tab ?_ | refine CS_ret ?_ | refine CS_skip ?_ | refine CS_exit ?_ | refine CS.blk ?_ | refine CS.yes rfl ?_ | refine CS.no rfl ?_ | (refine hK _ _ ?_; clear hK K) | refine ⟨by kernel_rfl, ?_⟩ | simp only [e1, e2, e3, e4, e5, e6, hw, e7]) <;> (try dsimp only [putS, rhoOf, updA, updL, qt, getM, List.set_cons_succ, List.set_cons_zero, gd_s, gd_z, ge_s, ge_z, ga_s, ga_z, tk_s, tk_z, tk_n, dr_s, dr_z, tsz7, tsz13, tsz18, tsz23, tsz24, tsz36, tsz37, tsz51, tsz52, tsz64, tsz65, tsz66, tsz67, tsz71, tsz72, tsz81, cond_true, cond_false, ln_s, ln_z, zp_s, zp_z, up_0, up_1z, up_1s, up_2z, up_2o, up_2s, loopR, ap_s, ap_z, Nat.reduceAdd, Nat.add_zero, Nat.zero_add, ren, renL, renO, mp_s, mp_z, thenR, blockR, setMany, chunks, ch_s, ch_z, ta_l, rp_s, rp_z, Value.cells, List.flatten_cons, List.flatten_nil]))
    exact hR0 _ _ _ ⟨.inr rfl, _, [], rfl, by decide, rfl, rfl, rfl, rfl⟩
end Go.Gh

