import Derived.Test.YtignpnjifekndaaTab

namespace Go.Gh
open Go.Proofs
set_option linter.unusedVariables false
set_option linter.unusedSimpArgs false

/-! Layer 1: what its functions compute. -/

def far (a b : Int) : Int := (b - a) % 4294967296
def size (a b : Int) : Int := if a = b then 4294967296 else far a b
def hasv (a b v : Int) : Bool := decide (far ((a + 1) % 4294967296) v < size a b)
def spn (a b : Int) : GV := .agg [.lit (.int .u32 a), .lit (.int .u32 b)]

theorem Far_fs (a b : Int) : FS Try.prog 17 [.lit (.int .u32 a), .lit (.int .u32 b)] [] (.lit (.int .u32 (far a b))) [] := by
  refine FS.enter Try.func17 rfl fun R0 hR0 => ?_
  simp only [Try.ntmps17, List.length_cons, List.length_nil, List.replicate_succ, List.replicate_zero, List.cons_append, List.nil_append, Nat.reduceAdd, Nat.reduceSub]
  repeat ((first | refine TW.wt rfl rfl rfl ?_ | refine TW.sk rfl rfl rfl rfl rfl ?_ | refine TW.nil ?_ | refine TW.au tab rfl rfl rfl (by decide) rfl ?_ | refine TW.bl tab rfl rfl rfl rfl rfl (by decide) rfl rfl rfl rfl rfl rfl ?_ | refine TW.bd rfl rfl rfl rfl (by first | exact .inl ⟨rfl, rfl⟩ | exact .inr ⟨rfl, rfl⟩) (by decide) rfl ?_ | refine TW.sh rfl rfl rfl rfl (by first | exact .inl ⟨rfl, rfl⟩ | exact .inr ⟨rfl, rfl⟩) (by decide) rfl ?_ | refine CS.seq fun K hK => ?_ | refine CS.regl ?_ | refine CS.drawl tab ?_ | refine CS_ret ?_ | refine CS_skip ?_ | refine CS.blk ?_ | (refine hK _ _ ?_; clear hK K) | refine ⟨by kernel_rfl, ?_⟩) <;> (try dsimp only [putS, rhoOf, updA, updL, qt, getM, List.set_cons_succ, List.set_cons_zero, gd_s, gd_z, ge_s, ge_z, ga_s, ga_z, tk_s, tk_z, tk_n, dr_s, dr_z, tsz7, tsz13, tsz18, tsz23, tsz24, tsz36, tsz37, tsz51, tsz52, tsz64, tsz65, tsz66, tsz67, tsz71, tsz72, tsz81, cond_true, cond_false, List.length_cons, List.length_nil, ap_s, ap_z, Nat.reduceAdd, Nat.add_zero, Nat.zero_add, ren, renL, renO, upN, mp_s, mp_z, thenR, blockR, setMany, chunks, ch_s, ch_z, ta_l, rp_s, rp_z, Value.cells, List.flatten_cons, List.flatten_nil]))
  refine hR0 _ _ _ ⟨.inr rfl, _, [], rfl, by decide, rfl, rfl, ?_, rfl⟩
  simp [far, wrap_u32, ren]

theorem far_range (a b : Int) : 0 ≤ far a b ∧ far a b < 4294967296 := by unfold far; omega

theorem Size_fs (a b : Int) : FS Try.prog 16 [spn a b] [] (.lit (.int .u64 (size a b))) [] := by
  refine FS.enter Try.func16 rfl fun R0 hR0 => ?_
  simp only [spn, Try.ntmps16, List.length_cons, List.length_nil, List.replicate_succ, List.replicate_zero, List.cons_append, List.nil_append, Nat.reduceAdd, Nat.reduceSub]
  repeat ((first | refine TW.wt rfl rfl rfl ?_ | refine TW.sk rfl rfl rfl rfl rfl ?_ | refine TW.nil ?_ | refine TW.au tab rfl rfl rfl (by decide) rfl ?_ | refine TW.bl tab rfl rfl rfl rfl rfl (by decide) rfl rfl rfl rfl rfl rfl ?_ | refine TW.bd rfl rfl rfl rfl (by first | exact .inl ⟨rfl, rfl⟩ | exact .inr ⟨rfl, rfl⟩) (by decide) rfl ?_ | refine TW.sh rfl rfl rfl rfl (by first | exact .inl ⟨rfl, rfl⟩ | exact .inr ⟨rfl, rfl⟩) (by decide) rfl ?_ | refine TW.c0 tab rfl rfl rfl rfl rfl (Far_fs _ _) rfl rfl rfl rfl ?_ | refine CS.seq fun K hK => ?_ | refine CS.regl ?_ | refine CS.drawl tab ?_ | refine CS_ret ?_ | refine CS_skip ?_ | refine CS.blk ?_ | (refine hK _ _ ?_; clear hK K) | refine ⟨by kernel_rfl, ?_⟩) <;> (try dsimp only [putS, rhoOf, updA, updL, qt, getM, List.set_cons_succ, List.set_cons_zero, gd_s, gd_z, ge_s, ge_z, ga_s, ga_z, tk_s, tk_z, tk_n, dr_s, dr_z, tsz7, tsz13, tsz18, tsz23, tsz24, tsz36, tsz37, tsz51, tsz52, tsz64, tsz65, tsz66, tsz67, tsz71, tsz72, tsz81, cond_true, cond_false, List.length_cons, List.length_nil, ap_s, ap_z, Nat.reduceAdd, Nat.add_zero, Nat.zero_add, ren, renL, renO, upN, mp_s, mp_z, thenR, blockR, setMany, chunks, ch_s, ch_z, ta_l, rp_s, rp_z, Value.cells, List.flatten_cons, List.flatten_nil]))
  refine CS.split rfl (fun h => ?_) (fun h => ?_)
  · repeat ((first | refine TW.wt rfl rfl rfl ?_ | refine TW.sk rfl rfl rfl rfl rfl ?_ | refine TW.nil ?_ | refine TW.au tab rfl rfl rfl (by decide) rfl ?_ | refine TW.bl tab rfl rfl rfl rfl rfl (by decide) rfl rfl rfl rfl rfl rfl ?_ | refine TW.bd rfl rfl rfl rfl (by first | exact .inl ⟨rfl, rfl⟩ | exact .inr ⟨rfl, rfl⟩) (by decide) rfl ?_ | refine TW.sh rfl rfl rfl rfl (by first | exact .inl ⟨rfl, rfl⟩ | exact .inr ⟨rfl, rfl⟩) (by decide) rfl ?_ | refine TW.c0 tab rfl rfl rfl rfl rfl (Far_fs _ _) rfl rfl rfl rfl ?_ | refine CS.seq fun K hK => ?_ | refine CS.regl ?_ | refine CS.drawl tab ?_ | refine CS_ret ?_ | refine CS_skip ?_ | refine CS.blk ?_ | (refine hK _ _ ?_; clear hK K) | refine ⟨by kernel_rfl, ?_⟩) <;> (try dsimp only [putS, rhoOf, updA, updL, qt, getM, List.set_cons_succ, List.set_cons_zero, gd_s, gd_z, ge_s, ge_z, ga_s, ga_z, tk_s, tk_z, tk_n, dr_s, dr_z, tsz7, tsz13, tsz18, tsz23, tsz24, tsz36, tsz37, tsz51, tsz52, tsz64, tsz65, tsz66, tsz67, tsz71, tsz72, tsz81, cond_true, cond_false, List.length_cons, List.length_nil, ap_s, ap_z, Nat.reduceAdd, Nat.add_zero, Nat.zero_add, ren, renL, renO, upN, mp_s, mp_z, thenR, blockR, setMany, chunks, ch_s, ch_z, ta_l, rp_s, rp_z, Value.cells, List.flatten_cons, List.flatten_nil]))
    refine hR0 _ _ _ ⟨.inr rfl, _, [], rfl, by decide, rfl, rfl, ?_, rfl⟩
    simp at h
    simp [size, h, ren]
  · repeat ((first | refine TW.wt rfl rfl rfl ?_ | refine TW.sk rfl rfl rfl rfl rfl ?_ | refine TW.nil ?_ | refine TW.au tab rfl rfl rfl (by decide) rfl ?_ | refine TW.bl tab rfl rfl rfl rfl rfl (by decide) rfl rfl rfl rfl rfl rfl ?_ | refine TW.bd rfl rfl rfl rfl (by first | exact .inl ⟨rfl, rfl⟩ | exact .inr ⟨rfl, rfl⟩) (by decide) rfl ?_ | refine TW.sh rfl rfl rfl rfl (by first | exact .inl ⟨rfl, rfl⟩ | exact .inr ⟨rfl, rfl⟩) (by decide) rfl ?_ | refine TW.c0 tab rfl rfl rfl rfl rfl (Far_fs _ _) rfl rfl rfl rfl ?_ | refine CS.seq fun K hK => ?_ | refine CS.regl ?_ | refine CS.drawl tab ?_ | refine CS_ret ?_ | refine CS_skip ?_ | refine CS.blk ?_ | (refine hK _ _ ?_; clear hK K) | refine ⟨by kernel_rfl, ?_⟩) <;> (try dsimp only [putS, rhoOf, updA, updL, qt, getM, List.set_cons_succ, List.set_cons_zero, gd_s, gd_z, ge_s, ge_z, ga_s, ga_z, tk_s, tk_z, tk_n, dr_s, dr_z, tsz7, tsz13, tsz18, tsz23, tsz24, tsz36, tsz37, tsz51, tsz52, tsz64, tsz65, tsz66, tsz67, tsz71, tsz72, tsz81, cond_true, cond_false, List.length_cons, List.length_nil, ap_s, ap_z, Nat.reduceAdd, Nat.add_zero, Nat.zero_add, ren, renL, renO, upN, mp_s, mp_z, thenR, blockR, setMany, chunks, ch_s, ch_z, ta_l, rp_s, rp_z, Value.cells, List.flatten_cons, List.flatten_nil]))
    refine hR0 _ _ _ ⟨.inr rfl, _, [], rfl, by decide, rfl, rfl, ?_, rfl⟩
    simp at h
    have := far_range a b
    simp [size, h, ren, wrap_u64]
    omega

theorem Has_fs (a b v : Int) : FS Try.prog 15 [spn a b, .lit (.int .u32 v)] [] (.lit (.bool (hasv a b v))) [] := by
  refine FS.enter Try.func15 rfl fun R0 hR0 => ?_
  simp only [spn, Try.ntmps15, List.length_cons, List.length_nil, List.replicate_succ, List.replicate_zero, List.cons_append, List.nil_append, Nat.reduceAdd, Nat.reduceSub]
  repeat ((first | refine TW.wt rfl rfl rfl ?_ | refine TW.sk rfl rfl rfl rfl rfl ?_ | refine TW.nil ?_ | refine TW.au tab rfl rfl rfl (by decide) rfl ?_ | refine TW.bl tab rfl rfl rfl rfl rfl (by decide) rfl rfl rfl rfl rfl rfl ?_ | refine TW.bd rfl rfl rfl rfl (by first | exact .inl ⟨rfl, rfl⟩ | exact .inr ⟨rfl, rfl⟩) (by decide) rfl ?_ | refine TW.sh rfl rfl rfl rfl (by first | exact .inl ⟨rfl, rfl⟩ | exact .inr ⟨rfl, rfl⟩) (by decide) rfl ?_ | refine TW.c0 tab rfl rfl rfl rfl rfl (Size_fs _ _) rfl rfl rfl rfl ?_ | refine TW.c0 tab rfl rfl rfl rfl rfl (Far_fs _ _) rfl rfl rfl rfl ?_ | refine CS.seq fun K hK => ?_ | refine CS.regl ?_ | refine CS.drawl tab ?_ | refine CS_ret ?_ | refine CS_skip ?_ | refine CS.blk ?_ | (refine hK _ _ ?_; clear hK K) | refine ⟨by kernel_rfl, ?_⟩) <;> (try dsimp only [putS, rhoOf, updA, updL, qt, getM, List.set_cons_succ, List.set_cons_zero, gd_s, gd_z, ge_s, ge_z, ga_s, ga_z, tk_s, tk_z, tk_n, dr_s, dr_z, tsz7, tsz13, tsz18, tsz23, tsz24, tsz36, tsz37, tsz51, tsz52, tsz64, tsz65, tsz66, tsz67, tsz71, tsz72, tsz81, cond_true, cond_false, List.length_cons, List.length_nil, ap_s, ap_z, Nat.reduceAdd, Nat.add_zero, Nat.zero_add, ren, renL, renO, upN, mp_s, mp_z, thenR, blockR, setMany, chunks, ch_s, ch_z, ta_l, rp_s, rp_z, Value.cells, List.flatten_cons, List.flatten_nil]))
  refine hR0 _ _ _ ⟨.inr rfl, _, [], rfl, by decide, rfl, rfl, ?_, rfl⟩
  have := far_range ((a + 1) % 4294967296) v
  dsimp only [putS, rhoOf, updA, updL, qt, getM, List.set_cons_succ, List.set_cons_zero, gd_s, gd_z, ge_s, ge_z, ga_s, ga_z, tk_s, tk_z, tk_n, dr_s, dr_z, tsz7, tsz13, tsz18, tsz23, tsz24, tsz36, tsz37, tsz51, tsz52, tsz64, tsz65, tsz66, tsz67, tsz71, tsz72, tsz81, cond_true, cond_false, List.length_cons, List.length_nil, ap_s, ap_z, Nat.reduceAdd, Nat.add_zero, Nat.zero_add, ren, renL, renO, upN, mp_s, mp_z, thenR, blockR, setMany, chunks, ch_s, ch_z, ta_l, rp_s, rp_z, Value.cells, List.flatten_cons, List.flatten_nil]
  simp only [hasv, ren, wrap_u32, wrap_u64]
  rw [Int.emod_eq_of_lt this.1 (by omega)]

theorem Middle_fs (a b : Int) : FS Try.prog 27 [spn a b] [] (.lit (.int .u32 ((a + (size a b).fdiv 2) % 4294967296))) [] := by
  refine FS.enter Try.func27 rfl fun R0 hR0 => ?_
  simp only [spn, Try.ntmps27, List.length_cons, List.length_nil, List.replicate_succ, List.replicate_zero, List.cons_append, List.nil_append, Nat.reduceAdd, Nat.reduceSub]
  repeat ((first | refine TW.wt rfl rfl rfl ?_ | refine TW.sk rfl rfl rfl rfl rfl ?_ | refine TW.nil ?_ | refine TW.au tab rfl rfl rfl (by decide) rfl ?_ | refine TW.bl tab rfl rfl rfl rfl rfl (by decide) rfl rfl rfl rfl rfl rfl ?_ | refine TW.bd rfl rfl rfl rfl (by first | exact .inl ⟨rfl, rfl⟩ | exact .inr ⟨rfl, rfl⟩) (by decide) rfl ?_ | refine TW.sh rfl rfl rfl rfl (by first | exact .inl ⟨rfl, rfl⟩ | exact .inr ⟨rfl, rfl⟩) (by decide) rfl ?_ | refine TW.c0 tab rfl rfl rfl rfl rfl (Has_fs _ _ _) rfl rfl rfl rfl ?_ | refine TW.c0 tab rfl rfl rfl rfl rfl (Size_fs _ _) rfl rfl rfl rfl ?_ | refine TW.c0 tab rfl rfl rfl rfl rfl (Far_fs _ _) rfl rfl rfl rfl ?_ | refine CS.seq fun K hK => ?_ | refine CS.regl ?_ | refine CS.drawl tab ?_ | refine CS_ret ?_ | refine CS_skip ?_ | refine CS.blk ?_ | (refine hK _ _ ?_; clear hK K) | refine ⟨by kernel_rfl, ?_⟩) <;> (try dsimp only [putS, rhoOf, updA, updL, qt, getM, List.set_cons_succ, List.set_cons_zero, gd_s, gd_z, ge_s, ge_z, ga_s, ga_z, tk_s, tk_z, tk_n, dr_s, dr_z, tsz7, tsz13, tsz18, tsz23, tsz24, tsz36, tsz37, tsz51, tsz52, tsz64, tsz65, tsz66, tsz67, tsz71, tsz72, tsz81, cond_true, cond_false, List.length_cons, List.length_nil, ap_s, ap_z, Nat.reduceAdd, Nat.add_zero, Nat.zero_add, ren, renL, renO, upN, mp_s, mp_z, thenR, blockR, setMany, chunks, ch_s, ch_z, ta_l, rp_s, rp_z, Value.cells, List.flatten_cons, List.flatten_nil]))
  refine hR0 _ _ _ ⟨.inr rfl, _, [], rfl, by decide, rfl, rfl, ?_, rfl⟩
  dsimp only [putS, rhoOf, updA, updL, qt, getM, List.set_cons_succ, List.set_cons_zero, gd_s, gd_z, ge_s, ge_z, ga_s, ga_z, tk_s, tk_z, tk_n, dr_s, dr_z, tsz7, tsz13, tsz18, tsz23, tsz24, tsz36, tsz37, tsz51, tsz52, tsz64, tsz65, tsz66, tsz67, tsz71, tsz72, tsz81, cond_true, cond_false, List.length_cons, List.length_nil, ap_s, ap_z, Nat.reduceAdd, Nat.add_zero, Nat.zero_add, ren, renL, renO, upN, mp_s, mp_z, thenR, blockR, setMany, chunks, ch_s, ch_z, ta_l, rp_s, rp_z, Value.cells, List.flatten_cons, List.flatten_nil]
  have h1 := far_range a b
  have h2 : 0 ≤ size a b ∧ size a b ≤ 4294967296 := by unfold size; split <;> omega
  simp only [ren, wrap_u32]
  have e : (2 : Int) ^ min (Int.toNat 1) IntKind.u64.bits = 2 := by decide
  rw [e, Int.fdiv_eq_ediv_of_nonneg _ (by decide)]
  congr 2
  omega

theorem awake1_fs : FS Try.prog 14 [] [] (.lit (.bool true)) [] := by
  refine FS.enter Try.func14 rfl fun R0 hR0 => ?_
  simp only [Try.ntmps14, List.length_cons, List.length_nil, List.replicate_succ, List.replicate_zero, List.cons_append, List.nil_append, Nat.reduceAdd, Nat.reduceSub]
  have f1 : hasv 5 9 9 = true := by decide
  have f2 : hasv 5 9 5 = false := by decide
  have f3 : (size 9 5 == 4294967292) = true := by decide
  repeat ((first | refine TW.wt rfl rfl rfl ?_ | refine TW.sk rfl rfl rfl rfl rfl ?_ | refine TW.nil ?_ | refine TW.au tab rfl rfl rfl (by decide) rfl ?_ | refine TW.bl tab rfl rfl rfl rfl rfl (by decide) rfl rfl rfl rfl rfl rfl ?_ | refine TW.bd rfl rfl rfl rfl (by first | exact .inl ⟨rfl, rfl⟩ | exact .inr ⟨rfl, rfl⟩) (by decide) rfl ?_ | refine TW.sh rfl rfl rfl rfl (by first | exact .inl ⟨rfl, rfl⟩ | exact .inr ⟨rfl, rfl⟩) (by decide) rfl ?_ | refine TW.c0 tab rfl rfl rfl rfl rfl (Middle_fs _ _) rfl rfl rfl rfl ?_ | refine TW.c0 tab rfl rfl rfl rfl rfl (Has_fs _ _ _) rfl rfl rfl rfl ?_ | refine TW.c0 tab rfl rfl rfl rfl rfl (Size_fs _ _) rfl rfl rfl rfl ?_ | refine TW.c0 tab rfl rfl rfl rfl rfl (Far_fs _ _) rfl rfl rfl rfl ?_ | refine CS.seq fun K hK => ?_ | refine CS.regl ?_ | refine CS.drawl tab ?_ | refine CS_ret ?_ | refine CS_skip ?_ | refine CS.blk ?_ | (refine hK _ _ ?_; clear hK K) | refine ⟨by kernel_rfl, ?_⟩ | simp only [f1, f2, f3, Bool.not_false]) <;> (try dsimp only [putS, rhoOf, updA, updL, qt, getM, List.set_cons_succ, List.set_cons_zero, gd_s, gd_z, ge_s, ge_z, ga_s, ga_z, tk_s, tk_z, tk_n, dr_s, dr_z, tsz7, tsz13, tsz18, tsz23, tsz24, tsz36, tsz37, tsz51, tsz52, tsz64, tsz65, tsz66, tsz67, tsz71, tsz72, tsz81, cond_true, cond_false, List.length_cons, List.length_nil, ap_s, ap_z, Nat.reduceAdd, Nat.add_zero, Nat.zero_add, ren, renL, renO, upN, mp_s, mp_z, thenR, blockR, setMany, chunks, ch_s, ch_z, ta_l, rp_s, rp_z, Value.cells, List.flatten_cons, List.flatten_nil]))
  refine hR0 _ _ _ ⟨.inr rfl, _, [], rfl, by decide, rfl, rfl, ?_, rfl⟩
  dsimp only [putS, rhoOf, updA, updL, qt, getM, List.set_cons_succ, List.set_cons_zero, gd_s, gd_z, ge_s, ge_z, ga_s, ga_z, tk_s, tk_z, tk_n, dr_s, dr_z, tsz7, tsz13, tsz18, tsz23, tsz24, tsz36, tsz37, tsz51, tsz52, tsz64, tsz65, tsz66, tsz67, tsz71, tsz72, tsz81, cond_true, cond_false, List.length_cons, List.length_nil, ap_s, ap_z, Nat.reduceAdd, Nat.add_zero, Nat.zero_add, ren, renL, renO, upN, mp_s, mp_z, thenR, blockR, setMany, chunks, ch_s, ch_z, ta_l, rp_s, rp_z, Value.cells, List.flatten_cons, List.flatten_nil]
end Go.Gh

