import Derived.Test.YtoamjccphppdmaaOctet4

namespace Go.Gh
open Go.Proofs
set_option linter.unusedVariables false
set_option linter.unusedSimpArgs false

/-! Layer 3: all contracts, for the laws; what a program that does nothing does not answer. -/











theorem b12 : [[GV.lit (.int .u8 1)], [GV.lit (.int .u8 2)]] = [1, 2].map bG := rfl
theorem ORead12_fs : FS Try.prog 25 [.sl true 1 [[GV.lit (.int .u8 1)], [GV.lit (.int .u8 2)]] []] [] (.adr 0 0 0) [rd [1, 2] 0] := by
  have := ORead_fs (bw := true) (l := [1, 2]) (ex := []) (by decide)
  exact this
theorem HBytes12_fs : FS Try.prog 26 [.sl false 1 ((be 258 (nby 2)).map bG) [], .sl true 1 [[GV.lit (.int .u8 1)], [GV.lit (.int .u8 2)]] []] [] (.lit (.bool true)) [] := by
  have := HBytes_fs (b1 := false) (b2 := true) (x := be 258 (nby 2)) (y := [1, 2]) (e1 := []) (e2 := []) (be_byt _ _) (by unfold byt; decide)
  rwa [show decide (be 258 (nby 2) = [1, 2]) = true by decide] at this
theorem byt12 : byt [1, 2] := by unfold byt; decide
theorem OGet12_fs : FS Try.prog 29 [.adr 0 0 0, .lit (.int .i64 2)] [rd [1, 2] 0] (.lit (.int .u64 258)) [rd [] 0] := by
  have := OGet_fs (l := [1, 2]) (e := 0) 2 byt12
  exact this
theorem OLeft0_fs : FS Try.prog 32 [.adr 0 0 0] [rd [] 0] (.lit (.int .i64 0)) [rd [] 0] := OLeft_fs (l := []) (e := 0)
set_option maxHeartbeats 4000000 in
theorem awake3_fs : FS Try.prog 21 [] [] (.lit (.bool true)) [] := by
  refine FS.enterG Try.func21 rfl fun R0 hR0 => ?_
  simp only [Try.ntmps21, List.length_cons, List.length_nil, List.replicate_succ, List.replicate_zero, List.cons_append, List.nil_append, Nat.reduceAdd, Nat.reduceSub]
  repeat (first | (refine TW.tw ?_; (first | refine TW.au tab rfl rfl rfl rfl rfl ?_ | (refine TW.nil ?_; (first | (refine hK0 _ _ ?_; clear hK0 K0) | (refine hK1 _ _ _ (by kernel_rfl) ?_; clear hK1 K1)); try dsimp only [thenR, blockR, loopR, mk_t, mk_f, mk_n]; try simp only [beq_self_eq_true, List.append_nil, rd]) | refine TW.wt rfl rfl rfl ?_ | refine TW.sk rfl rfl rfl rfl rfl ?_ | refine TW.su rfl rfl rfl rfl ?_ | (refine TW.kc 32 rfl ?_; first | refine TW.co2 tab rfl rfl rfl rfl rfl rfl rfl rfl rfl rfl (OLeft0_fs ) rfl rfl rfl rfl rfl ?_ | refine TW.co1 tab rfl rfl rfl rfl rfl rfl rfl rfl (OLeft0_fs ) rfl rfl rfl rfl rfl ?_) | (refine TW.kc 29 rfl ?_; first | refine TW.co2 tab rfl rfl rfl rfl rfl rfl rfl rfl rfl rfl (OGet12_fs ) rfl rfl rfl rfl rfl ?_ | refine TW.co1 tab rfl rfl rfl rfl rfl rfl rfl rfl (OGet12_fs ) rfl rfl rfl rfl rfl ?_) | (refine TW.kc 26 rfl ?_; first | refine TW.c0 tab rfl rfl rfl rfl rfl (HBytes12_fs ) rfl rfl rfl rfl ?_) | (refine TW.kc 25 rfl ?_; first | refine TW.c0 tab rfl rfl rfl rfl rfl (ORead12_fs ) rfl rfl rfl rfl ?_) | refine TW.c0 tab rfl rfl rfl rfl rfl (OText0_fs _) rfl rfl rfl rfl ?_ | refine TW.c0 tab rfl rfl rfl rfl rfl (OTextR0_fs ) rfl rfl rfl rfl ?_ | refine TW.co2 tab rfl rfl rfl rfl rfl rfl rfl rfl rfl rfl (OTextR_fs (by assumption)) rfl rfl rfl rfl rfl ?_ | refine TW.co1 tab rfl rfl rfl rfl rfl rfl rfl rfl (OTextR_fs (by assumption)) rfl rfl rfl rfl rfl ?_ | refine TW.c0 tab rfl rfl rfl rfl rfl (OErrN_fs ) rfl rfl rfl rfl ?_ | refine TW.co2 tab rfl rfl rfl rfl rfl rfl rfl rfl rfl rfl (OErr_fs ) rfl rfl rfl rfl rfl ?_ | refine TW.co1 tab rfl rfl rfl rfl rfl rfl rfl rfl (OErr_fs ) rfl rfl rfl rfl rfl ?_ | refine TW.c0 tab rfl rfl rfl rfl rfl (OLeftN_fs ) rfl rfl rfl rfl ?_ | refine TW.co2 tab rfl rfl rfl rfl rfl rfl rfl rfl rfl rfl (OLeft_fs ) rfl rfl rfl rfl rfl ?_ | refine TW.co1 tab rfl rfl rfl rfl rfl rfl rfl rfl (OLeft_fs ) rfl rfl rfl rfl rfl ?_ | refine TW.c0 tab rfl rfl rfl rfl rfl (OGet0_fs _) rfl rfl rfl rfl ?_ | refine TW.co2 tab rfl rfl rfl rfl rfl rfl rfl rfl rfl rfl (OGet_fs _ (by first | assumption | exact tkL_byt (by assumption) _ _ | decide)) rfl rfl rfl rfl rfl ?_ | refine TW.co1 tab rfl rfl rfl rfl rfl rfl rfl rfl (OGet_fs _ (by first | assumption | exact tkL_byt (by assumption) _ _ | decide)) rfl rfl rfl rfl rfl ?_ | refine TW.c0 tab rfl rfl rfl rfl rfl (HBytes_fs (by first | assumption | exact be_byt _ _ | decide) (by first | assumption | exact be_byt _ _ | decide)) rfl rfl rfl rfl ?_ | refine TW.c0 tab rfl rfl rfl rfl rfl (ORead_fs (by first | assumption | decide)) rfl rfl rfl rfl ?_ | refine TW.c0 tab rfl rfl rfl rfl rfl (OBytes0_fs ) rfl rfl rfl rfl ?_ | refine TW.co2 tab rfl rfl rfl rfl rfl rfl rfl rfl rfl rfl (OBytes_fs (by first | assumption | decide | (simp only [List.length_append, be_len]; omega))) rfl rfl rfl rfl rfl ?_ | refine TW.co1 tab rfl rfl rfl rfl rfl rfl rfl rfl (OBytes_fs (by first | assumption | decide | (simp only [List.length_append, be_len]; omega))) rfl rfl rfl rfl rfl ?_ | refine TW.c0 tab rfl rfl rfl rfl rfl (OPut0_fs _ _) rfl rfl rfl rfl ?_ | refine TW.co2 tab rfl rfl rfl rfl rfl rfl rfl rfl rfl rfl (OPutN_fs _ _ (by first | assumption | decide)) rfl rfl rfl rfl rfl ?_ | refine TW.co1 tab rfl rfl rfl rfl rfl rfl rfl rfl (OPutN_fs _ _ (by first | assumption | decide)) rfl rfl rfl rfl rfl ?_ | refine TW.co2 tab rfl rfl rfl rfl rfl rfl rfl rfl rfl rfl (OPut_fs _ _ (by first | assumption | decide) (by first | assumption | decide | (simp only [List.length_append, be_len]; omega))) rfl rfl rfl rfl rfl ?_ | refine TW.co1 tab rfl rfl rfl rfl rfl rfl rfl rfl (OPut_fs _ _ (by first | assumption | decide) (by first | assumption | decide | (simp only [List.length_append, be_len]; omega))) rfl rfl rfl rfl rfl ?_ | (refine TW.kd 3 rfl ?_; first | refine TW.bm tab rfl rfl rfl rfl rfl (by decide) rfl rfl rfl rfl rfl rfl ?_ | refine TW.bl tab rfl rfl rfl rfl rfl (by decide) rfl rfl rfl rfl rfl rfl rfl ?_) | (refine TW.kd3 34 rfl ?_; first | refine TW.ba tab rfl rfl rfl rfl rfl rfl rfl rfl rfl rfl (by first | exact Or.inl ⟨rfl, rfl⟩ | exact Or.inr ⟨rfl, rfl⟩) rfl ?_) | simp only [beq_self_eq_true, List.append_nil, rd]); try dsimp only [dgz, dgzc, dg_setd, dg_renl, dg_tk, dg_rena, putS, rhoOf, updA, updL, qt, getM, List.set_cons_succ, List.set_cons_zero, gd_s, gd_z, ge_s, ge_z, ga_s, ga_z, tk_s, tk_z, tk_n, dr_s, dr_z, tsz3, tsz5, tsz7, tsz13, tsz18, tsz22, tsz23, tsz24, tsz25, tsz26, tsz38, tsz39, tsz53, tsz54, tsz62, tsz63, tsz84, tsz85, tsz101, tsz102, tsz110, cond_true, cond_false, ln_s, ln_z, zp_s, zp_z, Int.toNat_zero, Int.toNat_natCast, ba_n, ba_c, bo_lit, bo_agg, bo_sl, bo_adr, bo_iadr, bo_any, bo_zl, bo_clo, bo_row0, bo_sub0, ad_row, ad_sub, ad_win, ad_sl, ad_lit, ad_zl, up_0, up_1z, up_1s, up_2z, up_2o, up_2s, loopR, ap_s, ap_z, Nat.reduceAdd, Nat.reduceMul, Nat.add_zero, Nat.zero_add, ren, renL, renO, mp_s, mp_z, thenR, blockR, setMany, chunks, ch_s, ch_z, ta_l, rp_s, rp_z, Value.cells, List.flatten_cons, List.flatten_nil]) | refine CS.seq fun K hK => ?_ | (refine CS.regl [true, true, true, false, false, false, false, false, false, false, false, false, false, false, false, false, false, false, false, false, false, false, false] (fun K0 hK0 => ?_); try dsimp only [mp_s, mp_z]) | (refine CS.drawl tab [true, true, true, false, false, false, false, false, false, false, false, false, false, false, false, false, false, false, false, false, false, false, false] (fun K1 hK1 => ?_); try dsimp only [mp_s, mp_z]) | (refine hK _ _ ?_; clear hK K) | (clear hK K; refine hK _ _ ?_; clear hK K) | (clear hK K; clear hK K; refine hK _ _ ?_; clear hK K) | (clear hK K; clear hK K; clear hK K; refine hK _ _ ?_; clear hK K) | ((first | refine CS_ret ?_ | refine CS_skip ?_ | refine CS_exit ?_ | rw [if_pos rfl] | rw [if_neg (by decide)]); try dsimp only [thenR, blockR, loopR]) | refine CS.blk ?_ | refine CS.yes rfl ?_ | refine CS.no rfl ?_ | simp only [beq_self_eq_true, List.append_nil, rd])
  exact hR0 _ _ _ (by exact GS.refl ⟨(by first | exact .inr rfl | exact .inl rfl), _, [], gresT_ok tab rfl, by decide, rfl, rfl, rfl, rfl⟩)
end Go.Gh

