import Derived.Test.YtdfffblpnfkolaaGreedy2
import Derived.Test.YtdfffblpnfkolaaRingv3

namespace Go.Gh
open Go.Proofs
set_option linter.unusedVariables false
set_option linter.unusedSimpArgs false

/-! Layer 13: what a program that does nothing does not answer. -/
theorem rg102030 : Rg [10, 20, 30] := by
  have h := ((Rg.nil.add (v := 10) (by decide)).add (v := 20) (by decide)).add (v := 30) (by decide)
  exact h
theorem Made3_fs : FS Try.prog 6 [.sl true 1 [[.lit (.int .u32 10)], [.lit (.int .u32 20)], [.lit (.int .u32 30)]] []] [] (.tup [.adr 0 0 0, .adr 2 0 0]) [.cells [.row 1], .row 24 1 ([10, 20, 30].map uuG), .cells [.sl false 1 ([10, 20, 30].map uuG) []]] := by
  have h := Made_fs (l := [10, 20, 30]) (b1 := true) (e1 := []) (by decide)
  rw [show mde [10, 20, 30] = [10, 20, 30] by decide] at h
  exact h
theorem Way3_fs : FS Try.prog 9 [.adr 0 0 0, .lit (.map none), .lit (.int .u32 10), .lit (.int .u32 25)] [.cells [.row 1], .row 24 1 ([10, 20, 30].map uuG)] (.tup [.sl false 1 ([10, 20, 30].map uuG) [], .lit (.bool true)]) [.cells [.row 1], .row 24 1 ([10, 20, 30].map uuG)] := by
  have h := GrWay_fs (L := [10, 20, 30]) rg102030 (a := 10) (by decide) 25
  rw [show way [10, 20, 30] 10 25 = [10, 20, 30] by decide] at h
  exact h
theorem Pl3_fs : FS Try.prog 20 [.sl false 1 ([10, 20, 30].map uuG) [], .sl true 1 [[.lit (.int .u32 10)], [.lit (.int .u32 20)], [.lit (.int .u32 30)]] []] [] (.lit (.bool true)) [] := by
  have := PlainU32_fs (b1 := false) (b2 := true) (l := [10, 20, 30]) (r := [10, 20, 30]) (e1 := []) (e2 := []) (by decide)
  rw [show samb eqi [10, 20, 30] [10, 20, 30] = true by decide] at this
  exact this
set_option maxRecDepth 8000 in
set_option maxHeartbeats 4000000 in
theorem awake13_fs : FS Try.prog 7 [] [] (.lit (.bool true)) [] := by
  refine FS.enterG Try.func7 rfl fun R0 hR0 => ?_
  simp only [Try.ntmps7, List.length_cons, List.length_nil, List.replicate_succ, List.replicate_zero, List.cons_append, List.nil_append, Nat.reduceAdd, Nat.reduceSub]
  repeat (first | (refine TW.tw ?_; (first | refine TW.au tab rfl rfl rfl rfl rfl ?_|(refine TW.nil ?_; (first | (refine hK0 _ _ ?_; clear hK0 K0) | (refine hK1 _ _ _ (by kernel_rfl) ?_; clear hK1 K1)); try dsimp only [thenR, blockR, loopR, mk_t, mk_f, mk_n])|refine TW.wt rfl rfl rfl ?_|refine TW.sk rfl rfl rfl rfl rfl ?_|refine TW.su rfl rfl rfl rfl ?_|(refine TW.kc 20 rfl ?_; first | refine TW.c0 tab rfl rfl rfl rfl rfl (Pl3_fs ) rfl rfl rfl rfl ?_|refine TW.c0 tab rfl rfl rfl rfl rfl (PlainU32_fs (by assumption)) rfl rfl rfl rfl ?_)|(refine TW.kc 9 rfl ?_; first | refine TW.co2 tab rfl rfl rfl rfl rfl rfl rfl rfl rfl rfl (Way3_fs ) rfl rfl rfl rfl rfl ?_)|(refine TW.kc 6 rfl ?_; first | refine TW.c0 tab rfl rfl rfl rfl rfl (Made3_fs ) rfl rfl rfl rfl ?_)|(refine TW.kd 3 rfl ?_; first | refine TW.bm tab rfl rfl rfl rfl rfl (by decide) rfl rfl rfl rfl rfl rfl ?_|refine TW.bl tab rfl rfl rfl rfl rfl (by decide) rfl rfl rfl rfl rfl rfl rfl ?_)); try dsimp only [dgz, dgzc, dg_setd, dg_renl, dg_tk, dg_rena, putS, rhoOf, updA, updL, qt, getM, List.set_cons_succ, List.set_cons_zero, gd_s, gd_z, ge_s, ge_z, ga_s, ga_z, tk_s, tk_z, tk_n, dr_s, dr_z, tsz7, tsz13, tsz18, tsz22, tsz24, tsz29, tsz30, tsz47, tsz48, tsz58, tsz59, tsz64, tsz65, tsz67, tsz68, tsz77, tsz78, tsz87, cond_true, cond_false, ln_s, ln_z, zp_s, zp_z, Int.toNat_zero, Int.toNat_natCast, ba_n, ba_c, bo_lit, bo_mref, bo_agg, bo_sl, bo_adr, bo_iadr, bo_any, bo_zl, bo_clo, bo_row0, bo_sub0, ad_row, ad_sub, ad_win, ad_sl, ad_lit, ad_zl, up_0, up_1z, up_1s, up_2z, up_2o, up_2s, loopR, ap_s, ap_z, Nat.reduceAdd, Nat.reduceMul, Nat.add_zero, Nat.zero_add, ren, renL, renO, mp_s, mp_z, thenR, blockR, setMany, chunks, ch_s, ch_z, ta_l, rp_s, rp_z, Value.cells, List.flatten_cons, List.flatten_nil]) | refine CS.seq fun K hK => ?_|(refine CS.regl [true, true, false, true, true, false, false, false, false, false, false, false, false, false, false, false, false, false, false, false, false] (fun K0 hK0 => ?_); try dsimp only [mp_s, mp_z])|(refine CS.drawl tab [true, true, false, true, true, false, false, false, false, false, false, false, false, false, false, false, false, false, false, false, false] (fun K1 hK1 => ?_); try dsimp only [mp_s, mp_z])|(refine hK _ _ ?_; clear hK K)|(clear hK K; refine hK _ _ ?_; clear hK K)|(clear hK K; clear hK K; refine hK _ _ ?_; clear hK K)|(clear hK K; clear hK K; clear hK K; refine hK _ _ ?_; clear hK K)|((first | refine CS_ret ?_ | refine CS_skip ?_ | refine CS_exit ?_ | rw [if_pos rfl] | rw [if_neg (by decide)]); try dsimp only [thenR, blockR, loopR])|refine CS.blk ?_|refine CS.yes rfl ?_|refine CS.no rfl ?_)
  exact hR0 _ _ _ (by exact GS.refl ⟨(by first | exact .inr rfl | exact .inl rfl), _, [], gresT_ok tab rfl, by decide, rfl, rfl, rfl, rfl⟩)
end Go.Gh

