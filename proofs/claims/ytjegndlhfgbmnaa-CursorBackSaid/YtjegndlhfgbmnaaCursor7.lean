import Derived.Test.YtjegndlhfgbmnaaCursor6

namespace Go.Gh
open Go.Proofs
set_option linter.unusedVariables false
set_option linter.unusedSimpArgs false

/-! Layer 19: what a program that does nothing does not answer. -/
theorem CTakeN_fs {bw : Bool} {l : List (Int × Int × Int)} {ex : List (List GV)} (c : Int) (hl : l.length ≤ 1000000) (hr : ∀ r, r ∈ l → rgok r) :
    FS Try.prog 10 [.sl bw 3 (l.map rgc) ex, .lit (.int .i64 c), .lit (.slice none 0 0)] [] (.tup [.lit (.int .u64 0), .lit (.int .i64 18)]) [] := by
  refine FS.le (CTake_fs (b2 := false) (C := []) (e2 := []) c hl hr (fun c hc => by simp at hc)) (.cons (.refl _) (.cons (.refl _) (.cons (.nilS false 1) .nil)))
def bA : List (Int × Int × Int) := [(1, 0, 0)]
theorem bA_ok : ∀ r, r ∈ bA → rgok r := by intro r hr; simp only [bA, List.mem_singleton] at hr; subst hr; unfold rgok u32r; decide
def cA : List Int := curv bA 1 7
theorem cA_byt : byt cA := curv_byt _ _ _
theorem CPackA_fs : FS Try.prog 15 [.sl true 3 [[.lit (.int .i64 1), .lit (.int .u32 0), .lit (.int .u32 0)]] [], .lit (.int .i64 1), .lit (.int .u64 7)] [] (.sl false 1 (cA.map bG) []) [] :=
  CPack_fs (l := bA) 1 7 (by decide) bA_ok (by decide)
theorem CTakeA_fs : FS Try.prog 10 [.sl true 3 [[.lit (.int .i64 1), .lit (.int .u32 0), .lit (.int .u32 0)]] [], .lit (.int .i64 1), .sl false 1 (cA.map bG) []] [] (.tup [.lit (.int .u64 7), .lit (.int .i64 0)]) [] := by
  have := CTake_fs (b1 := true) (b2 := false) (l := bA) (C := cA) (e1 := []) (e2 := []) 1 (by decide) bA_ok cA_byt
  rw [show takok bA 1 cA = true from takok_curv bA 1 (by decide), show aft cA = 7 from aft_curv bA 1 (by decide)] at this
  exact this
theorem CTakeZ_fs : FS Try.prog 10 [.sl true 3 [[.lit (.int .i64 1), .lit (.int .u32 0), .lit (.int .u32 0)]] [], .lit (.int .i64 1), .lit (.slice none 0 0)] [] (.tup [.lit (.int .u64 0), .lit (.int .i64 18)]) [] :=
  CTakeN_fs (l := bA) 1 (by decide) bA_ok


set_option maxHeartbeats 4000000 in
theorem awake19_fs : FS Try.prog 7 [] [] (.lit (.bool true)) [] := by
  refine FS.enterG Try.func7 rfl fun R0 hR0 => ?_
  simp only [Try.ntmps7, List.length_cons, List.length_nil, List.replicate_succ, List.replicate_zero, List.cons_append, List.nil_append, Nat.reduceAdd, Nat.reduceSub]
  repeat (first | (refine TW.tw ?_; (first | refine TW.au tab rfl rfl rfl rfl rfl ?_|(refine TW.nil ?_; (first | (refine hK0 _ _ ?_; clear hK0 K0) | (refine hK1 _ _ _ (by kernel_rfl) ?_; clear hK1 K1)); try dsimp only [thenR, blockR, loopR, mk_t, mk_f, mk_n]; try simp only [beq_self_eq_true])|refine TW.wt rfl rfl rfl ?_|refine TW.sk rfl rfl rfl rfl rfl ?_|refine TW.su rfl rfl rfl rfl ?_|(refine TW.kc 10 rfl ?_; first | refine TW.c0 tab rfl rfl rfl rfl rfl (CTakeZ_fs ) rfl rfl rfl rfl ?_|refine TW.c0 tab rfl rfl rfl rfl rfl (CTakeA_fs ) rfl rfl rfl rfl ?_|refine TW.c0 tab rfl rfl rfl rfl rfl (CTake_fs _ (by assumption) (by assumption) (by assumption)) rfl rfl rfl rfl ?_)|(refine TW.kc 15 rfl ?_; first | refine TW.c0 tab rfl rfl rfl rfl rfl (CPackA_fs ) rfl rfl rfl rfl ?_|refine TW.c0 tab rfl rfl rfl rfl rfl (CPack_fs _ _ (by assumption) (by assumption) (by assumption)) rfl rfl rfl rfl ?_)|(refine TW.kd 3 rfl ?_; first | refine TW.bm tab rfl rfl rfl rfl rfl (by decide) rfl rfl rfl rfl rfl rfl ?_|refine TW.bl tab rfl rfl rfl rfl rfl (by decide) rfl rfl rfl rfl rfl rfl rfl ?_)|(refine TW.kd3 34 rfl ?_; first | refine TW.ba tab rfl rfl rfl rfl rfl rfl rfl rfl rfl rfl (by first | exact Or.inl ⟨rfl, rfl⟩ | exact Or.inr ⟨rfl, rfl⟩) rfl ?_)|(refine TW.kd4 49 rfl ?_; first | refine TW.sn tab rfl rfl rfl rfl rfl rfl rfl ?_)|simp only [beq_self_eq_true]); try dsimp only [dgz, dgzc, dg_setd, dg_renl, dg_tk, dg_rena, putS, rhoOf, updA, updL, qt, getM, List.set_cons_succ, List.set_cons_zero, gd_s, gd_z, ge_s, ge_z, ga_s, ga_z, tk_s, tk_z, tk_n, dr_s, dr_z, tsz5, tsz7, tsz13, tsz18, tsz28, tsz29, tsz48, tsz49, tsz55, tsz56, tsz61, tsz62, tsz72, tsz73, tsz82, cond_true, cond_false, ln_s, ln_z, zp_s, zp_z, Int.toNat_zero, Int.toNat_natCast, ba_n, ba_c, bo_lit, bo_agg, bo_sl, bo_adr, bo_iadr, bo_any, bo_zl, bo_clo, bo_row0, bo_sub0, ad_row, ad_sub, ad_win, ad_sl, ad_lit, ad_zl, up_0, up_1z, up_1s, up_2z, up_2o, up_2s, loopR, ap_s, ap_z, Nat.reduceAdd, Nat.reduceMul, Nat.add_zero, Nat.zero_add, ren, renL, renO, mp_s, mp_z, thenR, blockR, setMany, chunks, ch_s, ch_z, ta_l, rp_s, rp_z, Value.cells, List.flatten_cons, List.flatten_nil]) | refine CS.seq fun K hK => ?_|(refine CS.regl [true, true, true, true, false, true, false, false, false, false, false, false, false, false, false, false, false, false, false, false, false, false, false, false, false, false, false, false, false, false] (fun K0 hK0 => ?_); try dsimp only [mp_s, mp_z])|(refine CS.drawl tab [true, true, true, true, false, true, false, false, false, false, false, false, false, false, false, false, false, false, false, false, false, false, false, false, false, false, false, false, false, false] (fun K1 hK1 => ?_); try dsimp only [mp_s, mp_z])|(refine hK _ _ ?_; clear hK K)|(clear hK K; refine hK _ _ ?_; clear hK K)|(clear hK K; clear hK K; refine hK _ _ ?_; clear hK K)|(clear hK K; clear hK K; clear hK K; refine hK _ _ ?_; clear hK K)|((first | refine CS_ret ?_ | refine CS_skip ?_ | refine CS_exit ?_ | rw [if_pos rfl] | rw [if_neg (by decide)]); try dsimp only [thenR, blockR, loopR])|refine CS.blk ?_|refine CS.yes rfl ?_|refine CS.no rfl ?_|simp only [beq_self_eq_true])
  exact hR0 _ _ _ (by exact GS.refl ⟨(by first | exact .inr rfl | exact .inl rfl), _, [], gresT_ok tab rfl, by decide, rfl, rfl, rfl, rfl⟩)
end Go.Gh

