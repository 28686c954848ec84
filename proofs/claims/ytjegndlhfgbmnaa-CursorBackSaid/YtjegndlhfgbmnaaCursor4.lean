import Derived.Test.YtjegndlhfgbmnaaCursor3
import Derived.Test.YtjegndlhfgbmnaaRefPack0

namespace Go.Gh
open Go.Proofs
set_option linter.unusedVariables false
set_option linter.unusedSimpArgs false


/-! Layer 19: the document's answer. -/


set_option maxHeartbeats 4000000 in
theorem RMark_fs {bw : Bool} {l : List (Int × Int × Int)} {ex : List (List GV)} (c : Int) (hl : l.length ≤ 1000000) (hr : ∀ r, r ∈ l → rgok r) : FS Try.prog 13 [.sl bw 3 (l.map rgc) ex, .lit (.int .i64 c)] [] (.lit (.int .u64 (markv l c))) [] := by
  refine FS.enterG Try.func13 rfl fun R0 hR0 => ?_
  simp only [Try.ntmps13, List.length_cons, List.length_nil, List.replicate_succ, List.replicate_zero, List.cons_append, List.nil_append, Nat.reduceAdd, Nat.reduceSub]
  have w1 : IntKind.u64.wrap c = c % 18446744073709551616 := wrap_u64 _
  have h0 : 0 ≤ c % 18446744073709551616 := by omega
  have p1 := pack_byt l
  have p2 : (pack l).length ≤ 1000000000 := by rw [pack_len]; omega
  have p3 := be_byt (c % 18446744073709551616) 8
  have p4 : (be (c % 18446744073709551616) 8).length ≤ 1000000000 := by rw [be_len]; decide
  unfold markv mark0 at hR0
  obtain ⟨P, hP⟩ : ∃ P, pack l = P := ⟨_, rfl⟩
  obtain ⟨E, hE⟩ : ∃ E, be (c % 18446744073709551616) 8 = E := ⟨_, rfl⟩
  rw [hP] at p1 p2 hR0
  rw [hE] at p3 p4 hR0
  repeat (first | (refine TW.tw ?_; (first | refine TW.au tab rfl rfl rfl rfl rfl ?_|(refine TW.nil ?_; (first | (refine hK0 _ _ ?_; clear hK0 K0) | (refine hK1 _ _ _ (by kernel_rfl) ?_; clear hK1 K1)); try dsimp only [thenR, blockR, loopR, mk_t, mk_f, mk_n]; try simp only [w1, hP, nby8, hE])|refine TW.wt rfl rfl rfl ?_|refine TW.sk rfl rfl rfl rfl rfl ?_|refine TW.su rfl rfl rfl rfl ?_|(refine TW.kc 28 rfl ?_; (try simp only [w1, hP, nby8, hE]); first | refine TW.c0 tab rfl rfl rfl rfl rfl (RPutN_fs _ _ (by first | assumption | decide)) rfl rfl rfl rfl ?_|refine TW.c0 tab rfl rfl rfl rfl rfl (RPut_fs _ _ (by first | assumption | decide) (by first | assumption | (simp only [List.length_append, be_len]; omega))) rfl rfl rfl rfl ?_)|(refine TW.kc 26 rfl ?_; (try simp only [w1, hP, nby8, hE]); first | refine TW.c0 tab rfl rfl rfl rfl rfl (Ron_fs _ (by assumption) (by assumption)) rfl rfl rfl rfl ?_)|(refine TW.kc 27 rfl ?_; (try simp only [w1, hP, nby8, hE]); first | refine TW.c0 tab rfl rfl rfl rfl rfl (RBPack_fs (by assumption) (by assumption)) rfl rfl rfl rfl ?_)|(refine TW.kd 4 rfl ?_; first | refine TW.sr tab rfl rfl rfl rfl rfl rfl (by first | exact gbytes_map _ | rfl) rfl ?_)|simp only [w1, hP, nby8, hE]); try dsimp only [dgz, dgzc, dg_setd, dg_renl, dg_tk, dg_rena, putS, rhoOf, updA, updL, qt, getM, List.set_cons_succ, List.set_cons_zero, gd_s, gd_z, ge_s, ge_z, ga_s, ga_z, tk_s, tk_z, tk_n, dr_s, dr_z, tsz5, tsz7, tsz13, tsz18, tsz28, tsz29, tsz48, tsz49, tsz55, tsz56, tsz61, tsz62, tsz72, tsz73, tsz82, cond_true, cond_false, ln_s, ln_z, zp_s, zp_z, Int.toNat_zero, Int.toNat_natCast, ba_n, ba_c, bo_lit, bo_agg, bo_sl, bo_adr, bo_iadr, bo_any, bo_zl, bo_clo, bo_row0, bo_sub0, ad_row, ad_sub, ad_win, ad_sl, ad_lit, ad_zl, up_0, up_1z, up_1s, up_2z, up_2o, up_2s, loopR, ap_s, ap_z, Nat.reduceAdd, Nat.reduceMul, Nat.add_zero, Nat.zero_add, ren, renL, renO, mp_s, mp_z, thenR, blockR, setMany, chunks, ch_s, ch_z, ta_l, rp_s, rp_z, Value.cells, List.flatten_cons, List.flatten_nil]) | refine CS.seq fun K hK => ?_|(refine CS.regl [true, true, false, false, true, false, false, false, false, false, false, false] (fun K0 hK0 => ?_); try dsimp only [mp_s, mp_z])|(refine CS.drawl tab [true, true, false, false, true, false, false, false, false, false, false, false] (fun K1 hK1 => ?_); try dsimp only [mp_s, mp_z])|(refine hK _ _ ?_; clear hK K)|(clear hK K; refine hK _ _ ?_; clear hK K)|(clear hK K; clear hK K; refine hK _ _ ?_; clear hK K)|(clear hK K; clear hK K; clear hK K; refine hK _ _ ?_; clear hK K)|((first | refine CS_ret ?_ | refine CS_skip ?_ | refine CS_exit ?_ | rw [if_pos rfl] | rw [if_neg (by decide)]); try dsimp only [thenR, blockR, loopR])|refine CS.blk ?_|refine CS.yes rfl ?_|refine CS.no rfl ?_|simp only [w1, hP, nby8, hE])
  exact hR0 _ _ _ (by exact GS.refl ⟨(by first | exact .inr rfl | exact .inl rfl), _, [], gresT_ok tab rfl, by decide, rfl, rfl, rfl, rfl⟩)


set_option maxHeartbeats 4000000 in
theorem RPack19_fs {bw : Bool} {l : List (Int × Int × Int)} {ex : List (List GV)} (c a : Int) (hl : l.length ≤ 1000000) (hr : ∀ r, r ∈ l → rgok r) (ha : 0 ≤ a) : FS Try.prog 16 [.sl bw 3 (l.map rgc) ex, .lit (.int .i64 c), .lit (.int .u64 a)] [] (.sl false 1 ((curv l c a).map bG) []) [] := by
  refine FS.enterG Try.func16 rfl fun R0 hR0 => ?_
  simp only [Try.ntmps16, List.length_cons, List.length_nil, List.replicate_succ, List.replicate_zero, List.cons_append, List.nil_append, Nat.reduceAdd, Nat.reduceSub]
  have m1 := (markv_rng l c).1
  have m2 := (fnv_rng (markv_rng l c) (curh (markv l c) a)).1
  have q1 := curh_byt (markv l c) a
  have q2 : (curh (markv l c) a).length ≤ 1000000000 := by rw [curh_len]; decide
  have q3 : (be (markv l c) 8).length ≤ 1000000000 := by rw [be_len]; decide
  rw [curv] at hR0
  obtain ⟨m, hm⟩ : ∃ m, markv l c = m := ⟨_, rfl⟩
  rw [hm] at m1 m2 q1 q2 q3 hR0
  have e1 : be m 8 ++ be a 8 = curh m a := rfl
  obtain ⟨H, hH⟩ : ∃ H, curh m a = H := ⟨_, rfl⟩
  rw [hH] at m2 q1 q2 e1 hR0
  obtain ⟨f, hf⟩ : ∃ f, fnv m H = f := ⟨_, rfl⟩
  rw [hf] at m2 hR0
  repeat (first | (refine TW.tw ?_; (first | refine TW.au tab rfl rfl rfl rfl rfl ?_|(refine TW.nil ?_; (first | (refine hK0 _ _ ?_; clear hK0 K0) | (refine hK1 _ _ _ (by kernel_rfl) ?_; clear hK1 K1)); try dsimp only [thenR, blockR, loopR, mk_t, mk_f, mk_n]; try simp only [hm, nby8, e1, hf])|refine TW.wt rfl rfl rfl ?_|refine TW.sk rfl rfl rfl rfl rfl ?_|refine TW.su rfl rfl rfl rfl ?_|(refine TW.kc 13 rfl ?_; (try simp only [hm, nby8, e1, hf]); first | refine TW.c0 tab rfl rfl rfl rfl rfl (RMark_fs _ (by assumption) (by assumption)) rfl rfl rfl rfl ?_)|(refine TW.kc 28 rfl ?_; (try simp only [hm, nby8, e1, hf]); first | refine TW.c0 tab rfl rfl rfl rfl rfl (RPutN_fs _ _ (by first | assumption | decide)) rfl rfl rfl rfl ?_|refine TW.c0 tab rfl rfl rfl rfl rfl (RPut_fs _ _ (by first | assumption | decide) (by first | assumption | (simp only [List.length_append, be_len]; omega))) rfl rfl rfl rfl ?_)|(refine TW.kc 26 rfl ?_; (try simp only [hm, nby8, e1, hf]); first | refine TW.c0 tab rfl rfl rfl rfl rfl (Ron_fs _ (by assumption) (by assumption)) rfl rfl rfl rfl ?_)|simp only [hm, nby8, e1, hf]); try dsimp only [dgz, dgzc, dg_setd, dg_renl, dg_tk, dg_rena, putS, rhoOf, updA, updL, qt, getM, List.set_cons_succ, List.set_cons_zero, gd_s, gd_z, ge_s, ge_z, ga_s, ga_z, tk_s, tk_z, tk_n, dr_s, dr_z, tsz5, tsz7, tsz13, tsz18, tsz28, tsz29, tsz48, tsz49, tsz55, tsz56, tsz61, tsz62, tsz72, tsz73, tsz82, cond_true, cond_false, ln_s, ln_z, zp_s, zp_z, Int.toNat_zero, Int.toNat_natCast, ba_n, ba_c, bo_lit, bo_agg, bo_sl, bo_adr, bo_iadr, bo_any, bo_zl, bo_clo, bo_row0, bo_sub0, ad_row, ad_sub, ad_win, ad_sl, ad_lit, ad_zl, up_0, up_1z, up_1s, up_2z, up_2o, up_2s, loopR, ap_s, ap_z, Nat.reduceAdd, Nat.reduceMul, Nat.add_zero, Nat.zero_add, ren, renL, renO, mp_s, mp_z, thenR, blockR, setMany, chunks, ch_s, ch_z, ta_l, rp_s, rp_z, Value.cells, List.flatten_cons, List.flatten_nil]) | refine CS.seq fun K hK => ?_|(refine CS.regl [true, true, true, false, false, false, true, true, true, false, false, false, false, false, false, false, false, false, false, false, false] (fun K0 hK0 => ?_); try dsimp only [mp_s, mp_z])|(refine CS.drawl tab [true, true, true, false, false, false, true, true, true, false, false, false, false, false, false, false, false, false, false, false, false] (fun K1 hK1 => ?_); try dsimp only [mp_s, mp_z])|(refine hK _ _ ?_; clear hK K)|(clear hK K; refine hK _ _ ?_; clear hK K)|(clear hK K; clear hK K; refine hK _ _ ?_; clear hK K)|(clear hK K; clear hK K; clear hK K; refine hK _ _ ?_; clear hK K)|((first | refine CS_ret ?_ | refine CS_skip ?_ | refine CS_exit ?_ | rw [if_pos rfl] | rw [if_neg (by decide)]); try dsimp only [thenR, blockR, loopR])|refine CS.blk ?_|refine CS.yes rfl ?_|refine CS.no rfl ?_|simp only [hm, nby8, e1, hf])
  exact hR0 _ _ _ (by exact GS.refl ⟨(by first | exact .inr rfl | exact .inl rfl), _, [], gresT_ok tab rfl, by decide, rfl, rfl, rfl, rfl⟩)
end Go.Gh

