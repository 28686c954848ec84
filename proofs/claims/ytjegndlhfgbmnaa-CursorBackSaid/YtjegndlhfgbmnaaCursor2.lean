import Derived.Test.YtjegndlhfgbmnaaCursor
import Derived.Test.YtjegndlhfgbmnaaOctet5

namespace Go.Gh
open Go.Proofs
set_option linter.unusedVariables false
set_option linter.unusedSimpArgs false

/-! Layer 19: marks, and cursors. -/

def mark0 (b : List (Int × Int × Int)) : Int := fnv 14695981039346656037 (pack b)
def markv (b : List (Int × Int × Int)) (client : Int) : Int := fnv (mark0 b) (be (client % 18446744073709551616) 8)
def curh (mk after : Int) : List Int := be mk 8 ++ be after 8
def curv (b : List (Int × Int × Int)) (client after : Int) : List Int := curh (markv b client) after ++ be (fnv (markv b client) (curh (markv b client) after)) 8
theorem mark0_rng (b : List (Int × Int × Int)) : 0 ≤ mark0 b ∧ mark0 b < 18446744073709551616 := fnv_rng (by decide) _
theorem markv_rng (b : List (Int × Int × Int)) (c : Int) : 0 ≤ markv b c ∧ markv b c < 18446744073709551616 := fnv_rng (mark0_rng b) _
theorem curh_byt (m a : Int) : byt (curh m a) := byt_app (be_byt _ _) (be_byt _ _)
theorem curh_len (m a : Int) : (curh m a).length = 16 := by unfold curh; rw [List.length_append, be_len, be_len]
theorem curv_byt (b : List (Int × Int × Int)) (c a : Int) : byt (curv b c a) := byt_app (curh_byt _ _) (be_byt _ _)
theorem curv_len (b : List (Int × Int × Int)) (c a : Int) : (curv b c a).length = 24 := by unfold curv; rw [List.length_append, curh_len, be_len]


set_option maxHeartbeats 4000000 in
theorem CMark_fs {bw : Bool} {l : List (Int × Int × Int)} {ex : List (List GV)} (c : Int) (hl : l.length ≤ 1000000) (hr : ∀ r, r ∈ l → rgok r) : FS Try.prog 12 [.sl bw 3 (l.map rgc) ex, .lit (.int .i64 c)] [] (.lit (.int .u64 (markv l c))) [] := by
  refine FS.enterG Try.func12 rfl fun R0 hR0 => ?_
  simp only [Try.ntmps12, List.length_cons, List.length_nil, List.replicate_succ, List.replicate_zero, List.cons_append, List.nil_append, Nat.reduceAdd, Nat.reduceSub]
  have w1 : IntKind.u64.wrap c = c % 18446744073709551616 := wrap_u64 _
  have h0 : 0 ≤ c % 18446744073709551616 := by omega
  have p1 := pack_byt l
  have p2 : (pack l).length ≤ 1000000000 := by rw [pack_len]; omega
  have p3 := be_byt (c % 18446744073709551616) 8
  have p4 : (be (c % 18446744073709551616) 8).length ≤ 1000000000 := by rw [be_len]; decide
  unfold markv mark0 at hR0
  obtain ⟨P, hP⟩ : ∃ P, pack l = P := ⟨_, rfl⟩
  obtain ⟨E, hE⟩ : ∃ E, be (c % 18446744073709551616) 8 = E := ⟨_, rfl⟩
  rw [hP] at p1 p2 hR0
  rw [hE] at p3 p4 hR0
  repeat (first | (refine TW.tw ?_; (first | refine TW.au tab rfl rfl rfl rfl rfl ?_|(refine TW.nil ?_; (first | (refine hK0 _ _ ?_; clear hK0 K0) | (refine hK1 _ _ _ (by kernel_rfl) ?_; clear hK1 K1)); try dsimp only [thenR, blockR, loopR, mk_t, mk_f, mk_n]; try simp only [w1, hP, hE])|refine TW.wt rfl rfl rfl ?_|refine TW.sk rfl rfl rfl rfl rfl ?_|refine TW.su rfl rfl rfl rfl ?_|(refine TW.kc 25 rfl ?_; (try simp only [w1, hP, hE]); first | refine TW.c0 tab rfl rfl rfl rfl rfl (Ceight_fs _ (by assumption)) rfl rfl rfl rfl ?_)|(refine TW.kc 23 rfl ?_; (try simp only [w1, hP, hE]); first | refine TW.c0 tab rfl rfl rfl rfl rfl (Csum_fs _ (by assumption) (by assumption)) rfl rfl rfl rfl ?_)|(refine TW.kc 24 rfl ?_; (try simp only [w1, hP, hE]); first | refine TW.c0 tab rfl rfl rfl rfl rfl (BPack_fs (by assumption) (by assumption)) rfl rfl rfl rfl ?_)|(refine TW.kd 4 rfl ?_; first | refine TW.sr tab rfl rfl rfl rfl rfl rfl (by first | exact gbytes_map _ | rfl) rfl ?_)|simp only [w1, hP, hE]); try dsimp only [dgz, dgzc, dg_setd, dg_renl, dg_tk, dg_rena, putS, rhoOf, updA, updL, qt, getM, List.set_cons_succ, List.set_cons_zero, gd_s, gd_z, ge_s, ge_z, ga_s, ga_z, tk_s, tk_z, tk_n, dr_s, dr_z, tsz5, tsz7, tsz13, tsz18, tsz28, tsz29, tsz48, tsz49, tsz55, tsz56, tsz61, tsz62, tsz72, tsz73, tsz82, cond_true, cond_false, ln_s, ln_z, zp_s, zp_z, Int.toNat_zero, Int.toNat_natCast, ba_n, ba_c, bo_lit, bo_agg, bo_sl, bo_adr, bo_iadr, bo_any, bo_zl, bo_clo, bo_row0, bo_sub0, ad_row, ad_sub, ad_win, ad_sl, ad_lit, ad_zl, up_0, up_1z, up_1s, up_2z, up_2o, up_2s, loopR, ap_s, ap_z, Nat.reduceAdd, Nat.reduceMul, Nat.add_zero, Nat.zero_add, ren, renL, renO, mp_s, mp_z, thenR, blockR, setMany, chunks, ch_s, ch_z, ta_l, rp_s, rp_z, Value.cells, List.flatten_cons, List.flatten_nil]) | refine CS.seq fun K hK => ?_|(refine CS.regl [true, true, false, false, true, false, false, false, false, false, false, false] (fun K0 hK0 => ?_); try dsimp only [mp_s, mp_z])|(refine CS.drawl tab [true, true, false, false, true, false, false, false, false, false, false, false] (fun K1 hK1 => ?_); try dsimp only [mp_s, mp_z])|(refine hK _ _ ?_; clear hK K)|(clear hK K; refine hK _ _ ?_; clear hK K)|(clear hK K; clear hK K; refine hK _ _ ?_; clear hK K)|(clear hK K; clear hK K; clear hK K; refine hK _ _ ?_; clear hK K)|((first | refine CS_ret ?_ | refine CS_skip ?_ | refine CS_exit ?_ | rw [if_pos rfl] | rw [if_neg (by decide)]); try dsimp only [thenR, blockR, loopR])|refine CS.blk ?_|refine CS.yes rfl ?_|refine CS.no rfl ?_|simp only [w1, hP, hE])
  exact hR0 _ _ _ (by exact GS.refl ⟨(by first | exact .inr rfl | exact .inl rfl), _, [], gresT_ok tab rfl, by decide, rfl, rfl, rfl, rfl⟩)


set_option maxHeartbeats 4000000 in
theorem CPack_fs {bw : Bool} {l : List (Int × Int × Int)} {ex : List (List GV)} (c a : Int) (hl : l.length ≤ 1000000) (hr : ∀ r, r ∈ l → rgok r) (ha : 0 ≤ a) : FS Try.prog 15 [.sl bw 3 (l.map rgc) ex, .lit (.int .i64 c), .lit (.int .u64 a)] [] (.sl false 1 ((curv l c a).map bG) []) [] := by
  refine FS.frz (e := 5) ?_
  refine FS.enterG Try.func15 rfl fun R0 hR0 => ?_
  simp only [Try.ntmps15, List.length_cons, List.length_nil, List.replicate_succ, List.replicate_zero, List.cons_append, List.nil_append, Nat.reduceAdd, Nat.reduceSub]
  have m1 := (markv_rng l c).1
  have m2 := (fnv_rng (markv_rng l c) (curh (markv l c) a)).1
  have q1 := curh_byt (markv l c) a
  have q2 : (curh (markv l c) a).length ≤ 1000000000 := by rw [curh_len]; decide
  have b1 : ((be (markv l c) 8).map bG).length + ((be a 8).map bG).length ≤ 137438953472 := by simp only [List.length_map, be_len]; decide
  have b2 : ((curh (markv l c) a).map bG).length + ((be (fnv (markv l c) (curh (markv l c) a)) 8).map bG).length ≤ 137438953472 := by simp only [List.length_map, be_len, curh_len]; decide
  rw [curv, List.map_append] at hR0
  have e1 : (be (markv l c) 8).map bG ++ (be a 8).map bG = (curh (markv l c) a).map bG := by unfold curh; rw [List.map_append]
  obtain ⟨m, hm⟩ : ∃ m, markv l c = m := ⟨_, rfl⟩
  rw [hm] at m1 m2 q1 q2 b1 b2 e1 hR0
  obtain ⟨H, hH⟩ : ∃ H, curh m a = H := ⟨_, rfl⟩
  rw [hH] at m2 q1 q2 b2 e1 hR0
  obtain ⟨f, hf⟩ : ∃ f, fnv m H = f := ⟨_, rfl⟩
  rw [hf] at m2 b2 hR0
  repeat (first | (refine TW.tw ?_; (first | refine TW.au tab rfl rfl rfl rfl rfl ?_|(refine TW.nil ?_; (first | (refine hK0 _ _ ?_; clear hK0 K0) | (refine hK1 _ _ _ (by kernel_rfl) ?_; clear hK1 K1)); try dsimp only [thenR, blockR, loopR, mk_t, mk_f, mk_n]; try simp only [hm, e1, hf])|refine TW.wt rfl rfl rfl ?_|refine TW.sk rfl rfl rfl rfl rfl ?_|refine TW.su rfl rfl rfl rfl ?_|(refine TW.kc 12 rfl ?_; (try simp only [hm, e1, hf]); first | refine TW.c0 tab rfl rfl rfl rfl rfl (CMark_fs _ (by assumption) (by assumption)) rfl rfl rfl rfl ?_)|(refine TW.kc 25 rfl ?_; (try simp only [hm, e1, hf]); first | refine TW.c0 tab rfl rfl rfl rfl rfl (Ceight_fs _ (by assumption)) rfl rfl rfl rfl ?_)|(refine TW.kc 23 rfl ?_; (try simp only [hm, e1, hf]); first | refine TW.c0 tab rfl rfl rfl rfl rfl (Csum_fs _ (by assumption) (by assumption)) rfl rfl rfl rfl ?_)|(refine TW.kd 10 rfl ?_; first | refine TW.an' tab rfl rfl rfl rfl rfl rfl (by first|assumption|decide|omega|(simp;done)|(simp;omega)) rfl rfl ?_|refine TW.ar' tab rfl rfl rfl rfl rfl rfl rfl rfl (by first|assumption|decide|omega|(simp;done)|(simp;omega)) rfl rfl ?_|refine TW.af tab rfl rfl rfl rfl (Nat.le_of_ble_eq_true rfl) rfl rfl (by first|assumption|decide|omega|(simp;done)|(simp;omega)) rfl rfl ?_)|(refine TW.kd4 44 rfl ?_; first | refine TW.gw tab rfl rfl rfl rfl rfl rfl rfl (by first|assumption|decide|omega|(simp;done)|(simp;omega)) (by first|assumption|decide|omega|(simp;done)|(simp;omega)) (by first|assumption|decide|omega|(simp;done)|(simp;omega)) rfl rfl ?_|refine TW.gz tab rfl rfl rfl rfl rfl rfl rfl rfl rfl (by first|assumption|decide|omega|(simp;done)|(simp;omega)) (by first|assumption|decide|omega|(simp;done)|(simp;omega)) (by first|assumption|decide|omega|(simp;done)|(simp;omega)) (by first|assumption|decide|omega|(simp;done)|(simp;omega)) rfl rfl ?_)|simp only [hm, e1, hf]); try dsimp only [dgz, dgzc, dg_setd, dg_renl, dg_tk, dg_rena, putS, rhoOf, updA, updL, qt, getM, List.set_cons_succ, List.set_cons_zero, gd_s, gd_z, ge_s, ge_z, ga_s, ga_z, tk_s, tk_z, tk_n, dr_s, dr_z, tsz5, tsz7, tsz13, tsz18, tsz28, tsz29, tsz48, tsz49, tsz55, tsz56, tsz61, tsz62, tsz72, tsz73, tsz82, cond_true, cond_false, ln_s, ln_z, zp_s, zp_z, Int.toNat_zero, Int.toNat_natCast, ba_n, ba_c, bo_lit, bo_agg, bo_sl, bo_adr, bo_iadr, bo_any, bo_zl, bo_clo, bo_row0, bo_sub0, ad_row, ad_sub, ad_win, ad_sl, ad_lit, ad_zl, up_0, up_1z, up_1s, up_2z, up_2o, up_2s, loopR, ap_s, ap_z, Nat.reduceAdd, Nat.reduceMul, Nat.add_zero, Nat.zero_add, ren, renL, renO, mp_s, mp_z, thenR, blockR, setMany, chunks, ch_s, ch_z, ta_l, rp_s, rp_z, Value.cells, List.flatten_cons, List.flatten_nil]) | refine CS.seq fun K hK => ?_|(refine CS.regl [true, true, true, false, false, false, true, true, true, false, false, false, false, false, false, false, false, false, false, false, false, false, false] (fun K0 hK0 => ?_); try dsimp only [mp_s, mp_z])|(refine CS.drawl tab [true, true, true, false, false, false, true, true, true, false, false, false, false, false, false, false, false, false, false, false, false, false, false] (fun K1 hK1 => ?_); try dsimp only [mp_s, mp_z])|(refine hK _ _ ?_; clear hK K)|(clear hK K; refine hK _ _ ?_; clear hK K)|(clear hK K; clear hK K; refine hK _ _ ?_; clear hK K)|(clear hK K; clear hK K; clear hK K; refine hK _ _ ?_; clear hK K)|((first | refine CS_ret ?_ | refine CS_skip ?_ | refine CS_exit ?_ | rw [if_pos rfl] | rw [if_neg (by decide)]); try dsimp only [thenR, blockR, loopR])|refine CS.blk ?_|refine CS.yes rfl ?_|refine CS.no rfl ?_|simp only [hm, e1, hf])
  exact hR0 _ _ _ (by first | exact GS.refl ⟨.inr rfl, _, [0], gresT_ok tab rfl, by decide, rfl, rfl, rfl, rfl⟩|exact GS.refl ⟨.inr rfl, _, [1], gresT_ok tab rfl, by decide, rfl, rfl, rfl, rfl⟩|exact GS.refl ⟨.inr rfl, _, [2], gresT_ok tab rfl, by decide, rfl, rfl, rfl, rfl⟩|exact GS.refl ⟨.inr rfl, _, [3], gresT_ok tab rfl, by decide, rfl, rfl, rfl, rfl⟩|exact GS.refl ⟨.inr rfl, _, [4], gresT_ok tab rfl, by decide, rfl, rfl, rfl, rfl⟩|exact GS.refl ⟨.inr rfl, _, [5], gresT_ok tab rfl, by decide, rfl, rfl, rfl, rfl⟩|exact GS.refl ⟨.inr rfl, _, [6], gresT_ok tab rfl, by decide, rfl, rfl, rfl, rfl⟩|exact GS.refl ⟨.inr rfl, _, [7], gresT_ok tab rfl, by decide, rfl, rfl, rfl, rfl⟩|exact GS.refl ⟨.inr rfl, _, [8], gresT_ok tab rfl, by decide, rfl, rfl, rfl, rfl⟩|exact GS.refl ⟨.inr rfl, _, [9], gresT_ok tab rfl, by decide, rfl, rfl, rfl, rfl⟩|exact GS.refl ⟨.inr rfl, _, [10], gresT_ok tab rfl, by decide, rfl, rfl, rfl, rfl⟩|exact GS.refl ⟨.inr rfl, _, [11], gresT_ok tab rfl, by decide, rfl, rfl, rfl, rfl⟩|exact GS.refl ⟨.inr rfl, _, [12], gresT_ok tab rfl, by decide, rfl, rfl, rfl, rfl⟩|exact GS.refl ⟨.inr rfl, _, [13], gresT_ok tab rfl, by decide, rfl, rfl, rfl, rfl⟩|exact GS.refl ⟨.inr rfl, _, [14], gresT_ok tab rfl, by decide, rfl, rfl, rfl, rfl⟩|exact GS.refl ⟨.inr rfl, _, [15], gresT_ok tab rfl, by decide, rfl, rfl, rfl, rfl⟩|exact GS.refl ⟨.inr rfl, _, [16], gresT_ok tab rfl, by decide, rfl, rfl, rfl, rfl⟩|exact GS.refl ⟨.inr rfl, _, [17], gresT_ok tab rfl, by decide, rfl, rfl, rfl, rfl⟩|exact GS.refl ⟨.inr rfl, _, [18], gresT_ok tab rfl, by decide, rfl, rfl, rfl, rfl⟩|exact GS.refl ⟨.inr rfl, _, [19], gresT_ok tab rfl, by decide, rfl, rfl, rfl, rfl⟩|exact GS.refl ⟨.inr rfl, _, [20], gresT_ok tab rfl, by decide, rfl, rfl, rfl, rfl⟩|exact GS.refl ⟨.inr rfl, _, [21], gresT_ok tab rfl, by decide, rfl, rfl, rfl, rfl⟩|exact GS.refl ⟨.inr rfl, _, [22], gresT_ok tab rfl, by decide, rfl, rfl, rfl, rfl⟩|exact GS.refl ⟨.inr rfl, _, [23], gresT_ok tab rfl, by decide, rfl, rfl, rfl, rfl⟩)
end Go.Gh

