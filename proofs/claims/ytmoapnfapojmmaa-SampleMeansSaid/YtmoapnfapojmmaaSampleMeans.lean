import Derived.Test.YtmoapnfapojmmaaSample

namespace Go.Gh
open Go.Proofs
set_option linter.unusedVariables false
set_option linter.unusedSimpArgs false

/-! Layer 16: SampleMeans. -/
theorem mod_in (n : Int) {m : Int} (h0 : 0 < m) (h1 : m ≤ 4294967296) : ∃ N : Nat, (N : Int) < m ∧ IntKind.i64.wrap ((IntKind.u64.wrap n).tmod m) = (N : Int) := by
  have e2 : 0 ≤ IntKind.u64.wrap n := by rw [wrap_u64]; omega
  rw [Int.tmod_eq_emod_of_nonneg e2]
  have h2 := Int.emod_nonneg (IntKind.u64.wrap n) (show m ≠ 0 by omega)
  have h3 := Int.emod_lt_of_pos (IntKind.u64.wrap n) h0
  refine ⟨(IntKind.u64.wrap n % m).toNat, by omega, ?_⟩
  rw [wrap_i64 _ (by omega) (by omega)]; omega
theorem mean_neg (l : List (Int × Int)) (N : Nat) : meanV (l ++ [(0, -1 - (N : Int))]) = meanV (l ++ [(0, 0)]) := by
  unfold meanV
  rw [lsum_app, lsum_app, List.length_append, List.length_append]
  have e : lsum [((0 : Int), -1 - (N : Int))] = lsum [((0 : Int), (0 : Int))] := by
    simp only [lsum]
    unfold cl
    (repeat' split) <;> omega
  rw [e]; rfl
theorem mean_zero (l : List (Int × Int)) : meanV (l ++ [(0, 0)]) ≤ meanV l := by
  unfold meanV
  rw [lsum_app, List.length_append, show lsum [((0 : Int), (0 : Int))] = 0 from rfl, Int.add_zero]
  have hr := lsum_rng l
  cases l with
  | nil => decide
  | cons x l =>
    have hS : 0 ≤ lsum (x :: l) * 256 := by omega
    generalize lsum (x :: l) * 256 = S at *
    obtain ⟨k, hk⟩ : ∃ k : Int, (((x :: l).length : Nat) : Int) = k := ⟨_, rfl⟩
    have hk0 : 0 < k := by rw [← hk, List.length_cons]; omega
    rw [show ((((x :: l).length + [((0 : Int), (0 : Int))].length : Nat)) : Int) = k + 1 by rw [← hk, List.length_singleton]; omega, hk]
    have h1 := Int.ediv_mul_le S (show k + 1 ≠ 0 by omega)
    have h2 := Int.ediv_nonneg hS (show 0 ≤ k + 1 by omega)
    refine Int.le_ediv_of_mul_le hk0 ?_
    rw [Int.mul_add] at h1
    omega
theorem mean_twice (l : List (Int × Int)) : meanV (l ++ l) = meanV l := by
  unfold meanV
  rw [lsum_app, List.length_append]
  have e1 : (lsum l + lsum l) * 256 = 2 * (lsum l * 256) := by omega
  have e2 : ((l.length + l.length : Nat) : Int) = 2 * (l.length : Int) := by omega
  rw [e1, e2, Int.mul_ediv_mul_of_pos _ _ (by decide)]
set_option maxRecDepth 8000 in
set_option maxHeartbeats 16000000 in
theorem SampleMeans_fs {l : List (Int × Int)} {n : Int} {b1 : Bool} {e1 : List (List GV)} :
    FS Try.prog 6 [.sl b1 2 (l.map ldG) e1, .lit (.int .i64 n)] [] (.lit (.bool true)) [] := by
  refine FS.enterG Try.func6 rfl fun R0 hR0 => ?_
  simp only [Try.ntmps6, List.length_cons, List.length_nil, List.replicate_succ, List.replicate_zero, List.cons_append, List.nil_append, Nat.reduceAdd, Nat.reduceSub]
  by_cases g : l.length > 60
  · have dg : decide ((l.length : Int) > 60) = true := decide_eq_true (by omega)
    repeat (first | (refine TW.tw ?_; (first | refine TW.au tab rfl rfl rfl rfl rfl ?_|(refine TW.nil ?_; (first | (refine hK0 _ _ ?_; clear hK0 K0) | (refine hK1 _ _ _ (by kernel_rfl) ?_; clear hK1 K1)); try dsimp only [thenR, blockR, loopR, mk_t, mk_f, mk_n]; try simp only [List.length_map, dg])|refine TW.wt rfl rfl rfl ?_|refine TW.sk rfl rfl rfl rfl rfl ?_|refine TW.su rfl rfl rfl rfl ?_|(refine TW.kc 10 rfl ?_; first | refine TW.c0 tab rfl rfl rfl rfl rfl (awake16_fs ) rfl rfl rfl rfl ?_)|(refine TW.kc 19 rfl ?_; first | refine TW.c0 tab rfl rfl rfl rfl rfl (Mean2_fs ) rfl rfl rfl rfl ?_|refine TW.c0 tab rfl rfl rfl rfl rfl (MeanN_fs ) rfl rfl rfl rfl ?_|refine TW.c0 tab rfl rfl rfl rfl rfl (Mean_fs (by first | assumption | omega)) rfl rfl rfl rfl ?_)|(refine TW.kd 3 rfl ?_; first | refine TW.bm tab rfl rfl rfl rfl rfl (by decide) rfl rfl rfl rfl rfl rfl ?_|refine TW.bl tab rfl rfl rfl rfl rfl (by decide) rfl rfl rfl rfl rfl rfl rfl ?_)|(refine TW.kd 7 rfl ?_; first | refine TW.dr rfl rfl rfl rfl (by first|assumption|decide|omega|(simp;done)|(simp;omega)) rfl ?_)|(refine TW.kd 10 rfl ?_; first | refine TW.an' tab rfl rfl rfl rfl rfl rfl (by first|assumption|decide|omega|(simp;done)|(simp;omega)) rfl rfl ?_|refine TW.ar' tab rfl rfl rfl rfl rfl rfl rfl rfl (by first|assumption|decide|omega|(simp;done)|(simp;omega)) rfl rfl ?_|refine TW.af tab rfl rfl rfl rfl (Nat.le_of_ble_eq_true rfl) rfl rfl (by first|assumption|decide|omega|(simp;done)|(simp;omega)) rfl rfl ?_)|(refine TW.kd 4 rfl ?_; first | refine TW.sr tab rfl rfl rfl rfl rfl rfl (by first | exact gbytes_map _ | rfl) rfl ?_)|(refine TW.kd3 34 rfl ?_; first | refine TW.ba tab rfl rfl rfl rfl rfl rfl rfl rfl rfl rfl (by first | exact Or.inl ⟨rfl, rfl⟩ | exact Or.inr ⟨rfl, rfl⟩) rfl ?_)|(refine TW.kd4 44 rfl ?_; first | refine TW.gw tab rfl rfl rfl rfl rfl rfl rfl (by first|assumption|decide|omega|(simp;done)|(simp;omega)) (by first|assumption|decide|omega|(simp;done)|(simp;omega)) (by first|assumption|decide|omega|(simp;done)|(simp;omega)) rfl rfl ?_|refine TW.gz tab rfl rfl rfl rfl rfl rfl rfl rfl rfl (by first|assumption|decide|omega|(simp;done)|(simp;omega)) (by first|assumption|decide|omega|(simp;done)|(simp;omega)) (by first|assumption|decide|omega|(simp;done)|(simp;omega)) (by first|assumption|decide|omega|(simp;done)|(simp;omega)) rfl rfl ?_)|(refine TW.kd4 49 rfl ?_; first | refine TW.sn tab rfl rfl rfl rfl rfl rfl rfl ?_)|simp only [List.length_map, dg]); try dsimp only [dgz, dgzc, dg_setd, dg_renl, dg_tk, dg_rena, putS, rhoOf, updA, updL, qt, getM, List.set_cons_succ, List.set_cons_zero, gd_s, gd_z, ge_s, ge_z, ga_s, ga_z, tk_s, tk_z, tk_n, dr_s, dr_z, tsz7, tsz13, tsz18, tsz22, tsz24, tsz29, tsz30, tsz38, tsz39, tsz50, tsz51, tsz56, tsz57, tsz61, tsz62, tsz71, tsz72, tsz81, cond_true, cond_false, ln_s, ln_z, zp_s, zp_z, Int.toNat_zero, Int.toNat_natCast, ba_n, ba_c, bo_lit, bo_agg, bo_sl, bo_adr, bo_iadr, bo_any, bo_zl, bo_clo, bo_row0, bo_sub0, ad_row, ad_sub, ad_win, ad_sl, ad_lit, ad_zl, up_0, up_1z, up_1s, up_2z, up_2o, up_2s, loopR, ap_s, ap_z, Nat.reduceAdd, Nat.reduceMul, Nat.add_zero, Nat.zero_add, ren, renL, renO, mp_s, mp_z, thenR, blockR, setMany, chunks, ch_s, ch_z, ta_l, rp_s, rp_z, Value.cells, List.flatten_cons, List.flatten_nil]) | refine CS.seq fun K hK => ?_|(refine CS.regl [true, true, false, false, true, true, true, true, false, false, true, false, false, false, false, false, false, false, false, false, false, false, false, false, false, false, false, false, false, false, false, false, false, false, false, false, false, false, false, false, false, false, false, false, false, false, false, false, false, false, false, false, false] (fun K0 hK0 => ?_); try dsimp only [mp_s, mp_z])|(refine CS.drawl tab [true, true, false, false, true, true, true, true, false, false, true, false, false, false, false, false, false, false, false, false, false, false, false, false, false, false, false, false, false, false, false, false, false, false, false, false, false, false, false, false, false, false, false, false, false, false, false, false, false, false, false, false, false] (fun K1 hK1 => ?_); try dsimp only [mp_s, mp_z])|(refine hK _ _ ?_; clear hK K)|(clear hK K; refine hK _ _ ?_; clear hK K)|(clear hK K; clear hK K; refine hK _ _ ?_; clear hK K)|(clear hK K; clear hK K; clear hK K; refine hK _ _ ?_; clear hK K)|((first | refine CS_ret ?_ | refine CS_skip ?_ | refine CS_exit ?_ | rw [if_pos rfl] | rw [if_neg (by decide)]); try dsimp only [thenR, blockR, loopR])|refine CS.blk ?_|refine CS.yes rfl ?_|refine CS.no rfl ?_|simp only [List.length_map, dg])
    exact hR0 _ _ _ (by exact GS.refl ⟨(by first | exact .inr rfl | exact .inl rfl), _, [], gresT_ok tab rfl, by decide, rfl, rfl, rfl, rfl⟩)
  have dg : decide ((l.length : Int) > 60) = false := decide_eq_false (by omega)
  obtain ⟨N, hN, eN⟩ := mod_in n (m := 1048576) (by decide) (by decide)
  have wn : IntKind.i64.wrap (-1 - (N : Int)) = -1 - (N : Int) := by rw [wrap_i64 _ (by omega) (by omega)]
  have hl1 : l.length ≤ 1000 := by omega
  have hl2 : (l ++ [((0 : Int), -1 - (N : Int))]).length ≤ 1000 := by rw [List.length_append, List.length_singleton]; omega
  have hl3 : (l ++ [((0 : Int), (0 : Int))]).length ≤ 1000 := by rw [List.length_append, List.length_singleton]; omega
  have hl4 : (l ++ l).length ≤ 1000 := by rw [List.length_append]; omega
  have hb0 : (l.map ldG).length ≤ 137438953472 := by rw [List.length_map]; omega
  have hb1 : (l.map ldG).length + 1 ≤ 137438953472 := by rw [List.length_map]; omega
  have hb2 : (l.map ldG).length + (l.map ldG).length ≤ 137438953472 := by rw [List.length_map]; omega
  have ha1 : l.map ldG ++ [[GV.lit (.int .u32 0), GV.lit (.int .i64 (-1 - (N : Int)))]] = (l ++ [((0 : Int), -1 - (N : Int))]).map ldG := by rw [List.map_append]; rfl
  have ha2 : l.map ldG ++ [[GV.lit (.int .u32 0), GV.lit (.int .i64 0)]] = (l ++ [((0 : Int), (0 : Int))]).map ldG := by rw [List.map_append]; rfl
  have ha3 : l.map ldG ++ l.map ldG = (l ++ l).map ldG := by rw [List.map_append]
  have q1 := mean_neg l N
  have q2 : decide (meanV (l ++ [(0, 0)]) ≤ meanV l) = true := decide_eq_true (mean_zero l)
  have q3 := mean_twice l
  obtain ⟨A, hA⟩ : ∃ A, l ++ [((0 : Int), -1 - (N : Int))] = A := ⟨_, rfl⟩
  obtain ⟨B, hB⟩ : ∃ B, l ++ [((0 : Int), (0 : Int))] = B := ⟨_, rfl⟩
  obtain ⟨C, hC⟩ : ∃ C, l ++ l = C := ⟨_, rfl⟩
  rw [hA] at ha1 hl2 q1
  rw [hB] at ha2 hl3 q1 q2
  rw [hC] at ha3 hl4 q3
  repeat (first | (refine TW.tw ?_; (first | refine TW.au tab rfl rfl rfl rfl rfl ?_|(refine TW.nil ?_; (first | (refine hK0 _ _ ?_; clear hK0 K0) | (refine hK1 _ _ _ (by kernel_rfl) ?_; clear hK1 K1)); try dsimp only [thenR, blockR, loopR, mk_t, mk_f, mk_n]; try simp only [List.length_map, dg, eN, wn, ha1, ha2, ha3, q1, q2, q3, beq_self_eq_true])|refine TW.wt rfl rfl rfl ?_|refine TW.sk rfl rfl rfl rfl rfl ?_|refine TW.su rfl rfl rfl rfl ?_|(refine TW.kc 10 rfl ?_; (try simp only [List.length_map, dg, eN, wn, ha1, ha2, ha3, q1, q2, q3, beq_self_eq_true]); first | refine TW.c0 tab rfl rfl rfl rfl rfl (awake16_fs ) rfl rfl rfl rfl ?_)|(refine TW.kc 19 rfl ?_; (try simp only [List.length_map, dg, eN, wn, ha1, ha2, ha3, q1, q2, q3, beq_self_eq_true]); first | refine TW.c0 tab rfl rfl rfl rfl rfl (Mean2_fs ) rfl rfl rfl rfl ?_|refine TW.c0 tab rfl rfl rfl rfl rfl (MeanN_fs ) rfl rfl rfl rfl ?_|refine TW.c0 tab rfl rfl rfl rfl rfl (Mean_fs (by first | assumption | omega)) rfl rfl rfl rfl ?_)|(refine TW.kd 3 rfl ?_; first | refine TW.bm tab rfl rfl rfl rfl rfl (by decide) rfl rfl rfl rfl rfl rfl ?_|refine TW.bl tab rfl rfl rfl rfl rfl (by decide) rfl rfl rfl rfl rfl rfl rfl ?_)|(refine TW.kd 7 rfl ?_; first | refine TW.dr rfl rfl rfl rfl (by first|assumption|decide|omega|(simp;done)|(simp;omega)) rfl ?_)|(refine TW.kd 10 rfl ?_; first | refine TW.an' tab rfl rfl rfl rfl rfl rfl (by first|assumption|decide|omega|(simp;done)|(simp;omega)) rfl rfl ?_|refine TW.ar' tab rfl rfl rfl rfl rfl rfl rfl rfl (by first|assumption|decide|omega|(simp;done)|(simp;omega)) rfl rfl ?_|refine TW.af tab rfl rfl rfl rfl (Nat.le_of_ble_eq_true rfl) rfl rfl (by first|assumption|decide|omega|(simp;done)|(simp;omega)) rfl rfl ?_)|(refine TW.kd 4 rfl ?_; first | refine TW.sr tab rfl rfl rfl rfl rfl rfl (by first | exact gbytes_map _ | rfl) rfl ?_)|(refine TW.kd3 34 rfl ?_; first | refine TW.ba tab rfl rfl rfl rfl rfl rfl rfl rfl rfl rfl (by first | exact Or.inl ⟨rfl, rfl⟩ | exact Or.inr ⟨rfl, rfl⟩) rfl ?_)|(refine TW.kd4 44 rfl ?_; first | refine TW.gw tab rfl rfl rfl rfl rfl rfl rfl (by first|assumption|decide|omega|(simp;done)|(simp;omega)) (by first|assumption|decide|omega|(simp;done)|(simp;omega)) (by first|assumption|decide|omega|(simp;done)|(simp;omega)) rfl rfl ?_|refine TW.gz tab rfl rfl rfl rfl rfl rfl rfl rfl rfl (by first|assumption|decide|omega|(simp;done)|(simp;omega)) (by first|assumption|decide|omega|(simp;done)|(simp;omega)) (by first|assumption|decide|omega|(simp;done)|(simp;omega)) (by first|assumption|decide|omega|(simp;done)|(simp;omega)) rfl rfl ?_)|(refine TW.kd4 49 rfl ?_; first | refine TW.sn tab rfl rfl rfl rfl rfl rfl rfl ?_)|simp only [List.length_map, dg, eN, wn, ha1, ha2, ha3, q1, q2, q3, beq_self_eq_true]); try dsimp only [dgz, dgzc, dg_setd, dg_renl, dg_tk, dg_rena, putS, rhoOf, updA, updL, qt, getM, List.set_cons_succ, List.set_cons_zero, gd_s, gd_z, ge_s, ge_z, ga_s, ga_z, tk_s, tk_z, tk_n, dr_s, dr_z, tsz7, tsz13, tsz18, tsz22, tsz24, tsz29, tsz30, tsz38, tsz39, tsz50, tsz51, tsz56, tsz57, tsz61, tsz62, tsz71, tsz72, tsz81, cond_true, cond_false, ln_s, ln_z, zp_s, zp_z, Int.toNat_zero, Int.toNat_natCast, ba_n, ba_c, bo_lit, bo_agg, bo_sl, bo_adr, bo_iadr, bo_any, bo_zl, bo_clo, bo_row0, bo_sub0, ad_row, ad_sub, ad_win, ad_sl, ad_lit, ad_zl, up_0, up_1z, up_1s, up_2z, up_2o, up_2s, loopR, ap_s, ap_z, Nat.reduceAdd, Nat.reduceMul, Nat.add_zero, Nat.zero_add, ren, renL, renO, mp_s, mp_z, thenR, blockR, setMany, chunks, ch_s, ch_z, ta_l, rp_s, rp_z, Value.cells, List.flatten_cons, List.flatten_nil]) | refine CS.seq fun K hK => ?_|(refine CS.regl [true, true, false, false, true, true, true, true, false, false, true, false, false, false, false, false, false, false, false, false, false, false, false, false, false, false, false, false, false, false, false, false, false, false, false, false, false, false, false, false, false, false, false, false, false, false, false, false, false, false, false, false, false] (fun K0 hK0 => ?_); try dsimp only [mp_s, mp_z])|(refine CS.drawl tab [true, true, false, false, true, true, true, true, false, false, true, false, false, false, false, false, false, false, false, false, false, false, false, false, false, false, false, false, false, false, false, false, false, false, false, false, false, false, false, false, false, false, false, false, false, false, false, false, false, false, false, false, false] (fun K1 hK1 => ?_); try dsimp only [mp_s, mp_z])|(refine hK _ _ ?_; clear hK K)|(clear hK K; refine hK _ _ ?_; clear hK K)|(clear hK K; clear hK K; refine hK _ _ ?_; clear hK K)|(clear hK K; clear hK K; clear hK K; refine hK _ _ ?_; clear hK K)|((first | refine CS_ret ?_ | refine CS_skip ?_ | refine CS_exit ?_ | rw [if_pos rfl] | rw [if_neg (by decide)]); try dsimp only [thenR, blockR, loopR])|refine CS.blk ?_|refine CS.yes rfl ?_|refine CS.no rfl ?_|simp only [List.length_map, dg, eN, wn, ha1, ha2, ha3, q1, q2, q3, beq_self_eq_true])
  exact hR0 _ _ _ (by exact GS.refl ⟨(by first | exact .inr rfl | exact .inl rfl), _, [], gresT_ok tab rfl, by decide, rfl, rfl, rfl, rfl⟩)
end Go.Gh

