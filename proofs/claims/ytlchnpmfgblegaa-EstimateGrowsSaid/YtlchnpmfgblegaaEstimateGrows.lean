import Derived.Test.YtlchnpmfgblegaaEstimate2

namespace Go.Gh
open Go.Proofs
set_option linter.unusedVariables false
set_option linter.unusedSimpArgs false

/-! Layer 15: EstimateGrows. -/

/-- A span that begins where another one does, and goes on further, shares more. -/
theorem share_mono {b1 b2 b3 : Int} (h1 : u32r b1) (h2 : u32r b2) (h3 : u32r b3) (hs : size b1 b2 ≤ size b1 b3) {k : Nat} (hk : k < 16) : share b1 b2 k ≤ share b1 b3 k := by
  rw [share_ov h1 h2 hk, share_ov h1 h3 hk]
  have r1 := far_range (bfrom k) b1
  have s2 := size_rng b1 b2
  have s3 := size_rng b1 b3
  have p2 := size_pos h1 h2
  have p3 := size_pos h1 h3
  generalize far (bfrom k) b1 = x at *
  generalize size b1 b2 = s at *
  generalize size b1 b3 = t at *
  have m := fun (y z : Int) (h : y ≤ z) => imin_mono 268435456 h
  by_cases c : x + t < 4294967296
  · rw [ov_lo (by decide) (by omega) (by omega), ov_lo (by decide) (by omega) (by omega)]
    have := m (x + s) (x + t) (by omega); omega
  · rw [ov_hi (x := x) (y := x + t) (by decide) (by omega) (by decide) (by omega)]
    by_cases c2 : x + s < 4294967296
    · rw [ov_lo (by decide) (by omega) (by omega)]
      have h0 : imin 268435456 (x + s) ≤ 268435456 := by unfold imin; split <;> omega
      have h4 : 0 ≤ imin 268435456 (x + t - 4294967296) := by unfold imin; split <;> omega
      omega
    · rw [ov_hi (by decide) (by omega) (by decide) (by omega)]
      have := m (x + s - 4294967296) (x + t - 4294967296) (by omega); omega
theorem wsum_mono {d : Nat → Int} (hd : rg d) {b1 b2 b3 : Int} (h1 : u32r b1) (h2 : u32r b2) (h3 : u32r b3) (hs : size b1 b2 ≤ size b1 b3) : ∀ k, k ≤ 16 → wsum d b1 b2 k ≤ wsum d b1 b3 k
  | 0, _ => Int.le_refl _
  | k + 1, hk => by
    have ih := wsum_mono hd h1 h2 h3 hs k (by omega)
    have m := share_mono h1 h2 h3 hs (k := k) (by omega)
    have r2 := share_rg h1 h2 (k := k) (by omega)
    have r3 := share_rg h1 h3 (k := k) (by omega)
    have h := hd k
    have p2 : 0 ≤ d k * share b1 b2 k := Int.mul_nonneg h.1 r2.1
    have p3 : d k * share b1 b2 k ≤ d k * share b1 b3 k := Int.mul_le_mul_of_nonneg_left m h.1
    have p4 : d k * share b1 b3 k ≤ 4294967296 * 268435456 := Int.mul_le_mul (by omega) r3.2 r3.1 (by decide)
    rw [wsum, wsum]
    unfold wterm
    generalize d k * share b1 b2 k = p at *
    generalize d k * share b1 b3 k = q at *
    omega

theorem part2 (d : Nat → Int) (lo hi : Int) : partv d 2 lo hi = if psum d 16 = 0 then size ((lo - 1) % 4294967296) hi / 65536 else wsum d ((lo - 1) % 4294967296) hi 16 * 65536 / psum d 16 := by
  have r : bspan 2 lo hi = (((lo - 1) % 4294967296, hi), true) := by unfold bspan; rw [if_neg (by decide), if_pos rfl]
  unfold partv
  rw [r]
  simp only [cond_true]
theorem part3 (d : Nat → Int) (lo hi : Int) : partv d 3 lo hi = 0 := by
  have r : bspan 3 lo hi = ((0, 0), false) := by unfold bspan; rw [if_neg (by decide), if_neg (by decide)]
  unfold partv
  rw [r]
  simp only [cond_false]
theorem part_mono {d : Nat → Int} (hd : rg d) {lo hi hi2 : Int} (h1 : u32r lo) (h2 : u32r hi) (h3 : u32r hi2) (hs : size ((lo - 1) % 4294967296) hi ≤ size ((lo - 1) % 4294967296) hi2) : partv d 2 lo hi ≤ partv d 2 lo hi2 := by
  have u : u32r ((lo - 1) % 4294967296) := by unfold u32r; omega
  have w := wsum_mono hd u h2 h3 hs 16 (Nat.le_refl _)
  have p := psum_rg hd 16
  rw [part2, part2]
  split
  · omega
  · exact Int.ediv_le_ediv (by omega) (by omega)
theorem far_grow {b hi a : Int} (h1 : u32r b) (h2 : u32r hi) (h0 : 0 ≤ a) (h : a < (b - hi) % 4294967296) : far b ((hi + a) % 4294967296) = far b hi + a ∧ b ≠ hi ∧ b ≠ (hi + a) % 4294967296 := by
  unfold far u32r at *
  by_cases c : hi ≤ b
  · have e : (b - hi) % 4294967296 = b - hi := by omega
    rw [e] at h
    have e2 : (hi + a) % 4294967296 = hi + a := by omega
    rw [e2]
    omega
  · have e : (b - hi) % 4294967296 = b - hi + 4294967296 := by omega
    rw [e] at h
    by_cases c2 : hi + a < 4294967296
    · have e2 : (hi + a) % 4294967296 = hi + a := by omega
      rw [e2]
      omega
    · have e2 : (hi + a) % 4294967296 = hi + a - 4294967296 := by omega
      rw [e2]
      omega
theorem grow_size {lo hi more : Int} (h1 : u32r lo) (h2 : u32r hi) (hm : u32r more) (hr : 0 < (lo - hi - 1) % 4294967296) :
    size ((lo - 1) % 4294967296) hi ≤ size ((lo - 1) % 4294967296) ((hi + more % ((lo - hi - 1) % 4294967296)) % 4294967296) := by
  have e0 := Int.emod_nonneg more (show (lo - hi - 1) % 4294967296 ≠ 0 by omega)
  have e1 := Int.emod_lt_of_pos more hr
  generalize more % ((lo - hi - 1) % 4294967296) = a at *
  have u : u32r ((lo - 1) % 4294967296) := by unfold u32r; omega
  have er : ((lo - 1) % 4294967296 - hi) % 4294967296 = (lo - hi - 1) % 4294967296 := by omega
  rw [← er] at e1
  obtain ⟨f1, f2, f3⟩ := far_grow u h2 e0 e1
  unfold size
  rw [if_neg f2, if_neg f3, f1]
  omega

set_option maxRecDepth 8000 in
set_option maxHeartbeats 16000000 in
theorem EstimateGrows_fs {d : Nat → Int} {lo hi more : Int} (hd : rg d) (h1 : u32r lo) (h2 : u32r hi) (h3 : u32r more) :
    FS Try.prog 7 [.agg (dg d), .lit (.int .u32 lo), .lit (.int .u32 hi), .lit (.int .u32 more)] [] (.lit (.bool true)) [] := by
  refine FS.enterG Try.func7 rfl fun R0 hR0 => ?_
  simp only [Try.ntmps7, List.length_cons, List.length_nil, List.replicate_succ, List.replicate_zero, List.cons_append, List.nil_append, Nat.reduceAdd, Nat.reduceSub]
  have w0 : IntKind.u32.wrap (IntKind.u32.wrap (lo - hi) - 1) = (lo - hi - 1) % 4294967296 := by rw [wrap_u32, wrap_u32]; omega
  have z0 : u32r 0 := by unfold u32r; decide
  have a1 := part_all hd 0 0
  have a3 := part3 d 0 0
  by_cases c : (lo - hi - 1) % 4294967296 > 0
  · have dc : decide ((lo - hi - 1) % 4294967296 > 0) = true := decide_eq_true c
    have e1 : more.tmod ((lo - hi - 1) % 4294967296) = more % ((lo - hi - 1) % 4294967296) := Int.tmod_eq_emod_of_nonneg h3.1
    have hne : (lo - hi - 1) % 4294967296 ≠ 0 := by omega
    have w1 : IntKind.u32.wrap (hi + more % ((lo - hi - 1) % 4294967296)) = (hi + more % ((lo - hi - 1) % 4294967296)) % 4294967296 := wrap_u32 _
    have gs := grow_size h1 h2 h3 c
    obtain ⟨hi2, hh⟩ : ∃ x, x = (hi + more % ((lo - hi - 1) % 4294967296)) % 4294967296 := ⟨_, rfl⟩
    have u2 : u32r hi2 := by rw [hh]; unfold u32r; omega
    rw [← hh] at gs w1
    have pm := decide_eq_true (part_mono hd h1 h2 u2 gs)
    obtain ⟨R, hR⟩ : ∃ R, R = (lo - hi - 1) % 4294967296 := ⟨_, rfl⟩
    rw [← hR] at dc e1 hne w0 w1
    repeat (first | (refine TW.tw ?_; (first | refine TW.au tab rfl rfl rfl rfl rfl ?_ | (refine TW.nil ?_; (first | (refine hK0 _ _ ?_; clear hK0 K0) | (refine hK1 _ _ _ (by kernel_rfl) ?_; clear hK1 K1)); try dsimp only [thenR, blockR, loopR, mk_t, mk_f, mk_n]; try simp only [w0, dc, e1, w1, pm, a1, a3, beq_self_eq_true]) | refine TW.wt rfl rfl rfl ?_ | refine TW.sk rfl rfl rfl rfl rfl ?_ | refine TW.su rfl rfl rfl rfl ?_ | (refine TW.kc 21 rfl ?_; (try simp only [w0, dc, e1, w1, pm, a1, a3, beq_self_eq_true]); first | refine TW.c0 tab rfl rfl rfl rfl rfl (awake15_fs ) rfl rfl rfl rfl ?_) | (refine TW.kc 22 rfl ?_; (try simp only [w0, dc, e1, w1, pm, a1, a3, beq_self_eq_true]); first | refine TW.c0 tab rfl rfl rfl rfl rfl (EPart0_fs ) rfl rfl rfl rfl ?_ | refine TW.c0 tab rfl rfl rfl rfl rfl (EPart5_fs ) rfl rfl rfl rfl ?_ | refine TW.c0 tab rfl rfl rfl rfl rfl (EPart_fs (by assumption) (by assumption)) rfl rfl rfl rfl ?_) | refine TW.c0 tab rfl rfl rfl rfl rfl (BRight_fs _ (by assumption)) rfl rfl rfl rfl ?_ | refine TW.c0 tab rfl rfl rfl rfl rfl (hF _ _ _) rfl rfl rfl rfl ?_ | (refine TW.kd 7 rfl ?_; first | refine TW.dr rfl rfl rfl rfl (by first | assumption | decide | omega | (simp; done) | (simp; omega)) rfl ?_) | (refine TW.kd3 33 rfl ?_; first | refine TW.sw tab rfl rfl rfl rfl rfl rfl (by decide) rfl (by assumption) (by rfl) rfl rfl (Nat.le_of_ble_eq_true rfl) rfl rfl ?_) | (refine TW.kd3 34 rfl ?_; first | refine TW.ba tab rfl rfl rfl rfl rfl rfl rfl rfl rfl rfl (by first | exact Or.inl ⟨rfl, rfl⟩ | exact Or.inr ⟨rfl, rfl⟩) rfl ?_) | simp only [w0, dc, e1, w1, pm, a1, a3, beq_self_eq_true]); try dsimp only [dgz, dgzc, dg_setd, dg_renl, dg_tk, dg_rena, putS, rhoOf, updA, updL, qt, getM, List.set_cons_succ, List.set_cons_zero, gd_s, gd_z, ge_s, ge_z, ga_s, ga_z, tk_s, tk_z, tk_n, dr_s, dr_z, tsz7, tsz13, tsz18, tsz22, tsz23, tsz24, tsz25, tsz26, tsz39, tsz40, tsz41, tsz42, tsz49, tsz50, tsz89, tsz90, tsz91, tsz92, tsz97, tsz98, tsz107, cond_true, cond_false, ln_s, ln_z, zp_s, zp_z, Int.toNat_zero, Int.toNat_natCast, ba_n, ba_c, bo_lit, bo_agg, bo_sl, bo_adr, bo_iadr, bo_any, bo_zl, bo_clo, bo_row0, bo_sub0, ad_row, ad_sub, ad_win, ad_sl, ad_lit, ad_zl, up_0, up_1z, up_1s, up_2z, up_2o, up_2s, loopR, ap_s, ap_z, Nat.reduceAdd, Nat.reduceMul, Nat.add_zero, Nat.zero_add, ren, renL, renO, mp_s, mp_z, thenR, blockR, setMany, chunks, ch_s, ch_z, ta_l, rp_s, rp_z, Value.cells, List.flatten_cons, List.flatten_nil]) | refine CS.seq fun K hK => ?_ | (refine CS.regl [true, true, true, true, true, false, false, false, true, true, true, true, false, false, false, false, false, false, false, false, false, true, false, false, false, false, false, false, false, false, false, false, false, false, false, false, false, false, false, false, false, false, false, false, false, false, false, false, false, false] (fun K0 hK0 => ?_); try dsimp only [mp_s, mp_z]) | (refine CS.drawl tab [true, true, true, true, true, false, false, false, true, true, true, true, false, false, false, false, false, false, false, false, false, true, false, false, false, false, false, false, false, false, false, false, false, false, false, false, false, false, false, false, false, false, false, false, false, false, false, false, false, false] (fun K1 hK1 => ?_); try dsimp only [mp_s, mp_z]) | (refine hK _ _ ?_; clear hK K) | (clear hK K; refine hK _ _ ?_; clear hK K) | (clear hK K; clear hK K; refine hK _ _ ?_; clear hK K) | (clear hK K; clear hK K; clear hK K; refine hK _ _ ?_; clear hK K) | ((first | refine CS_ret ?_ | refine CS_skip ?_ | refine CS_exit ?_ | rw [if_pos rfl] | rw [if_neg (by decide)]); try dsimp only [thenR, blockR, loopR]) | refine CS.blk ?_ | refine CS.yes rfl ?_ | refine CS.no rfl ?_ | simp only [w0, dc, e1, w1, pm, a1, a3, beq_self_eq_true])
    exact hR0 _ _ _ (by exact GS.refl ⟨(by first | exact .inr rfl | exact .inl rfl), _, [], gresT_ok tab rfl, by decide, rfl, rfl, rfl, rfl⟩)
  · have dc : decide ((lo - hi - 1) % 4294967296 > 0) = false := decide_eq_false c
    have pm : decide (partv d 2 lo hi ≤ partv d 2 lo hi) = true := decide_eq_true (Int.le_refl _)
    repeat (first | (refine TW.tw ?_; (first | refine TW.au tab rfl rfl rfl rfl rfl ?_ | (refine TW.nil ?_; (first | (refine hK0 _ _ ?_; clear hK0 K0) | (refine hK1 _ _ _ (by kernel_rfl) ?_; clear hK1 K1)); try dsimp only [thenR, blockR, loopR, mk_t, mk_f, mk_n]; try simp only [w0, dc, pm, a1, a3, beq_self_eq_true]) | refine TW.wt rfl rfl rfl ?_ | refine TW.sk rfl rfl rfl rfl rfl ?_ | refine TW.su rfl rfl rfl rfl ?_ | (refine TW.kc 21 rfl ?_; (try simp only [w0, dc, pm, a1, a3, beq_self_eq_true]); first | refine TW.c0 tab rfl rfl rfl rfl rfl (awake15_fs ) rfl rfl rfl rfl ?_) | (refine TW.kc 22 rfl ?_; (try simp only [w0, dc, pm, a1, a3, beq_self_eq_true]); first | refine TW.c0 tab rfl rfl rfl rfl rfl (EPart0_fs ) rfl rfl rfl rfl ?_ | refine TW.c0 tab rfl rfl rfl rfl rfl (EPart5_fs ) rfl rfl rfl rfl ?_ | refine TW.c0 tab rfl rfl rfl rfl rfl (EPart_fs (by assumption) (by assumption)) rfl rfl rfl rfl ?_) | refine TW.c0 tab rfl rfl rfl rfl rfl (BRight_fs _ (by assumption)) rfl rfl rfl rfl ?_ | refine TW.c0 tab rfl rfl rfl rfl rfl (hF _ _ _) rfl rfl rfl rfl ?_ | (refine TW.kd 7 rfl ?_; first | refine TW.dr rfl rfl rfl rfl (by first | assumption | decide | omega | (simp; done) | (simp; omega)) rfl ?_) | (refine TW.kd3 33 rfl ?_; first | refine TW.sw tab rfl rfl rfl rfl rfl rfl (by decide) rfl (by assumption) (by rfl) rfl rfl (Nat.le_of_ble_eq_true rfl) rfl rfl ?_) | (refine TW.kd3 34 rfl ?_; first | refine TW.ba tab rfl rfl rfl rfl rfl rfl rfl rfl rfl rfl (by first | exact Or.inl ⟨rfl, rfl⟩ | exact Or.inr ⟨rfl, rfl⟩) rfl ?_) | simp only [w0, dc, pm, a1, a3, beq_self_eq_true]); try dsimp only [dgz, dgzc, dg_setd, dg_renl, dg_tk, dg_rena, putS, rhoOf, updA, updL, qt, getM, List.set_cons_succ, List.set_cons_zero, gd_s, gd_z, ge_s, ge_z, ga_s, ga_z, tk_s, tk_z, tk_n, dr_s, dr_z, tsz7, tsz13, tsz18, tsz22, tsz23, tsz24, tsz25, tsz26, tsz39, tsz40, tsz41, tsz42, tsz49, tsz50, tsz89, tsz90, tsz91, tsz92, tsz97, tsz98, tsz107, cond_true, cond_false, ln_s, ln_z, zp_s, zp_z, Int.toNat_zero, Int.toNat_natCast, ba_n, ba_c, bo_lit, bo_agg, bo_sl, bo_adr, bo_iadr, bo_any, bo_zl, bo_clo, bo_row0, bo_sub0, ad_row, ad_sub, ad_win, ad_sl, ad_lit, ad_zl, up_0, up_1z, up_1s, up_2z, up_2o, up_2s, loopR, ap_s, ap_z, Nat.reduceAdd, Nat.reduceMul, Nat.add_zero, Nat.zero_add, ren, renL, renO, mp_s, mp_z, thenR, blockR, setMany, chunks, ch_s, ch_z, ta_l, rp_s, rp_z, Value.cells, List.flatten_cons, List.flatten_nil]) | refine CS.seq fun K hK => ?_ | (refine CS.regl [true, true, true, true, true, false, false, false, true, true, true, true, false, false, false, false, false, false, false, false, false, true, false, false, false, false, false, false, false, false, false, false, false, false, false, false, false, false, false, false, false, false, false, false, false, false, false, false, false, false] (fun K0 hK0 => ?_); try dsimp only [mp_s, mp_z]) | (refine CS.drawl tab [true, true, true, true, true, false, false, false, true, true, true, true, false, false, false, false, false, false, false, false, false, true, false, false, false, false, false, false, false, false, false, false, false, false, false, false, false, false, false, false, false, false, false, false, false, false, false, false, false, false] (fun K1 hK1 => ?_); try dsimp only [mp_s, mp_z]) | (refine hK _ _ ?_; clear hK K) | (clear hK K; refine hK _ _ ?_; clear hK K) | (clear hK K; clear hK K; refine hK _ _ ?_; clear hK K) | (clear hK K; clear hK K; clear hK K; refine hK _ _ ?_; clear hK K) | ((first | refine CS_ret ?_ | refine CS_skip ?_ | refine CS_exit ?_ | rw [if_pos rfl] | rw [if_neg (by decide)]); try dsimp only [thenR, blockR, loopR]) | refine CS.blk ?_ | refine CS.yes rfl ?_ | refine CS.no rfl ?_ | simp only [w0, dc, pm, a1, a3, beq_self_eq_true])
    exact hR0 _ _ _ (by exact GS.refl ⟨(by first | exact .inr rfl | exact .inl rfl), _, [], gresT_ok tab rfl, by decide, rfl, rfl, rfl, rfl⟩)
end Go.Gh

