import Derived.Test.YtlchnpmfgblegaaDensity2

namespace Go.Gh
open Go.Proofs
set_option linter.unusedVariables false
set_option linter.unusedSimpArgs false

/-! Layer 14: what a program that does nothing does not answer. -/

def d8 : Nat → Int := addv d0 0 8
theorem rg_d0 : rg d0 := fun k => by unfold d0; decide
theorem heldv_rg (a : Int) : 0 ≤ heldv a ∧ heldv a < 4294967296 := by unfold heldv; (repeat' split) <;> omega
theorem rg_addv {d : Nat → Int} (h : rg d) (v n : Int) : rg (addv d v n) := fun k => by
  unfold addv upd; split
  · exact heldv_rg _
  · exact h k
theorem rg_d8 : rg d8 := rg_addv rg_d0 0 8
theorem u32r_0 : u32r 0 := by unfold u32r; decide

theorem dg_take (d : Nat → Int) : List.take 16 (dg d) = dg d := rfl
theorem dg_setz (d : Nat → Int) : setMany [GV.lit (.int .u32 0), GV.lit (.int .u32 0), GV.lit (.int .u32 0), GV.lit (.int .u32 0), GV.lit (.int .u32 0), GV.lit (.int .u32 0), GV.lit (.int .u32 0), GV.lit (.int .u32 0), GV.lit (.int .u32 0), GV.lit (.int .u32 0), GV.lit (.int .u32 0), GV.lit (.int .u32 0), GV.lit (.int .u32 0), GV.lit (.int .u32 0), GV.lit (.int .u32 0), GV.lit (.int .u32 0)] 0 (dg d) = dg d := rfl
theorem d8_all : (psum d8 16 == 8) = true := by decide
theorem d8_in : (wsum d8 4294967295 134217727 16 == 4) = true := by decide +kernel

set_option maxHeartbeats 4000000 in
theorem awake14_fs : FS Try.prog 12 [] [] (.lit (.bool true)) [] := by
  refine FS.enterG Try.func12 rfl fun R0 hR0 => ?_
  simp only [Try.ntmps12, List.length_cons, List.length_nil, List.replicate_succ, List.replicate_zero, List.cons_append, List.nil_append, Nat.reduceAdd, Nat.reduceSub]
  have g0 := rg_d0
  have g8 := rg_d8
  have u0 := u32r_0
  have a1 : addv d0 0 8 = d8 := rfl
  have a2 := d8_all
  have a3 := d8_in
  repeat (first | (refine TW.tw ?_; (first | refine TW.au tab rfl rfl rfl rfl rfl ?_ | (refine TW.nil ?_; (first | (refine hK0 _ _ ?_; clear hK0 K0) | (refine hK1 _ _ _ (by kernel_rfl) ?_; clear hK1 K1)); try dsimp only [thenR, blockR, loopR, mk_t, mk_f, mk_n]; try simp only [dgz, dg_take, dg_setz, a1, a2, a3]) | refine TW.wt rfl rfl rfl ?_ | refine TW.sk rfl rfl rfl rfl rfl ?_ | refine TW.su rfl rfl rfl rfl ?_ | (refine TW.kc 13 rfl ?_; first | refine TW.c0 tab rfl rfl rfl rfl rfl (Within_fs (by assumption) _ _) rfl rfl rfl rfl ?_) | (refine TW.kc 19 rfl ?_; first | refine TW.c0 tab rfl rfl rfl rfl rfl (Add_fs (by assumption) (by assumption) _) rfl rfl rfl rfl ?_) | (refine TW.kc 14 rfl ?_; first | refine TW.c0 tab rfl rfl rfl rfl rfl (All_fs (by assumption)) rfl rfl rfl rfl ?_) | (refine TW.kd 2 rfl ?_; first | refine TW.ix tab rfl rfl rfl rfl rfl rfl (by decide) (by first | assumption | decide | omega | (simp; done) | (simp; omega)) (by first | assumption | decide | omega | (simp; done) | (simp; omega)) (by first | assumption | rfl) rfl ?_ | refine TW.ir tab rfl rfl rfl rfl rfl rfl rfl (by decide) (by first | assumption | decide | omega | (simp; done) | (simp; omega)) (by first | assumption | decide | omega | (simp; done) | (simp; omega)) rfl ?_ | refine TW.is tab rfl rfl rfl rfl rfl rfl rfl (by decide) (by first | assumption | decide | omega | (simp; done) | (simp; omega)) (by first | assumption | decide | omega | (simp; done) | (simp; omega)) rfl ?_ | refine TW.ia tab rfl rfl rfl rfl rfl (by decide) (by first | assumption | decide | omega | (simp; done) | (simp; omega)) (by first | assumption | decide | omega | (simp; done) | (simp; omega)) rfl ?_) | (refine TW.kd2 16 rfl ?_; first | refine TW.lx tab rfl rfl rfl rfl rfl (dg_at _ (by show _ < 16; first | assumption | omega)) rfl ?_) | (refine TW.kd2 17 rfl ?_; first | refine TW.sx tab rfl rfl rfl rfl rfl rfl rfl (by show _ < 16; first | assumption | omega) (dg_set _ _ (by show _ < 16; first | assumption | omega)) (by first | assumption | decide | omega | (simp; done) | (simp; omega)) rfl rfl ?_ rfl) | (refine TW.kd3 32 rfl ?_; first | refine TW.iw tab rfl rfl rfl rfl rfl rfl rfl (by decide) (by first | assumption | decide | omega | (simp; done) | (simp; omega)) (by first | assumption | decide | omega | (simp; done) | (simp; omega)) rfl ?_ | refine TW.ij tab rfl rfl rfl rfl rfl (by decide) (by first | assumption | decide | omega | (simp; done) | (simp; omega)) (by first | assumption | decide | omega | (simp; done) | (simp; omega)) (by first | exact dg_dropc _ (by show _ < 16; first | assumption | omega) | rfl) rfl ?_) | (refine TW.kd3 33 rfl ?_; first | refine TW.sw tab rfl rfl rfl rfl rfl rfl (by decide) rfl (by assumption) (by rfl) rfl rfl (Nat.le_of_ble_eq_true rfl) rfl rfl ?_) | (refine TW.kd3 34 rfl ?_; first | refine TW.ba tab rfl rfl rfl rfl rfl rfl rfl rfl rfl rfl (by first | exact Or.inl ⟨rfl, rfl⟩ | exact Or.inr ⟨rfl, rfl⟩) rfl ?_) | simp only [dgz, dg_take, dg_setz, a1, a2, a3]); try dsimp only [dgz, dgzc, dg_setd, dg_renl, dg_tk, dg_rena, putS, rhoOf, updA, updL, qt, getM, List.set_cons_succ, List.set_cons_zero, gd_s, gd_z, ge_s, ge_z, ga_s, ga_z, tk_s, tk_z, tk_n, dr_s, dr_z, tsz7, tsz13, tsz18, tsz22, tsz23, tsz24, tsz25, tsz26, tsz39, tsz40, tsz41, tsz42, tsz49, tsz50, tsz89, tsz90, tsz91, tsz92, tsz97, tsz98, tsz107, cond_true, cond_false, ln_s, ln_z, zp_s, zp_z, Int.toNat_zero, Int.toNat_natCast, ba_n, ba_c, bo_lit, bo_agg, bo_sl, bo_adr, bo_iadr, bo_any, bo_zl, bo_clo, bo_row0, bo_sub0, ad_row, ad_sub, ad_win, ad_sl, ad_lit, ad_zl, up_0, up_1z, up_1s, up_2z, up_2o, up_2s, loopR, ap_s, ap_z, Nat.reduceAdd, Nat.reduceMul, Nat.add_zero, Nat.zero_add, ren, renL, renO, mp_s, mp_z, thenR, blockR, setMany, chunks, ch_s, ch_z, ta_l, rp_s, rp_z, Value.cells, List.flatten_cons, List.flatten_nil]) | refine CS.seq fun K hK => ?_ | (refine CS.regl [true, true, false, false, false, false, false, false, false, false, false, false, false, false, false, false, false, false] (fun K0 hK0 => ?_); try dsimp only [mp_s, mp_z]) | (refine CS.drawl tab [true, true, false, false, false, false, false, false, false, false, false, false, false, false, false, false, false, false] (fun K1 hK1 => ?_); try dsimp only [mp_s, mp_z]) | (refine hK _ _ ?_; clear hK K) | (clear hK K; refine hK _ _ ?_; clear hK K) | (clear hK K; clear hK K; refine hK _ _ ?_; clear hK K) | (clear hK K; clear hK K; clear hK K; refine hK _ _ ?_; clear hK K) | ((first | refine CS_ret ?_ | refine CS_skip ?_ | refine CS_exit ?_ | rw [if_pos rfl] | rw [if_neg (by decide)]); try dsimp only [thenR, blockR, loopR]) | refine CS.blk ?_ | refine CS.yes rfl ?_ | refine CS.no rfl ?_ | simp only [dgz, dg_take, dg_setz, a1, a2, a3])
  exact hR0 _ _ _ (by exact GS.refl ⟨(by first | exact .inr rfl | exact .inl rfl), _, [], gresT_ok tab rfl, by decide, rfl, rfl, rfl, rfl⟩)
end Go.Gh

