import Derived.Test.YtnnhmiokgpfmoaaAwake02
import Derived.Test.YtnnhmiokgpfmoaaRefHas

namespace Go.Gh
open Go.Proofs
set_option linter.unusedVariables false
set_option linter.unusedSimpArgs false

/-! Layer 2: CoverNil. -/
theorem cvr_self {a b : Int} (h1 : u32r a) (h2 : u32r b) : totR (cvr a a [] (a, b)) = size a b := by
  have hS : size a a = 4294967296 := by unfold size; simp
  have hT := size_rng a b
  have hp := size_pos h1 h2
  have e1 : far a a = 0 := by unfold far; omega
  have e : runs a a a b = [(0, size a b)] := by
    unfold runs runs0
    rw [e1, hS, if_neg (by omega), if_pos (by omega), List.nil_append]
    show [(0, imin (imin (0 + size a b) 4294967296) 4294967296)] = [(0, size a b)]
    congr 2
    unfold imin
    simp only [Int.zero_add]
    rw [if_neg (by split <;> omega)]
    split <;> omega
  unfold cvr
  rw [e]
  show totR [(0, size a b)] = size a b
  simp [totR]
set_option maxRecDepth 8000 in
set_option maxHeartbeats 8000000 in
theorem CoverNil_fs {s1 s2 : Int} (h1 : u32r s1) (h2 : u32r s2) : FS Try.prog 7 [spn s1 s2] [] (.lit (.bool true)) [] := by
  refine FS.enterG Try.func7 rfl fun R0 hR0 => ?_
  simp only [Try.ntmps7, List.length_cons, List.length_nil, List.replicate_succ, List.replicate_zero, List.cons_append, List.nil_append, Nat.reduceAdd, Nat.reduceSub]
  have hs : okS (s1, s2) := ⟨h1, h2⟩
  have hS : size s1 s1 = 4294967296 := by unfold size; simp
  have hT := size_rng s1 s2
  have hX : (totR (cvr s1 s1 [] (s1, s2)) - totR []) % 18446744073709551616 = size s1 s2 := by rw [cvr_self h1 h2, show totR [] = 0 from rfl]; omega
  have e1 : (size s1 s1 == 4294967296) = true := by rw [hS]; rfl
  repeat (first | (refine TW.tw ?_; (first | refine TW.au tab rfl rfl rfl rfl rfl ?_|(refine TW.nil ?_; (first | (refine hK0 _ _ ?_; clear hK0 K0) | (refine hK1 _ _ _ (by kernel_rfl) ?_; clear hK1 K1)); try dsimp only [thenR, blockR, loopR, mk_t, mk_f, mk_n]; try simp only [spn, hX, e1, beq_self_eq_true, Bool.not_false])|refine TW.wt rfl rfl rfl ?_|refine TW.sk rfl rfl rfl rfl rfl ?_|refine TW.su rfl rfl rfl rfl ?_|(refine TW.kc 10 rfl ?_; first | refine TW.co2 tab rfl rfl rfl rfl rfl rfl rfl rfl rfl rfl (CvAdd0_fs (by assumption) (by assumption) (by assumption)) rfl rfl rfl rfl rfl ?_|refine TW.c0 tab rfl rfl rfl rfl rfl (CvAddNP_fs _ _) rfl rfl rfl rfl ?_|refine TW.c0 tab rfl rfl rfl rfl rfl (CvAddN_fs _) rfl rfl rfl rfl ?_|refine TW.co2 tab rfl rfl rfl rfl rfl rfl rfl rfl rfl rfl (CvAdd_fs (by assumption) (by assumption) (by assumption) (by assumption) (by first | assumption | omega)) rfl rfl rfl rfl rfl ?_)|(refine TW.kc 13 rfl ?_; first | refine TW.co2 tab rfl rfl rfl rfl rfl rfl rfl rfl rfl rfl (CvLeft0_fs ) rfl rfl rfl rfl rfl ?_|refine TW.c0 tab rfl rfl rfl rfl rfl (CvLeftN_fs ) rfl rfl rfl rfl ?_|refine TW.co2 tab rfl rfl rfl rfl rfl rfl rfl rfl rfl rfl (CvLeft_fs (by assumption) (by first | assumption | omega)) rfl rfl rfl rfl rfl ?_)|(refine TW.kc 8 rfl ?_; first | refine TW.c0 tab rfl rfl rfl rfl rfl (awake02_fs ) rfl rfl rfl rfl ?_)|(refine TW.kc 9 rfl ?_; first | refine TW.c0 tab rfl rfl rfl rfl rfl (CvNew_fs _ _) rfl rfl rfl rfl ?_)|(refine TW.kc 20 rfl ?_; first | refine TW.c0 tab rfl rfl rfl rfl rfl (CvForkN_fs ) rfl rfl rfl rfl ?_|refine TW.co2 tab rfl rfl rfl rfl rfl rfl rfl rfl rfl rfl (CvFork_fs (by first | assumption | omega)) rfl rfl rfl rfl rfl ?_)|(refine TW.kc 14 rfl ?_; first | refine TW.c0 tab rfl rfl rfl rfl rfl (CvWholeN_fs ) rfl rfl rfl rfl ?_|refine TW.co2 tab rfl rfl rfl rfl rfl rfl rfl rfl rfl rfl (CvWhole_fs (by assumption) (by first | assumption | omega)) rfl rfl rfl rfl rfl ?_)|(refine TW.kc 11 rfl ?_; first | refine TW.c0 tab rfl rfl rfl rfl rfl (CvGapsN_fs ) rfl rfl rfl rfl ?_|refine TW.co2 tab rfl rfl rfl rfl rfl rfl rfl rfl rfl rfl (CvGaps_fs (by first | assumption | omega)) rfl rfl rfl rfl rfl ?_)|(refine TW.kc 15 rfl ?_; first | refine TW.c0 tab rfl rfl rfl rfl rfl (RSize_fs _ _) rfl rfl rfl rfl ?_)|(refine TW.kd3 34 rfl ?_; first | refine TW.ba tab rfl rfl rfl rfl rfl rfl rfl rfl rfl rfl (by first | exact Or.inl ⟨rfl, rfl⟩ | exact Or.inr ⟨rfl, rfl⟩) rfl ?_)|(refine TW.kd4 42 rfl ?_; first | refine TW.lr tab rfl rfl rfl rfl (by assumption) (by rfl) (by rfl) ?_)|(refine TW.kd4 49 rfl ?_; first | refine TW.sn tab rfl rfl rfl rfl rfl rfl rfl ?_)|simp only [spn, hX, e1, beq_self_eq_true, Bool.not_false]); try dsimp only [dgz, dgzc, dg_setd, dg_renl, dg_tk, dg_rena, putS, rhoOf, updA, updL, qt, getM, List.set_cons_succ, List.set_cons_zero, gd_s, gd_z, ge_s, ge_z, ga_s, ga_z, tk_s, tk_z, tk_n, dr_s, dr_z, tsz3, tsz7, tsz13, tsz18, tsz22, tsz23, tsz24, tsz43, tsz44, tsz49, tsz50, tsz52, tsz53, tsz62, tsz63, tsz75, tsz76, tsz85, cond_true, cond_false, ln_s, ln_z, zp_s, zp_z, Int.toNat_zero, Int.toNat_natCast, ba_n, ba_c, bo_lit, bo_agg, bo_sl, bo_adr, bo_iadr, bo_any, bo_zl, bo_clo, bo_row0, bo_sub0, ad_row, ad_sub, ad_win, ad_sl, ad_lit, ad_zl, up_0, up_1z, up_1s, up_2z, up_2o, up_2s, loopR, ap_s, ap_z, Nat.reduceAdd, Nat.reduceMul, Nat.add_zero, Nat.zero_add, ren, renL, renO, mp_s, mp_z, thenR, blockR, setMany, chunks, ch_s, ch_z, ta_l, rp_s, rp_z, Value.cells, List.flatten_cons, List.flatten_nil]) | refine CS.seq fun K hK => ?_|(refine CS.regl [true, true, true, true, true, false, false, false, false, false, false, false, false, false, false, false, false, false, false, false, false, false, false, false, false, false, false, false, false, false, false, false, false, false, false, false, false, false, false, false, false, false, false, false, false, false, false, false, false, false, false, false, false, false, false, false] (fun K0 hK0 => ?_); try dsimp only [mp_s, mp_z])|(refine CS.drawl tab [true, true, true, true, true, false, false, false, false, false, false, false, false, false, false, false, false, false, false, false, false, false, false, false, false, false, false, false, false, false, false, false, false, false, false, false, false, false, false, false, false, false, false, false, false, false, false, false, false, false, false, false, false, false, false, false] (fun K1 hK1 => ?_); try dsimp only [mp_s, mp_z])|(refine hK _ _ ?_; clear hK K)|(clear hK K; refine hK _ _ ?_; clear hK K)|(clear hK K; clear hK K; refine hK _ _ ?_; clear hK K)|(clear hK K; clear hK K; clear hK K; refine hK _ _ ?_; clear hK K)|((first | refine CS_ret ?_ | refine CS_skip ?_ | refine CS_exit ?_ | rw [if_pos rfl] | rw [if_neg (by decide)]); try dsimp only [thenR, blockR, loopR])|refine CS.blk ?_|refine CS.yes rfl ?_|refine CS.no rfl ?_|simp only [spn, hX, e1, beq_self_eq_true, Bool.not_false])
  exact hR0 _ _ _ (by exact GS.refl ⟨(by first | exact .inr rfl | exact .inl rfl), _, [], gresT_ok tab rfl, by decide, rfl, rfl, rfl, rfl⟩)
end Go.Gh

