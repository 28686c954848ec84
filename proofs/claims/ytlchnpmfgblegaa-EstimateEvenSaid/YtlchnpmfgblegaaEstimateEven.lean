import Derived.Test.YtlchnpmfgblegaaEstimate2

namespace Go.Gh
open Go.Proofs
set_option linter.unusedVariables false
set_option linter.unusedSimpArgs false

/-! Layer 15: EstimateEven. -/

def clamp (x s : Int) : Int := if x < 0 then 0 else if s < x then s else x
/-- How many values of a run from f on, of s values, lie below x; the run may go round. -/
def gcl (f s x : Int) : Int := clamp (x - f) s + clamp (x - f + 4294967296) s

theorem clamp_lo {x s : Int} (h : x ≤ 0) (hs : 0 ≤ s) : clamp x s = 0 := by unfold clamp; (repeat' split) <;> omega
theorem clamp_hi {x s : Int} (h : s ≤ x) (hs : 0 ≤ s) : clamp x s = s := by unfold clamp; (repeat' split) <;> omega
theorem clamp_in {x s : Int} (h : 0 ≤ x) (hs : x ≤ s) : clamp x s = x := by unfold clamp; (repeat' split) <;> omega

theorem clamp_imin {K x s : Int} (h : 0 ≤ x) (hs : 0 ≤ s) : clamp (K - x) s = imin K (x + s) - imin K x := by unfold clamp imin; (repeat' split) <;> omega
theorem clamp_up {K y s : Int} (hK : 0 ≤ K) (hy : 0 ≤ y) (h : y ≤ s) : clamp (y + K) s - clamp y s = imin K (s - y) := by unfold clamp imin; (repeat' split) <;> omega

/-- One bucket. -/
theorem ov_gcl {f s a x : Int} (hf : 0 ≤ f ∧ f < 4294967296) (hs : 1 ≤ s ∧ s ≤ 4294967296) (ha : 0 ≤ a ∧ a + 268435456 ≤ 4294967296) (hx : x = f - a ∧ a ≤ f ∨ x = f - a + 4294967296 ∧ f < a) :
    ov 268435456 x (x + s) = gcl f s (a + 268435456) - gcl f s a := by
  unfold gcl
  rcases hx with ⟨hx, h⟩ | ⟨hx, h⟩
  · rw [clamp_lo (x := a - f) (by omega) (by omega), show a + 268435456 - f = 268435456 - x by omega, show a - f + 4294967296 = 4294967296 - x by omega, clamp_imin (by omega) (by omega)]
    by_cases c : x + s ≤ 4294967296
    · rw [ov_lo (by decide) (by omega) c, clamp_hi (x := 268435456 - x + 4294967296) (by omega) (by omega), clamp_hi (x := 4294967296 - x) (by omega) (by omega)]; omega
    · have u := clamp_up (K := 268435456) (y := 4294967296 - x) (s := s) (by decide) (by omega) (by omega)
      rw [ov_hi (by decide) (by omega) (by decide) (by omega), imin_l (a := 268435456) (b := x + s) (by omega), show 268435456 - x + 4294967296 = 4294967296 - x + 268435456 by omega, show x + s - 4294967296 = s - (4294967296 - x) by omega]
      omega
  · rw [clamp_hi (x := a + 268435456 - f + 4294967296) (by omega) (by omega), clamp_hi (x := a - f + 4294967296) (by omega) (by omega), show a + 268435456 - f = 4294967296 - x + 268435456 by omega, show a - f = 4294967296 - x by omega]
    by_cases c : x + s ≤ 4294967296
    · rw [ov_lo (by decide) (by omega) c, clamp_hi (by omega) (by omega), clamp_hi (by omega) (by omega), imin_l (by omega), imin_l (by omega)]; omega
    · have u := clamp_up (K := 268435456) (y := 4294967296 - x) (s := s) (by decide) (by omega) (by omega)
      rw [ov_hi (by decide) (by omega) (by decide) (by omega), imin_l (a := 268435456) (b := x) (by omega), show x + s - 4294967296 = s - (4294967296 - x) by omega]
      omega

theorem far_case {b : Int} (h : u32r b) {k : Nat} (hk : k < 16) : far (bfrom k) b = (b + 1) % 4294967296 - (k : Int) * 268435456 ∧ (k : Int) * 268435456 ≤ (b + 1) % 4294967296 ∨ far (bfrom k) b = (b + 1) % 4294967296 - (k : Int) * 268435456 + 4294967296 ∧ (b + 1) % 4294967296 < (k : Int) * 268435456 := by
  unfold far bfrom u32r at *; omega

/-- What all buckets share. -/
def shs (b1 b2 : Int) : Nat → Int
  | 0 => 0
  | k + 1 => shs b1 b2 k + share b1 b2 k
theorem shs_gcl {b1 b2 : Int} (h1 : u32r b1) (h2 : u32r b2) : ∀ k, k ≤ 16 → shs b1 b2 k = gcl ((b1 + 1) % 4294967296) (size b1 b2) ((k : Int) * 268435456) - gcl ((b1 + 1) % 4294967296) (size b1 b2) 0
  | 0, _ => by simp [shs]
  | k + 1, hk => by
    have ih := shs_gcl h1 h2 k (by omega)
    have s1 := size_rng b1 b2
    have s2 := size_pos h1 h2
    have o := ov_gcl (f := (b1 + 1) % 4294967296) (s := size b1 b2) (a := (k : Int) * 268435456) (x := far (bfrom k) b1) (by omega) (by omega) (by omega) (far_case h1 (by omega))
    rw [shs, ih, share_ov h1 h2 (by omega), o, show ((k + 1 : Nat) : Int) * 268435456 = (k : Int) * 268435456 + 268435456 by omega]
    omega
theorem shs_all {b1 b2 : Int} (h1 : u32r b1) (h2 : u32r b2) : shs b1 b2 16 = size b1 b2 := by
  have s1 := size_rng b1 b2
  have s2 := size_pos h1 h2
  have f1 : 0 ≤ (b1 + 1) % 4294967296 ∧ (b1 + 1) % 4294967296 < 4294967296 := by omega
  rw [shs_gcl h1 h2 16 (Nat.le_refl _)]
  unfold gcl
  generalize (b1 + 1) % 4294967296 = f at *
  generalize size b1 b2 = s at *
  rw [show ((16 : Nat) : Int) * 268435456 - f = 4294967296 - f by omega, show 0 - f + 4294967296 = 4294967296 - f by omega, clamp_lo (x := 0 - f) (by omega) (by omega), clamp_hi (x := 4294967296 - f + 4294967296) (by omega) (by omega)]
  omega

/-- An even density. -/
theorem even_bounds {m : Int} (hm : 1 ≤ m ∧ m ≤ 1000) {d : Nat → Int} (hd : ∀ k, k < 16 → d k = 1048576 * m) {b1 b2 : Int} (h1 : u32r b1) (h2 : u32r b2) : ∀ k, k ≤ 16 →
    256 * wsum d b1 b2 k ≤ m * shs b1 b2 k ∧ m * shs b1 b2 k ≤ 256 * wsum d b1 b2 k + 256 * cuts (b1 / 268435456).toNat (b2 / 268435456).toNat k
  | 0, _ => by simp [wsum, shs, cuts]
  | k + 1, hk => by
    have ih := even_bounds hm hd h1 h2 k (by omega)
    have sr := share_rg h1 h2 (k := k) (by omega)
    have p0 : 0 ≤ m * share b1 b2 k := Int.mul_nonneg (by omega) sr.1
    have p1 : m * share b1 b2 k ≤ 1000 * 268435456 := Int.mul_le_mul hm.2 sr.2 sr.1 (by decide)
    have ew : wterm d b1 b2 k = m * share b1 b2 k / 256 := by
      unfold wterm
      rw [hd k (by omega), Int.mul_assoc]
      generalize m * share b1 b2 k = q at *
      omega
    have hc : ¬ (k = (b1 / 268435456).toNat ∨ k = (b2 / 268435456).toNat) → m * share b1 b2 k = 256 * (m * share b1 b2 k / 256) := fun c => by
      have n := share_cut h1 h2 (k := k) (by omega) (by unfold u32r at h1; omega) (by unfold u32r at h2; omega)
      rcases n with n | n
      · rw [n, Int.mul_zero]; rfl
      · rw [n]; omega
    rw [wsum, shs, cuts, ew, Int.mul_add m]
    by_cases c : k = (b1 / 268435456).toNat ∨ k = (b2 / 268435456).toNat
    · rw [if_pos c]
      generalize m * share b1 b2 k = q at *
      omega
    · rw [if_neg c]
      have := hc c
      generalize m * share b1 b2 k = q at *
      omega

theorem psum_even {c : Int} {d : Nat → Int} (hd : ∀ k, k < 16 → d k = c) : psum d 16 = 16 * c := by
  have h := fun k hk => hd k hk
  simp only [psum, h 0 (by decide), h 1 (by decide), h 2 (by decide), h 3 (by decide), h 4 (by decide), h 5 (by decide), h 6 (by decide), h 7 (by decide), h 8 (by decide), h 9 (by decide), h 10 (by decide), h 11 (by decide), h 12 (by decide), h 13 (by decide), h 14 (by decide), h 15 (by decide)]
  omega

/-- W of what an even density has, against its share S of the circle. -/
theorem even_part {m W S : Int} (hm : 1 ≤ m ∧ m ≤ 1000) (hW : 0 ≤ W) (h1 : 256 * W ≤ m * S) (h2 : m * S ≤ 256 * W + 512) (hS : 0 ≤ S) :
    W * 65536 / (16 * (1048576 * m)) ≤ S / 65536 ∧ S / 65536 ≤ W * 65536 / (16 * (1048576 * m)) + 1 := by
  rw [show 16 * (1048576 * m) = (256 * m) * 65536 by omega, Int.mul_ediv_mul_of_pos_left _ _ (by decide)]
  have hn : 0 < 256 * m := by omega
  constructor
  · have a1 := Int.ediv_mul_le W (show 256 * m ≠ 0 by omega)
    generalize W / (256 * m) = p at *
    have a2 : p * (256 * m) = 256 * (m * p) := by rw [Int.mul_left_comm, Int.mul_comm p m]
    have a3 : m * (p * 65536) = m * p * 65536 := by rw [Int.mul_assoc]
    have a4 : m * (p * 65536) ≤ m * S := by omega
    have a5 := Int.le_of_mul_le_mul_left a4 (by omega)
    omega
  · have b1 : S / 65536 * 65536 ≤ S := by omega
    generalize S / 65536 = q at *
    have b2 : m * (q * 65536) ≤ m * S := Int.mul_le_mul_of_nonneg_left b1 (by omega)
    have b3 : m * (q * 65536) = m * q * 65536 := by rw [Int.mul_assoc]
    have b4 : (q - 1) * (256 * m) = 256 * (m * q) - 256 * m := by rw [Int.sub_mul, Int.mul_left_comm, Int.mul_comm q m, Int.one_mul]
    have b5 : (q - 1) * (256 * m) ≤ W := by omega
    have b6 := Int.le_ediv_of_mul_le hn b5
    omega

theorem size_want {lo hi : Int} (h1 : u32r lo) (h2 : u32r hi) : size ((lo - 1) % 4294967296) hi = (hi - lo) % 4294967296 + 1 := by
  unfold size far u32r at *; split <;> omega

theorem part_even {m : Int} (hm : 1 ≤ m ∧ m ≤ 1000) {d : Nat → Int} (hr : rg d) (hd : ∀ k, k < 16 → d k = 1048576 * m) {lo hi : Int} (h1 : u32r lo) (h2 : u32r hi) :
    partv d 2 lo hi ≤ ((hi - lo) % 4294967296 + 1) / 65536 ∧ ((hi - lo) % 4294967296 + 1) / 65536 ≤ partv d 2 lo hi + 1 := by
  have r : bspan 2 lo hi = (((lo - 1) % 4294967296, hi), true) := by unfold bspan; rw [if_neg (by decide), if_pos rfl]
  have u : u32r ((lo - 1) % 4294967296) := by unfold u32r; omega
  have pe := psum_even hd
  unfold partv
  rw [r]
  simp only [cond_true]
  rw [if_neg (by omega), pe, ← size_want h1 h2]
  have eb := even_bounds hm hd u h2 16 (Nat.le_refl _)
  rw [shs_all u h2] at eb
  have ct := cuts_two (((lo - 1) % 4294967296) / 268435456).toNat (hi / 268435456).toNat 16
  have wr := wsum_rg d ((lo - 1) % 4294967296) hi 16
  have sr := size_rng ((lo - 1) % 4294967296) hi
  exact even_part hm wr.1 eb.1 (by omega) sr.1

/-- .. as far as the i-th bucket. -/
def evd (c : Int) (i : Nat) : Nat → Int := fun k => if k < i then c else 0
theorem evd_0 (c : Int) : dg (evd c 0) = dg d0 := rfl
theorem evd_s (c : Int) (i : Nat) : upd (evd c i) i c = evd c (i + 1) := by
  funext j; unfold upd evd
  by_cases h : j = i
  · subst h; rw [if_pos rfl, if_pos (by omega)]
  · rw [if_neg h]
    by_cases h2 : j < i
    · rw [if_pos h2, if_pos (by omega)]
    · rw [if_neg h2, if_neg (by omega)]

set_option maxRecDepth 8000 in
set_option maxHeartbeats 8000000 in
theorem EstimateEven_fs {n lo hi : Int} (hn : u32r n) (h1 : u32r lo) (h2 : u32r hi) :
    FS Try.prog 8 [.lit (.int .u32 n), .lit (.int .u32 lo), .lit (.int .u32 hi)] [] (.lit (.bool true)) [] := by
  refine FS.enterG Try.func8 rfl fun R0 hR0 => ?_
  simp only [Try.ntmps8, List.length_cons, List.length_nil, List.replicate_succ, List.replicate_zero, List.cons_append, List.nil_append, Nat.reduceAdd, Nat.reduceSub]
  obtain ⟨m, hm, e2⟩ : ∃ m, (1 ≤ m ∧ m ≤ 1000) ∧ IntKind.u32.wrap (1 + n.tmod 1000) = m := ⟨1 + n % 1000, by omega, by rw [Int.tmod_eq_emod_of_nonneg hn.1, wrap_u32]; omega⟩
  obtain ⟨c, hc, e3⟩ : ∃ c, c = 1048576 * m ∧ IntKind.u32.wrap (1048576 * m) = c := ⟨1048576 * m, rfl, by rw [wrap_u32]; omega⟩
  repeat (first | (refine TW.tw ?_; (first | refine TW.au tab rfl rfl rfl rfl rfl ?_ | (refine TW.nil ?_; (first | (refine hK0 _ _ ?_; clear hK0 K0) | (refine hK1 _ _ _ (by kernel_rfl) ?_; clear hK1 K1)); try dsimp only [thenR, blockR, loopR, mk_t, mk_f, mk_n]) | refine TW.wt rfl rfl rfl ?_ | refine TW.sk rfl rfl rfl rfl rfl ?_ | refine TW.su rfl rfl rfl rfl ?_ | (refine TW.kc 21 rfl ?_; first | refine TW.c0 tab rfl rfl rfl rfl rfl (awake15_fs ) rfl rfl rfl rfl ?_) | (refine TW.kc 22 rfl ?_; first | refine TW.c0 tab rfl rfl rfl rfl rfl (EPart0_fs ) rfl rfl rfl rfl ?_ | refine TW.c0 tab rfl rfl rfl rfl rfl (EPart5_fs ) rfl rfl rfl rfl ?_ | refine TW.c0 tab rfl rfl rfl rfl rfl (EPart_fs (by assumption) (by assumption)) rfl rfl rfl rfl ?_) | refine TW.c0 tab rfl rfl rfl rfl rfl (BRight_fs _ (by assumption)) rfl rfl rfl rfl ?_ | refine TW.c0 tab rfl rfl rfl rfl rfl (hF _ _ _) rfl rfl rfl rfl ?_ | (refine TW.kd 7 rfl ?_; first | refine TW.dr rfl rfl rfl rfl (by first | assumption | decide | omega | (simp; done) | (simp; omega)) rfl ?_) | (refine TW.kd 9 rfl ?_; first | refine TW.de rfl rfl rfl rfl (by first | assumption | decide | omega | (simp; done) | (simp; omega)) rfl ?_) | (refine TW.kd 2 rfl ?_; first | refine TW.ix tab rfl rfl rfl rfl rfl rfl (by decide) (by first | assumption | decide | omega | (simp; done) | (simp; omega)) (by first | assumption | decide | omega | (simp; done) | (simp; omega)) (by first | assumption | rfl) rfl ?_ | refine TW.ir tab rfl rfl rfl rfl rfl rfl rfl (by decide) (by first | assumption | decide | omega | (simp; done) | (simp; omega)) (by first | assumption | decide | omega | (simp; done) | (simp; omega)) rfl ?_ | refine TW.is tab rfl rfl rfl rfl rfl rfl rfl (by decide) (by first | assumption | decide | omega | (simp; done) | (simp; omega)) (by first | assumption | decide | omega | (simp; done) | (simp; omega)) rfl ?_ | refine TW.ia tab rfl rfl rfl rfl rfl (by decide) (by first | assumption | decide | omega | (simp; done) | (simp; omega)) (by first | assumption | decide | omega | (simp; done) | (simp; omega)) rfl ?_) | (refine TW.kd 4 rfl ?_; first | refine TW.sr tab rfl rfl rfl rfl rfl rfl (by first | exact gbytes_map _ | rfl) rfl ?_) | (refine TW.kd2 16 rfl ?_; first | refine TW.lx tab rfl rfl rfl rfl rfl (dg_at _ (by show _ < 16; first | assumption | omega)) rfl ?_) | (refine TW.kd2 17 rfl ?_; first | refine TW.sx tab rfl rfl rfl rfl rfl rfl rfl (by show _ < 16; first | assumption | omega) (dg_set _ _ (by show _ < 16; first | assumption | omega)) (by first | assumption | decide | omega | (simp; done) | (simp; omega)) rfl rfl ?_ rfl) | (refine TW.kd3 32 rfl ?_; first | refine TW.iw tab rfl rfl rfl rfl rfl rfl rfl (by decide) (by first | assumption | decide | omega | (simp; done) | (simp; omega)) (by first | assumption | decide | omega | (simp; done) | (simp; omega)) rfl ?_ | refine TW.ij tab rfl rfl rfl rfl rfl (by decide) (by first | assumption | decide | omega | (simp; done) | (simp; omega)) (by first | assumption | decide | omega | (simp; done) | (simp; omega)) (by first | exact dg_dropc _ (by show _ < 16; first | assumption | omega) | rfl) rfl ?_) | (refine TW.kd3 33 rfl ?_; first | refine TW.sw tab rfl rfl rfl rfl rfl rfl (by decide) rfl (by assumption) (by rfl) rfl rfl (Nat.le_of_ble_eq_true rfl) rfl rfl ?_)); try dsimp only [dgz, dgzc, dg_setd, dg_renl, dg_tk, dg_rena, putS, rhoOf, updA, updL, qt, getM, List.set_cons_succ, List.set_cons_zero, gd_s, gd_z, ge_s, ge_z, ga_s, ga_z, tk_s, tk_z, tk_n, dr_s, dr_z, tsz7, tsz13, tsz18, tsz22, tsz23, tsz24, tsz25, tsz26, tsz39, tsz40, tsz41, tsz42, tsz49, tsz50, tsz89, tsz90, tsz91, tsz92, tsz97, tsz98, tsz107, cond_true, cond_false, ln_s, ln_z, zp_s, zp_z, Int.toNat_zero, Int.toNat_natCast, ba_n, ba_c, bo_lit, bo_agg, bo_sl, bo_adr, bo_iadr, bo_any, bo_zl, bo_clo, bo_row0, bo_sub0, ad_row, ad_sub, ad_win, ad_sl, ad_lit, ad_zl, up_0, up_1z, up_1s, up_2z, up_2o, up_2s, loopR, ap_s, ap_z, Nat.reduceAdd, Nat.reduceMul, Nat.add_zero, Nat.zero_add, ren, renL, renO, mp_s, mp_z, thenR, blockR, setMany, chunks, ch_s, ch_z, ta_l, rp_s, rp_z, Value.cells, List.flatten_cons, List.flatten_nil]) | refine CS.seq fun K hK => ?_ | (refine CS.regl [true, true, true, false, false, false, true, true, true, true, true, true, true, true, false, false, false, false, false, false, false, false, false, false, false, false, false, false, false, false, false, false, false, false, false, false, false, false, false, false, false, false, false, false, false, false, false] (fun K0 hK0 => ?_); try dsimp only [mp_s, mp_z]) | (refine CS.drawl tab [true, true, true, false, false, false, true, true, true, true, true, true, true, true, false, false, false, false, false, false, false, false, false, false, false, false, false, false, false, false, false, false, false, false, false, false, false, false, false, false, false, false, false, false, false, false, false] (fun K1 hK1 => ?_); try dsimp only [mp_s, mp_z]) | (refine hK _ _ ?_; clear hK K) | (clear hK K; refine hK _ _ ?_; clear hK K) | (clear hK K; clear hK K; refine hK _ _ ?_; clear hK K) | (clear hK K; clear hK K; clear hK K; refine hK _ _ ?_; clear hK K) | ((first | refine CS_ret ?_ | refine CS_skip ?_ | refine CS_exit ?_ | rw [if_pos rfl] | rw [if_neg (by decide)]); try dsimp only [thenR, blockR, loopR]) | refine CS.blk ?_ | refine CS.yes rfl ?_ | refine CS.no rfl ?_)
  refine CS.lp (fun i : Nat => i ≤ 16)
    (fun i => ([.lit (.int .u32 n), .lit (.int .u32 lo), .lit (.int .u32 hi), .any, .any, .any, .any, .adr 0 0 0, .any, .any, .any, .any, .lit (.int .i64 i)] ++ List.replicate 34 .any))
    (fun i => [.cells (dg (evd c i))]) (fun i => 16 - i) 0 [0] [true, true, true, false, false, false, false, true, false, false, false, false, true] (by decide) rfl (Nat.zero_le _) rfl rfl ?_
  intro i hle
  simp only [List.replicate_succ, List.replicate_zero, List.cons_append, List.nil_append]
  by_cases ci : i < 16
  · have dd : decide ((i : Int) < 16) = true := decide_eq_true (by omega)
    have es := evd_s c i
    have ew : IntKind.i64.wrap ((i : Int) + 1) = ((i + 1 : Nat) : Int) := wrap_nat (by omega)
    repeat (first | (refine TW.tw ?_; (first | refine TW.au tab rfl rfl rfl rfl rfl ?_ | (refine TW.nil ?_; (first | (refine hK0 _ _ ?_; clear hK0 K0) | (refine hK1 _ _ _ (by kernel_rfl) ?_; clear hK1 K1)); try dsimp only [thenR, blockR, loopR, mk_t, mk_f, mk_n]; try simp only [dd, e2, e3, es, ew, Nat.zero_add, Nat.mul_one, Int.toNat_natCast]) | refine TW.wt rfl rfl rfl ?_ | refine TW.sk rfl rfl rfl rfl rfl ?_ | refine TW.su rfl rfl rfl rfl ?_ | (refine TW.kc 21 rfl ?_; first | refine TW.c0 tab rfl rfl rfl rfl rfl (awake15_fs ) rfl rfl rfl rfl ?_) | (refine TW.kc 22 rfl ?_; first | refine TW.c0 tab rfl rfl rfl rfl rfl (EPart0_fs ) rfl rfl rfl rfl ?_ | refine TW.c0 tab rfl rfl rfl rfl rfl (EPart5_fs ) rfl rfl rfl rfl ?_ | refine TW.c0 tab rfl rfl rfl rfl rfl (EPart_fs (by assumption) (by assumption)) rfl rfl rfl rfl ?_) | refine TW.c0 tab rfl rfl rfl rfl rfl (BRight_fs _ (by assumption)) rfl rfl rfl rfl ?_ | refine TW.c0 tab rfl rfl rfl rfl rfl (hF _ _ _) rfl rfl rfl rfl ?_ | (refine TW.kd 7 rfl ?_; first | refine TW.dr rfl rfl rfl rfl (by first | assumption | decide | omega | (simp; done) | (simp; omega)) rfl ?_) | (refine TW.kd 9 rfl ?_; first | refine TW.de rfl rfl rfl rfl (by first | assumption | decide | omega | (simp; done) | (simp; omega)) rfl ?_) | (refine TW.kd 2 rfl ?_; first | refine TW.ix tab rfl rfl rfl rfl rfl rfl (by decide) (by first | assumption | decide | omega | (simp; done) | (simp; omega)) (by first | assumption | decide | omega | (simp; done) | (simp; omega)) (by first | assumption | rfl) rfl ?_ | refine TW.ir tab rfl rfl rfl rfl rfl rfl rfl (by decide) (by first | assumption | decide | omega | (simp; done) | (simp; omega)) (by first | assumption | decide | omega | (simp; done) | (simp; omega)) rfl ?_ | refine TW.is tab rfl rfl rfl rfl rfl rfl rfl (by decide) (by first | assumption | decide | omega | (simp; done) | (simp; omega)) (by first | assumption | decide | omega | (simp; done) | (simp; omega)) rfl ?_ | refine TW.ia tab rfl rfl rfl rfl rfl (by decide) (by first | assumption | decide | omega | (simp; done) | (simp; omega)) (by first | assumption | decide | omega | (simp; done) | (simp; omega)) rfl ?_) | (refine TW.kd 4 rfl ?_; first | refine TW.sr tab rfl rfl rfl rfl rfl rfl (by first | exact gbytes_map _ | rfl) rfl ?_) | (refine TW.kd2 16 rfl ?_; first | refine TW.lx tab rfl rfl rfl rfl rfl (dg_at _ (by show _ < 16; first | assumption | omega)) rfl ?_) | (refine TW.kd2 17 rfl ?_; first | refine TW.sx tab rfl rfl rfl rfl rfl rfl rfl (by show _ < 16; first | assumption | omega) (dg_set _ _ (by show _ < 16; first | assumption | omega)) (by first | assumption | decide | omega | (simp; done) | (simp; omega)) rfl rfl ?_ rfl) | (refine TW.kd3 32 rfl ?_; first | refine TW.iw tab rfl rfl rfl rfl rfl rfl rfl (by decide) (by first | assumption | decide | omega | (simp; done) | (simp; omega)) (by first | assumption | decide | omega | (simp; done) | (simp; omega)) rfl ?_ | refine TW.ij tab rfl rfl rfl rfl rfl (by decide) (by first | assumption | decide | omega | (simp; done) | (simp; omega)) (by first | assumption | decide | omega | (simp; done) | (simp; omega)) (by first | exact dg_dropc _ (by show _ < 16; first | assumption | omega) | rfl) rfl ?_) | (refine TW.kd3 33 rfl ?_; first | refine TW.sw tab rfl rfl rfl rfl rfl rfl (by decide) rfl (by assumption) (by rfl) rfl rfl (Nat.le_of_ble_eq_true rfl) rfl rfl ?_) | simp only [dd, e2, e3, es, ew, Nat.zero_add, Nat.mul_one, Int.toNat_natCast]); try dsimp only [dgz, dgzc, dg_setd, dg_renl, dg_tk, dg_rena, putS, rhoOf, updA, updL, qt, getM, List.set_cons_succ, List.set_cons_zero, gd_s, gd_z, ge_s, ge_z, ga_s, ga_z, tk_s, tk_z, tk_n, dr_s, dr_z, tsz7, tsz13, tsz18, tsz22, tsz23, tsz24, tsz25, tsz26, tsz39, tsz40, tsz41, tsz42, tsz49, tsz50, tsz89, tsz90, tsz91, tsz92, tsz97, tsz98, tsz107, cond_true, cond_false, ln_s, ln_z, zp_s, zp_z, Int.toNat_zero, Int.toNat_natCast, ba_n, ba_c, bo_lit, bo_agg, bo_sl, bo_adr, bo_iadr, bo_any, bo_zl, bo_clo, bo_row0, bo_sub0, ad_row, ad_sub, ad_win, ad_sl, ad_lit, ad_zl, up_0, up_1z, up_1s, up_2z, up_2o, up_2s, loopR, ap_s, ap_z, Nat.reduceAdd, Nat.reduceMul, Nat.add_zero, Nat.zero_add, ren, renL, renO, mp_s, mp_z, thenR, blockR, setMany, chunks, ch_s, ch_z, ta_l, rp_s, rp_z, Value.cells, List.flatten_cons, List.flatten_nil]) | refine CS.seq fun K hK => ?_ | (refine CS.regl [true, true, true, false, false, false, true, true, true, true, true, true, true, true, false, false, false, false, false, false, false, false, false, false, false, false, false, false, false, false, false, false, false, false, false, false, false, false, false, false, false, false, false, false, false, false, false] (fun K0 hK0 => ?_); try dsimp only [mp_s, mp_z]) | (refine CS.drawl tab [true, true, true, false, false, false, true, true, true, true, true, true, true, true, false, false, false, false, false, false, false, false, false, false, false, false, false, false, false, false, false, false, false, false, false, false, false, false, false, false, false, false, false, false, false, false, false] (fun K1 hK1 => ?_); try dsimp only [mp_s, mp_z]) | (refine hK _ _ ?_; clear hK K) | (clear hK K; refine hK _ _ ?_; clear hK K) | (clear hK K; clear hK K; refine hK _ _ ?_; clear hK K) | (clear hK K; clear hK K; clear hK K; refine hK _ _ ?_; clear hK K) | ((first | refine CS_ret ?_ | refine CS_skip ?_ | refine CS_exit ?_ | rw [if_pos rfl] | rw [if_neg (by decide)]); try dsimp only [thenR, blockR, loopR]) | refine CS.blk ?_ | refine CS.yes rfl ?_ | refine CS.no rfl ?_ | simp only [dd, e2, e3, es, ew, Nat.zero_add, Nat.mul_one, Int.toNat_natCast])
    exact ⟨i + 1, [0], [true, true, true, false, false, false, false, true, false, false, false, false, true], ci, by show 16 - (i + 1) < 16 - i; omega, by decide, rfl, rfl, rfl⟩
  · have e : i = 16 := by omega
    subst e
    have hr : rg (evd c 16) := fun k => by unfold evd; split <;> omega
    have pe := part_even hm (d := evd c 16) hr (fun k hk => by rw [evd, if_pos hk, hc]) h1 h2
    have pr := partv_rng hr (k := 2) (lo := lo) h2
    have dd : decide (((16 : Nat) : Int) < 16) = false := by decide
    have sh : min (Int.toNat 16) IntKind.u64.bits = 16 := rfl
    have w1 : (IntKind.u64.wrap (IntKind.u64.wrap (IntKind.u32.wrap (hi - lo)) + 1)).fdiv (2 ^ min (Int.toNat 16) IntKind.u64.bits) = ((hi - lo) % 4294967296 + 1) / 65536 := by
      rw [sh, Int.fdiv_eq_ediv_of_nonneg _ (by decide), wrap_u32, wrap_u64, wrap_u64]; show _ / 65536 = _; omega
    generalize ((hi - lo) % 4294967296 + 1) / 65536 = want at *
    obtain ⟨p, hp⟩ : ∃ p, p = partv (evd c 16) 2 lo hi := ⟨_, rfl⟩
    rw [← hp] at pe pr
    have w2 : IntKind.u64.wrap p = p := by rw [wrap_u64]; omega
    have w3 : IntKind.u64.wrap (want - p) = want - p := by rw [wrap_u64]; omega
    have d1 : decide (p ≤ want) = true := decide_eq_true pe.1
    have d2 : decide (want - p ≤ 1) = true := decide_eq_true (by omega)
    repeat (first | (refine TW.tw ?_; (first | refine TW.au tab rfl rfl rfl rfl rfl ?_ | (refine TW.nil ?_; (first | (refine hK0 _ _ ?_; clear hK0 K0) | (refine hK1 _ _ _ (by kernel_rfl) ?_; clear hK1 K1)); try dsimp only [thenR, blockR, loopR, mk_t, mk_f, mk_n]; try simp only [dd, w1, ← hp, w2, w3, d1, d2]) | refine TW.wt rfl rfl rfl ?_ | refine TW.sk rfl rfl rfl rfl rfl ?_ | refine TW.su rfl rfl rfl rfl ?_ | (refine TW.kc 21 rfl ?_; (try simp only [dd, w1, ← hp, w2, w3, d1, d2]); first | refine TW.c0 tab rfl rfl rfl rfl rfl (awake15_fs ) rfl rfl rfl rfl ?_) | (refine TW.kc 22 rfl ?_; (try simp only [dd, w1, ← hp, w2, w3, d1, d2]); first | refine TW.c0 tab rfl rfl rfl rfl rfl (EPart0_fs ) rfl rfl rfl rfl ?_ | refine TW.c0 tab rfl rfl rfl rfl rfl (EPart5_fs ) rfl rfl rfl rfl ?_ | refine TW.c0 tab rfl rfl rfl rfl rfl (EPart_fs (by assumption) (by assumption)) rfl rfl rfl rfl ?_) | refine TW.c0 tab rfl rfl rfl rfl rfl (BRight_fs _ (by assumption)) rfl rfl rfl rfl ?_ | refine TW.c0 tab rfl rfl rfl rfl rfl (hF _ _ _) rfl rfl rfl rfl ?_ | (refine TW.kd 7 rfl ?_; first | refine TW.dr rfl rfl rfl rfl (by first | assumption | decide | omega | (simp; done) | (simp; omega)) rfl ?_) | (refine TW.kd 9 rfl ?_; first | refine TW.de rfl rfl rfl rfl (by first | assumption | decide | omega | (simp; done) | (simp; omega)) rfl ?_) | (refine TW.kd 2 rfl ?_; first | refine TW.ix tab rfl rfl rfl rfl rfl rfl (by decide) (by first | assumption | decide | omega | (simp; done) | (simp; omega)) (by first | assumption | decide | omega | (simp; done) | (simp; omega)) (by first | assumption | rfl) rfl ?_ | refine TW.ir tab rfl rfl rfl rfl rfl rfl rfl (by decide) (by first | assumption | decide | omega | (simp; done) | (simp; omega)) (by first | assumption | decide | omega | (simp; done) | (simp; omega)) rfl ?_ | refine TW.is tab rfl rfl rfl rfl rfl rfl rfl (by decide) (by first | assumption | decide | omega | (simp; done) | (simp; omega)) (by first | assumption | decide | omega | (simp; done) | (simp; omega)) rfl ?_ | refine TW.ia tab rfl rfl rfl rfl rfl (by decide) (by first | assumption | decide | omega | (simp; done) | (simp; omega)) (by first | assumption | decide | omega | (simp; done) | (simp; omega)) rfl ?_) | (refine TW.kd 4 rfl ?_; first | refine TW.sr tab rfl rfl rfl rfl rfl rfl (by first | exact gbytes_map _ | rfl) rfl ?_) | (refine TW.kd2 16 rfl ?_; first | refine TW.lx tab rfl rfl rfl rfl rfl (dg_at _ (by show _ < 16; first | assumption | omega)) rfl ?_) | (refine TW.kd2 17 rfl ?_; first | refine TW.sx tab rfl rfl rfl rfl rfl rfl rfl (by show _ < 16; first | assumption | omega) (dg_set _ _ (by show _ < 16; first | assumption | omega)) (by first | assumption | decide | omega | (simp; done) | (simp; omega)) rfl rfl ?_ rfl) | (refine TW.kd3 32 rfl ?_; first | refine TW.iw tab rfl rfl rfl rfl rfl rfl rfl (by decide) (by first | assumption | decide | omega | (simp; done) | (simp; omega)) (by first | assumption | decide | omega | (simp; done) | (simp; omega)) rfl ?_ | refine TW.ij tab rfl rfl rfl rfl rfl (by decide) (by first | assumption | decide | omega | (simp; done) | (simp; omega)) (by first | assumption | decide | omega | (simp; done) | (simp; omega)) (by first | exact dg_dropc _ (by show _ < 16; first | assumption | omega) | rfl) rfl ?_) | (refine TW.kd3 33 rfl ?_; first | refine TW.sw tab rfl rfl rfl rfl rfl rfl (by decide) rfl (by assumption) (by rfl) rfl rfl (Nat.le_of_ble_eq_true rfl) rfl rfl ?_) | simp only [dd, w1, ← hp, w2, w3, d1, d2]); try dsimp only [dgz, dgzc, dg_setd, dg_renl, dg_tk, dg_rena, putS, rhoOf, updA, updL, qt, getM, List.set_cons_succ, List.set_cons_zero, gd_s, gd_z, ge_s, ge_z, ga_s, ga_z, tk_s, tk_z, tk_n, dr_s, dr_z, tsz7, tsz13, tsz18, tsz22, tsz23, tsz24, tsz25, tsz26, tsz39, tsz40, tsz41, tsz42, tsz49, tsz50, tsz89, tsz90, tsz91, tsz92, tsz97, tsz98, tsz107, cond_true, cond_false, ln_s, ln_z, zp_s, zp_z, Int.toNat_zero, Int.toNat_natCast, ba_n, ba_c, bo_lit, bo_agg, bo_sl, bo_adr, bo_iadr, bo_any, bo_zl, bo_clo, bo_row0, bo_sub0, ad_row, ad_sub, ad_win, ad_sl, ad_lit, ad_zl, up_0, up_1z, up_1s, up_2z, up_2o, up_2s, loopR, ap_s, ap_z, Nat.reduceAdd, Nat.reduceMul, Nat.add_zero, Nat.zero_add, ren, renL, renO, mp_s, mp_z, thenR, blockR, setMany, chunks, ch_s, ch_z, ta_l, rp_s, rp_z, Value.cells, List.flatten_cons, List.flatten_nil]) | refine CS.seq fun K hK => ?_ | (refine CS.regl [true, true, true, false, false, false, true, true, true, true, true, true, true, true, false, false, false, false, false, false, false, false, false, false, false, false, false, false, false, false, false, false, false, false, false, false, false, false, false, false, false, false, false, false, false, false, false] (fun K0 hK0 => ?_); try dsimp only [mp_s, mp_z]) | (refine CS.drawl tab [true, true, true, false, false, false, true, true, true, true, true, true, true, true, false, false, false, false, false, false, false, false, false, false, false, false, false, false, false, false, false, false, false, false, false, false, false, false, false, false, false, false, false, false, false, false, false] (fun K1 hK1 => ?_); try dsimp only [mp_s, mp_z]) | (refine hK _ _ ?_; clear hK K) | (clear hK K; refine hK _ _ ?_; clear hK K) | (clear hK K; clear hK K; refine hK _ _ ?_; clear hK K) | (clear hK K; clear hK K; clear hK K; refine hK _ _ ?_; clear hK K) | ((first | refine CS_ret ?_ | refine CS_skip ?_ | refine CS_exit ?_ | rw [if_pos rfl] | rw [if_neg (by decide)]); try dsimp only [thenR, blockR, loopR]) | refine CS.blk ?_ | refine CS.yes rfl ?_ | refine CS.no rfl ?_ | simp only [dd, w1, ← hp, w2, w3, d1, d2])
    exact hR0 _ _ _ (by exact GS.refl ⟨(by first | exact .inr rfl | exact .inl rfl), _, [], gresT_ok tab rfl, by decide, rfl, rfl, rfl, rfl⟩)
end Go.Gh

