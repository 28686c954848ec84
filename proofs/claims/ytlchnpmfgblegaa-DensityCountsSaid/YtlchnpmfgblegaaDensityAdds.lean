import Derived.Test.YtlchnpmfgblegaaDensity6

namespace Go.Gh
open Go.Proofs
set_option linter.unusedVariables false
set_option linter.unusedSimpArgs false

/-! Layer 14: in whatever order. -/

theorem upd_same (d : Nat → Int) (k : Nat) (v w : Int) : upd (upd d k v) k w = upd d k w := by
  funext j; unfold upd; split <;> rfl
theorem upd_self (d : Nat → Int) (k : Nat) : upd d k (d k) = d := by
  funext j; unfold upd; split
  · rename_i h; rw [h]
  · rfl
theorem upd_at (d : Nat → Int) (k : Nat) (v : Int) : upd d k v k = v := if_pos rfl
theorem upd_ne (d : Nat → Int) {i k : Nat} (h : k ≠ i) (v : Int) : upd d i v k = d k := if_neg h
theorem psum_upd_ge (d : Nat → Int) (k : Nat) (v : Int) : ∀ n, n ≤ k → psum (upd d k v) n = psum d n
  | 0, _ => rfl
  | n + 1, h => by rw [psum, psum, psum_upd_ge d k v n (by omega), upd_ne d (by omega)]
theorem psum_upd (d : Nat → Int) (k : Nat) (v : Int) : ∀ n, k < n → psum (upd d k v) n = psum d n + v - d k
  | 0, h => absurd h (by omega)
  | n + 1, h => by
    rw [psum, psum]
    by_cases e : k = n
    · subst e; rw [psum_upd_ge d k v k (Nat.le_refl _), upd_at]; omega
    · rw [psum_upd d k v n (by omega), upd_ne d (by omega)]; omega
theorem psum_d0 : ∀ n, psum d0 n = 0
  | 0 => rfl
  | n + 1 => by rw [psum, psum_d0 n]; rfl

theorem heldv_in {a : Int} (h : 0 ≤ a) (h2 : a ≤ 2147483647) : heldv a = a := by unfold heldv; (repeat' split) <;> omega
theorem heldv_neg {a : Int} (h : a ≤ 0) : heldv a = 0 := by unfold heldv; (repeat' split) <;> omega
theorem cutn_in {a : Int} (h : -1099511627776 ≤ a) (h2 : a ≤ 1099511627776) : cutn a = a := by unfold cutn; (repeat' split) <;> omega

theorem adds_comm (a b : Int) {n m : Int} (hn : 0 ≤ n ∧ n < 1000) (hm : 0 ≤ m ∧ m < 1000) : addv (addv d0 b m) a n = addv (addv d0 a n) b m := by
  unfold addv
  rw [cutn_in (a := n) (by omega) (by omega), cutn_in (a := m) (by omega) (by omega)]
  generalize (a / 268435456).toNat = i
  generalize (b / 268435456).toNat = k
  have e1 : heldv (0 + m) = m := by rw [heldv_in (by omega) (by omega)]; omega
  have e2 : heldv (0 + n) = n := by rw [heldv_in (by omega) (by omega)]; omega
  funext j
  by_cases h : i = k
  · subst h
    simp only [upd, d0, eq_self, if_true, e1, e2]
    rw [Int.add_comm m n]
    by_cases hj : j = i
    · rw [if_pos hj, if_pos hj]
    · rw [if_neg hj, if_neg hj, if_neg hj, if_neg hj]
  · have h' : ¬ k = i := fun e => h e.symm
    simp only [upd, d0, if_neg h, if_neg h', e1, e2]
    by_cases hj : j = i
    · rw [if_pos hj, if_pos hj, if_neg (by omega)]
    · rw [if_neg hj, if_neg hj]

theorem adds_all {a b : Int} (ha : u32r a) (hb : u32r b) {n m : Int} (hn : 0 ≤ n ∧ n < 1000) (hm : 0 ≤ m ∧ m < 1000) : psum (addv (addv d0 a n) b m) 16 = n + m := by
  unfold u32r at *
  have hi : (a / 268435456).toNat < 16 := by omega
  have hk : (b / 268435456).toNat < 16 := by omega
  unfold addv
  rw [cutn_in (a := n) (by omega) (by omega), cutn_in (a := m) (by omega) (by omega)]
  generalize (a / 268435456).toNat = i at *
  generalize (b / 268435456).toNat = k at *
  rw [psum_upd _ _ _ 16 hk, psum_upd _ _ _ 16 hi, psum_d0]
  have e1 : heldv (0 + m) = m := by rw [heldv_in (by omega) (by omega)]; omega
  have e2 : heldv (0 + n) = n := by rw [heldv_in (by omega) (by omega)]; omega
  have e3 : heldv (n + m) = n + m := heldv_in (by omega) (by omega)
  by_cases h : k = i
  · subst h
    simp only [upd, d0, eq_self, if_true, e2, e3]; omega
  · simp only [upd, d0, if_neg h, e1, e2]; omega

theorem adds_none (a b : Int) {n m : Int} (hn : 0 ≤ n ∧ n < 1000) (hm : 0 ≤ m ∧ m < 1000) : addv (addv (addv (addv d0 a n) b m) a (-n)) b (-m) = d0 := by
  unfold addv
  rw [cutn_in (a := n) (by omega) (by omega), cutn_in (a := m) (by omega) (by omega), cutn_in (a := -n) (by omega) (by omega), cutn_in (a := -m) (by omega) (by omega)]
  generalize (a / 268435456).toNat = i
  generalize (b / 268435456).toNat = k
  have e1 : heldv (0 + m) = m := by rw [heldv_in (by omega) (by omega)]; omega
  have e2 : heldv (0 + n) = n := by rw [heldv_in (by omega) (by omega)]; omega
  have e3 : heldv (n + m) = n + m := heldv_in (by omega) (by omega)
  have e4 : heldv (n + m + -n) = m := by rw [heldv_in (by omega) (by omega)]; omega
  have e5 : heldv (m + -m) = 0 := by rw [heldv_in (by omega) (by omega)]; omega
  have e6 : heldv (n + -n) = 0 := by rw [heldv_in (by omega) (by omega)]; omega
  funext j
  by_cases h : k = i
  · subst h
    simp only [upd, d0, eq_self, if_true, e2, e3, e4, e5]
    by_cases hj : j = k
    · rw [if_pos hj]
    · rw [if_neg hj, if_neg hj, if_neg hj, if_neg hj]
  · have h' : ¬ i = k := fun e => h e.symm
    simp only [upd, d0, eq_self, if_true, if_neg h, if_neg h', e1, e2, e5, e6]
    by_cases hj : j = i
    · rw [if_neg (show ¬ j = k by omega), if_pos hj]
    · rw [if_neg hj, if_neg hj]
      by_cases hk : j = k
      · rw [if_pos hk]
      · rw [if_neg hk, if_neg hk]

theorem adds_neg (a : Int) : addv d0 a (-5) = d0 := by
  unfold addv
  generalize (a / 268435456).toNat = i
  rw [show cutn (-5) = -5 by decide, show heldv (d0 i + -5) = d0 i by show heldv (0 + -5) = 0; decide, upd_self]

theorem Sum2_fs {bw : Bool} {x : Nat → Int} (hx : rg x) : FS Try.prog 20 [.sl bw 16 [dg x, dg x] []] [] (.agg (dg (sums [x, x]))) [] :=
  Sum_fs (bw := bw) (l := [x, x]) (ex := []) (by simp) (fun d hd => by simp only [List.mem_cons, List.not_mem_nil, or_false, or_self] at hd; subst hd; exact hx)

set_option maxHeartbeats 1000000 in
theorem DensityAdds_fs {a b n m : Int} (ha : u32r a) (hb : u32r b) :
    FS Try.prog 6 [.lit (.int .u32 a), .lit (.int .u32 b), .lit (.int .i64 n), .lit (.int .i64 m)] [] (.lit (.bool true)) [] := by
  refine FS.enterG Try.func6 rfl fun R0 hR0 => ?_
  simp only [Try.ntmps6, List.length_cons, List.length_nil, List.replicate_succ, List.replicate_zero, List.cons_append, List.nil_append, Nat.reduceAdd, Nat.reduceSub]
  have red : ∀ n, ∃ x, (0 ≤ x ∧ x < 1000) ∧ IntKind.i64.wrap ((IntKind.u64.wrap n).tmod 1000) = x := fun n => by
    have h0 : 0 ≤ IntKind.u64.wrap n := by rw [wrap_u64]; omega
    refine ⟨IntKind.u64.wrap n % 1000, by omega, ?_⟩
    rw [Int.tmod_eq_emod_of_nonneg h0, wrap_i64 _ (by omega) (by omega)]
  obtain ⟨x, hx, ex⟩ := red n
  obtain ⟨y, hy, ey⟩ := red m
  have r0 := rg_d0
  have r1 := rg_addv rg_d0 a x
  have r2 := rg_addv rg_d0 b y
  have r3 := rg_addv r1 b y
  have r4 := rg_addv r3 a (-x)
  have c1 := adds_comm a b hx hy
  have c2 := adds_all ha hb hx hy
  have c3 := adds_none a b hx hy
  have c4 := adds_neg a
  obtain ⟨X, hX⟩ : ∃ X, addv (addv d0 a x) b y = X := ⟨_, rfl⟩
  rw [hX] at r3 r4 c1 c2 c3
  have w1 : IntKind.i64.wrap (0 - x) = -x := by rw [wrap_i64 _ (by omega) (by omega)]; omega
  have w2 : IntKind.i64.wrap (0 - y) = -y := by rw [wrap_i64 _ (by omega) (by omega)]; omega
  have w3 : IntKind.i64.wrap (x + y) = x + y := wrap_i64 _ (by omega) (by omega)
  have w4 : IntKind.u64.wrap (x + y) = x + y := by rw [wrap_u64]; omega
  repeat (first | (refine TW.tw ?_; (first | refine TW.au tab rfl rfl rfl rfl rfl ?_ | (refine TW.nil ?_; (first | (refine hK0 _ _ ?_; clear hK0 K0) | (refine hK1 _ _ _ (by kernel_rfl) ?_; clear hK1 K1)); try dsimp only [thenR, blockR, loopR, mk_t, mk_f, mk_n]; try simp only [ex, ey, dgz, dg_take, dg_setz, hX, c1, c2, c3, c4, w1, w2, w3, w4, beq_self_eq_true, Bool.and_self]) | refine TW.wt rfl rfl rfl ?_ | refine TW.sk rfl rfl rfl rfl rfl ?_ | refine TW.su rfl rfl rfl rfl ?_ | (refine TW.kc 20 rfl ?_; first | refine TW.c0 tab rfl rfl rfl rfl rfl (Sum2_fs (by assumption)) rfl rfl rfl rfl ?_ | refine TW.c0 tab rfl rfl rfl rfl rfl (Sum_fs (by assumption) (by assumption)) rfl rfl rfl rfl ?_) | (refine TW.kc 12 rfl ?_; first | refine TW.c0 tab rfl rfl rfl rfl rfl (awake14_fs ) rfl rfl rfl rfl ?_) | (refine TW.kc 19 rfl ?_; first | refine TW.c0 tab rfl rfl rfl rfl rfl (Add_fs (by assumption) (by assumption) _) rfl rfl rfl rfl ?_) | (refine TW.kc 14 rfl ?_; first | refine TW.c0 tab rfl rfl rfl rfl rfl (All_fs (by assumption)) rfl rfl rfl rfl ?_) | (refine TW.kd 3 rfl ?_; first | refine TW.bm tab rfl rfl rfl rfl rfl (by decide) rfl rfl rfl rfl rfl rfl ?_ | refine TW.bl tab rfl rfl rfl rfl rfl (by decide) rfl rfl rfl rfl rfl rfl rfl ?_) | (refine TW.kd 7 rfl ?_; first | refine TW.dr rfl rfl rfl rfl (by first | assumption | decide | omega | (simp; done) | (simp; omega)) rfl ?_) | (refine TW.kd 4 rfl ?_; first | refine TW.sr tab rfl rfl rfl rfl rfl rfl (by first | exact gbytes_map _ | rfl) rfl ?_) | (refine TW.kd3 33 rfl ?_; first | refine TW.sw tab rfl rfl rfl rfl rfl rfl (by decide) rfl (by assumption) (by rfl) rfl rfl (Nat.le_of_ble_eq_true rfl) rfl rfl ?_) | (refine TW.kd3 34 rfl ?_; first | refine TW.ba tab rfl rfl rfl rfl rfl rfl rfl rfl rfl rfl (by first | exact Or.inl ⟨rfl, rfl⟩ | exact Or.inr ⟨rfl, rfl⟩) rfl ?_) | simp only [ex, ey, dgz, dg_take, dg_setz, hX, c1, c2, c3, c4, w1, w2, w3, w4, beq_self_eq_true, Bool.and_self]); try dsimp only [dgz, dgzc, dg_setd, dg_renl, dg_tk, dg_rena, putS, rhoOf, updA, updL, qt, getM, List.set_cons_succ, List.set_cons_zero, gd_s, gd_z, ge_s, ge_z, ga_s, ga_z, tk_s, tk_z, tk_n, dr_s, dr_z, tsz7, tsz13, tsz18, tsz22, tsz23, tsz24, tsz25, tsz26, tsz39, tsz40, tsz41, tsz42, tsz49, tsz50, tsz89, tsz90, tsz91, tsz92, tsz97, tsz98, tsz107, cond_true, cond_false, ln_s, ln_z, zp_s, zp_z, Int.toNat_zero, Int.toNat_natCast, ba_n, ba_c, bo_lit, bo_agg, bo_sl, bo_adr, bo_iadr, bo_any, bo_zl, bo_clo, bo_row0, bo_sub0, ad_row, ad_sub, ad_win, ad_sl, ad_lit, ad_zl, up_0, up_1z, up_1s, up_2z, up_2o, up_2s, loopR, ap_s, ap_z, Nat.reduceAdd, Nat.reduceMul, Nat.add_zero, Nat.zero_add, ren, renL, renO, mp_s, mp_z, thenR, blockR, setMany, chunks, ch_s, ch_z, ta_l, rp_s, rp_z, Value.cells, List.flatten_cons, List.flatten_nil]) | refine CS.seq fun K hK => ?_ | (refine CS.regl [true, true, true, true, false, false, false, false, true, true, true, true, false, false, false, false, false, false, false, false, false, false, false, false, false, false, false, false, false, false, false, false, false, false, false, false, false, false, false, false, false, false, false, false, false, false, false, false, false, false, false, false, false, false, false, false, false, false, false, false, false, false, false, false, false, false, false, false, false, false, false, false, false, false, false, false, false, false, false, false, false] (fun K0 hK0 => ?_); try dsimp only [mp_s, mp_z]) | (refine CS.drawl tab [true, true, true, true, false, false, false, false, true, true, true, true, false, false, false, false, false, false, false, false, false, false, false, false, false, false, false, false, false, false, false, false, false, false, false, false, false, false, false, false, false, false, false, false, false, false, false, false, false, false, false, false, false, false, false, false, false, false, false, false, false, false, false, false, false, false, false, false, false, false, false, false, false, false, false, false, false, false, false, false, false] (fun K1 hK1 => ?_); try dsimp only [mp_s, mp_z]) | (refine hK _ _ ?_; clear hK K) | (clear hK K; refine hK _ _ ?_; clear hK K) | (clear hK K; clear hK K; refine hK _ _ ?_; clear hK K) | (clear hK K; clear hK K; clear hK K; refine hK _ _ ?_; clear hK K) | ((first | refine CS_ret ?_ | refine CS_skip ?_ | refine CS_exit ?_ | rw [if_pos rfl] | rw [if_neg (by decide)]); try dsimp only [thenR, blockR, loopR]) | refine CS.blk ?_ | refine CS.yes rfl ?_ | refine CS.no rfl ?_ | simp only [ex, ey, dgz, dg_take, dg_setz, hX, c1, c2, c3, c4, w1, w2, w3, w4, beq_self_eq_true, Bool.and_self])
  trace_state
  exact hR0 _ _ _ (by exact GS.refl ⟨(by first | exact .inr rfl | exact .inl rfl), _, [], gresT_ok tab rfl, by decide, rfl, rfl, rfl, rfl⟩)
end Go.Gh

