import Derived.Test.YtoamjccphppdmaaOctet5

namespace Go.Gh
open Go.Proofs
set_option linter.unusedVariables false
set_option linter.unusedSimpArgs false

/-! Layer 3: the greater number's bytes stand behind the lesser one's. -/

theorem strOf_size (l : List Int) : (strOf l).size = l.length := by
  have := congrArg List.length (strOf_data l)
  rw [ByteArray.toList_eq, List.length_map] at this
  exact this

theorem less_cons {a b : Int} (ha : 0 ≤ a ∧ a < 256) (hb : 0 ≤ b ∧ b < 256) (x y : List UInt8) :
    Op.bytesLess (UInt8.ofNat a.toNat :: x) (UInt8.ofNat b.toNat :: y) = (decide (a < b) || (decide (a = b) && Op.bytesLess x y)) := by
  have h1 : decide (UInt8.ofNat a.toNat < UInt8.ofNat b.toNat) = decide (a < b) := by
    rw [decide_eq_decide, UInt8.lt_iff_toNat_lt, UInt8.toNat_ofNat', UInt8.toNat_ofNat']; omega
  have h2 : (UInt8.ofNat a.toNat == UInt8.ofNat b.toNat) = decide (a = b) := by
    rw [Bool.eq_iff_iff, beq_iff_eq, decide_eq_true_iff]
    exact ⟨u8_inj ha hb, fun h => by rw [h]⟩
  show (decide (UInt8.ofNat a.toNat < UInt8.ofNat b.toNat) || (UInt8.ofNat a.toNat == UInt8.ofNat b.toNat && Op.bytesLess x y)) = _
  rw [h1, h2]

theorem nat_lex (A B r s N : Nat) (hA : A < 256) (hB : B < 256) (hr : r < N) (hs : s < N) : A * N + r < B * N + s ↔ A < B ∨ (A = B ∧ r < s) := by
  constructor
  · intro h
    rcases Nat.lt_trichotomy A B with h1 | h1 | h1
    · exact .inl h1
    · subst h1; exact .inr ⟨rfl, by omega⟩
    · have : (B + 1) * N ≤ A * N := Nat.mul_le_mul_right _ h1
      rw [Nat.add_mul, Nat.one_mul] at this
      omega
  · rintro (h | ⟨rfl, h⟩)
    · have : (A + 1) * N ≤ B * N := Nat.mul_le_mul_right _ h
      rw [Nat.add_mul, Nat.one_mul] at this
      omega
    · omega

theorem be_less (a b : Nat) : ∀ k, Op.bytesLess ((be (a : Int) k).map fun n => UInt8.ofNat n.toNat) ((be (b : Int) k).map fun n => UInt8.ofNat n.toNat) = decide (a % 2 ^ (8 * k) < b % 2 ^ (8 * k))
  | 0 => by simp [be, Op.bytesLess, Nat.mod_one]
  | k + 1 => by
    have e2 : (2 : Nat) ^ (8 * (k + 1)) = 2 ^ (8 * k) * 256 := by rw [Nat.mul_add, Nat.pow_add]
    have hp : 0 < (2 : Nat) ^ (8 * k) := Nat.pow_pos (by decide)
    rw [be, be, List.map_cons, List.map_cons, less_cons (by omega) (by omega), be_less a b k, ← Bool.decide_and, ← Bool.decide_or, decide_eq_decide, e2, Nat.mod_mul, Nat.mod_mul]
    have c1 : ((a : Int) / 2 ^ (8 * k) % 256) = ((a / 2 ^ (8 * k) % 256 : Nat) : Int) := by simp
    have c2 : ((b : Int) / 2 ^ (8 * k) % 256) = ((b / 2 ^ (8 * k) % 256 : Nat) : Int) := by simp
    rw [c1, c2]
    have := nat_lex (a / 2 ^ (8 * k) % 256) (b / 2 ^ (8 * k) % 256) (a % 2 ^ (8 * k)) (b % 2 ^ (8 * k)) (2 ^ (8 * k)) (Nat.mod_lt _ (by decide)) (Nat.mod_lt _ (by decide)) (Nat.mod_lt _ hp) (Nat.mod_lt _ hp)
    rw [Nat.mul_comm (2 ^ (8 * k)), Nat.mul_comm (2 ^ (8 * k)), Nat.add_comm, Nat.add_comm (b % 2 ^ (8 * k)), this]
    omega

theorem low_eq (v : Int) (hv : 0 ≤ v ∧ v < 18446744073709551616) {k : Nat} (hk : 1 ≤ k ∧ k ≤ 8) :
    (IntKind.u64.wrap (v * 2 ^ min (64 - 8 * (k : Int)).toNat IntKind.u64.bits)).fdiv (2 ^ min (64 - 8 * (k : Int)).toNat IntKind.u64.bits) = v % 2 ^ (8 * k) := by
  have e : min (64 - 8 * (k : Int)).toNat IntKind.u64.bits = 64 - 8 * k := by
    have : IntKind.u64.bits = 64 := rfl
    rw [this]; omega
  rw [e, wrap_u64, Int.fdiv_eq_ediv_of_nonneg _ (Int.le_of_lt (Int.pow_pos (by decide)))]
  have : k = 1 ∨ k = 2 ∨ k = 3 ∨ k = 4 ∨ k = 5 ∨ k = 6 ∨ k = 7 ∨ k = 8 := by omega
  rcases this with rfl | rfl | rfl | rfl | rfl | rfl | rfl | rfl <;> simp only [Nat.reduceMul, Nat.reduceSub, Int.reducePow] <;> omega

theorem low_lt (v : Int) (k : Nat) : 0 ≤ v % 2 ^ (8 * k) ∧ v % 2 ^ (8 * k) < 2 ^ (8 * k) := by
  have : (0 : Int) < 2 ^ (8 * k) := Int.pow_pos (by decide)
  exact ⟨Int.emod_nonneg _ (by omega), Int.emod_lt_of_pos _ this⟩

theorem order_lss {a b : Int} {k : Nat} (ha : 0 ≤ a ∧ a < 2 ^ (8 * k)) (hb : 0 ≤ b ∧ b < 2 ^ (8 * k)) :
    Op.bytesLess (strOf (be a k)).toList (strOf (be b k)).toList = decide (a < b) := by
  obtain ⟨m, rfl⟩ := Int.eq_ofNat_of_zero_le ha.1
  obtain ⟨n, rfl⟩ := Int.eq_ofNat_of_zero_le hb.1
  have e : ((2 : Int) ^ (8 * k)) = ((2 ^ (8 * k) : Nat) : Int) := by simp
  rw [e] at ha hb
  rw [strOf_data, strOf_data, be_less, Nat.mod_eq_of_lt (by omega), Nat.mod_eq_of_lt (by omega), decide_eq_decide]
  omega

theorem order_eql {a b : Int} {k : Nat} (hk : k ≤ 8) (ha : 0 ≤ a ∧ a < 2 ^ (8 * k)) (hb : 0 ≤ b ∧ b < 2 ^ (8 * k)) :
    ((strOf (be a k)).toList == (strOf (be b k)).toList) = (a == b) := by
  rw [strOf_eq (be_byt _ _) (be_byt _ _), Bool.eq_iff_iff, decide_eq_true_iff, beq_iff_eq]
  refine ⟨fun h => ?_, fun h => by rw [h]⟩
  have := congrArg getv h
  rwa [getv_be ha.1 hk, getv_be hb.1 hk, Int.emod_eq_of_lt ha.1 ha.2, Int.emod_eq_of_lt hb.1 hb.2] at this

set_option maxHeartbeats 8000000 in
theorem OctetOrder_fs {a b : Int} (n : Int) (ha : 0 ≤ a ∧ a < 18446744073709551616) (hb : 0 ≤ b ∧ b < 18446744073709551616) : FS Try.prog 6 [.lit (.int .u64 a), .lit (.int .u64 b), .lit (.int .i64 n)] [] (.lit (.bool true)) [] := by
  refine FS.enterG Try.func6 rfl fun R0 hR0 => ?_
  simp only [Try.ntmps6, List.length_cons, List.length_nil, List.replicate_succ, List.replicate_zero, List.cons_append, List.nil_append, Nat.reduceAdd, Nat.reduceSub]
  obtain ⟨k, hk, ek⟩ : ∃ k : Nat, (1 ≤ k ∧ k ≤ 8) ∧ IntKind.i64.wrap (1 + IntKind.i64.wrap ((IntKind.u64.wrap n).tmod 8)) = (k : Int) := by
    have h0 : 0 ≤ IntKind.u64.wrap n := by rw [wrap_u64]; omega
    refine ⟨(1 + IntKind.u64.wrap n % 8).toNat, by omega, ?_⟩
    rw [Int.tmod_eq_emod_of_nonneg h0, wrap_i64 (IntKind.u64.wrap n % 8) (by omega) (by omega), wrap_i64 _ (by omega) (by omega)]
    omega
  have w1 : IntKind.i64.wrap (8 * (k : Int)) = 8 * (k : Int) := wrap_i64 _ (by omega) (by omega)
  have w2 : IntKind.i64.wrap (64 - 8 * (k : Int)) = 64 - 8 * (k : Int) := wrap_i64 _ (by omega) (by omega)
  have w3 : IntKind.u64.wrap (64 - 8 * (k : Int)) = 64 - 8 * (k : Int) := by rw [wrap_u64]; omega
  have la := low_eq a ha hk
  have lb := low_eq b hb hk
  have h64 : 0 ≤ 64 - 8 * (k : Int) := by omega
  have nk : nby (k : Int) = k := by unfold nby; (repeat' split) <;> omega
  have ra := low_lt a k
  have rb := low_lt b k
  have f1 := order_lss ra rb
  have f2 := order_eql hk.2 ra rb
  generalize a % 2 ^ (8 * k) = x at *
  generalize b % 2 ^ (8 * k) = y at *
  have hx := ra.1
  have hy := rb.1
  have s1 : (((strOf (be x k)).size : Nat) : Int) = (k : Int) := by rw [strOf_size, be_len]
  have s2 : (((strOf (be y k)).size : Nat) : Int) = (k : Int) := by rw [strOf_size, be_len]
  have ho : (be x k).length ≤ 1000000000 := by rw [be_len]; omega
  have ho2 : (be y k).length ≤ 1000000000 := by rw [be_len]; omega
  repeat (first | (refine TW.tw ?_; (first | refine TW.au tab rfl rfl rfl rfl rfl ?_ | (refine TW.nil ?_; (first | (refine hK0 _ _ ?_; clear hK0 K0) | (refine hK1 _ _ _ (by kernel_rfl) ?_; clear hK1 K1)); try dsimp only [thenR, blockR, loopR, mk_t, mk_f, mk_n]; try simp only [ek, w1, w2, w3, la, lb, nk, List.nil_append, s1, s2, f1, f2, beq_self_eq_true]) | refine TW.wt rfl rfl rfl ?_ | refine TW.sk rfl rfl rfl rfl rfl ?_ | refine TW.su rfl rfl rfl rfl ?_ | (refine TW.kc 21 rfl ?_; first | refine TW.c0 tab rfl rfl rfl rfl rfl (awake3_fs ) rfl rfl rfl rfl ?_) | refine TW.c0 tab rfl rfl rfl rfl rfl (OText0_fs _) rfl rfl rfl rfl ?_ | refine TW.c0 tab rfl rfl rfl rfl rfl (OTextR0_fs ) rfl rfl rfl rfl ?_ | refine TW.co2 tab rfl rfl rfl rfl rfl rfl rfl rfl rfl rfl (OTextR_fs (by assumption)) rfl rfl rfl rfl rfl ?_ | refine TW.co1 tab rfl rfl rfl rfl rfl rfl rfl rfl (OTextR_fs (by assumption)) rfl rfl rfl rfl rfl ?_ | refine TW.c0 tab rfl rfl rfl rfl rfl (OErrN_fs ) rfl rfl rfl rfl ?_ | refine TW.co2 tab rfl rfl rfl rfl rfl rfl rfl rfl rfl rfl (OErr_fs ) rfl rfl rfl rfl rfl ?_ | refine TW.co1 tab rfl rfl rfl rfl rfl rfl rfl rfl (OErr_fs ) rfl rfl rfl rfl rfl ?_ | refine TW.c0 tab rfl rfl rfl rfl rfl (OLeftN_fs ) rfl rfl rfl rfl ?_ | refine TW.co2 tab rfl rfl rfl rfl rfl rfl rfl rfl rfl rfl (OLeft_fs ) rfl rfl rfl rfl rfl ?_ | refine TW.co1 tab rfl rfl rfl rfl rfl rfl rfl rfl (OLeft_fs ) rfl rfl rfl rfl rfl ?_ | refine TW.c0 tab rfl rfl rfl rfl rfl (OGet0_fs _) rfl rfl rfl rfl ?_ | refine TW.co2 tab rfl rfl rfl rfl rfl rfl rfl rfl rfl rfl (OGet_fs _ (by first | assumption | exact tkL_byt (by assumption) _ _ | decide)) rfl rfl rfl rfl rfl ?_ | refine TW.co1 tab rfl rfl rfl rfl rfl rfl rfl rfl (OGet_fs _ (by first | assumption | exact tkL_byt (by assumption) _ _ | decide)) rfl rfl rfl rfl rfl ?_ | refine TW.c0 tab rfl rfl rfl rfl rfl (HBytes_fs (by first | assumption | exact be_byt _ _ | decide) (by first | assumption | exact be_byt _ _ | decide)) rfl rfl rfl rfl ?_ | refine TW.c0 tab rfl rfl rfl rfl rfl (ORead_fs (by first | assumption | decide)) rfl rfl rfl rfl ?_ | refine TW.c0 tab rfl rfl rfl rfl rfl (OBytes0_fs ) rfl rfl rfl rfl ?_ | refine TW.co2 tab rfl rfl rfl rfl rfl rfl rfl rfl rfl rfl (OBytes_fs (by first | assumption | decide | (simp only [List.length_append, be_len]; omega))) rfl rfl rfl rfl rfl ?_ | refine TW.co1 tab rfl rfl rfl rfl rfl rfl rfl rfl (OBytes_fs (by first | assumption | decide | (simp only [List.length_append, be_len]; omega))) rfl rfl rfl rfl rfl ?_ | refine TW.c0 tab rfl rfl rfl rfl rfl (OPut0_fs _ _) rfl rfl rfl rfl ?_ | refine TW.co2 tab rfl rfl rfl rfl rfl rfl rfl rfl rfl rfl (OPutN_fs _ _ (by first | assumption | decide)) rfl rfl rfl rfl rfl ?_ | refine TW.co1 tab rfl rfl rfl rfl rfl rfl rfl rfl (OPutN_fs _ _ (by first | assumption | decide)) rfl rfl rfl rfl rfl ?_ | refine TW.co2 tab rfl rfl rfl rfl rfl rfl rfl rfl rfl rfl (OPut_fs _ _ (by first | assumption | decide) (by first | assumption | decide | (simp only [List.length_append, be_len]; omega))) rfl rfl rfl rfl rfl ?_ | refine TW.co1 tab rfl rfl rfl rfl rfl rfl rfl rfl (OPut_fs _ _ (by first | assumption | decide) (by first | assumption | decide | (simp only [List.length_append, be_len]; omega))) rfl rfl rfl rfl rfl ?_ | (refine TW.kd 7 rfl ?_; first | refine TW.dr rfl rfl rfl rfl (by first | assumption | decide | omega | (simp; done) | (simp; omega)) rfl ?_) | (refine TW.kd 8 rfl ?_; first | refine TW.dl rfl rfl rfl rfl (by first | assumption | decide | omega | (simp; done) | (simp; omega)) rfl ?_) | (refine TW.kd 9 rfl ?_; first | refine TW.de rfl rfl rfl rfl (by first | assumption | decide | omega | (simp; done) | (simp; omega)) rfl ?_) | (refine TW.kd 4 rfl ?_; first | refine TW.sr tab rfl rfl rfl rfl rfl rfl (by first | exact gbytes_map _ | rfl) rfl ?_) | (refine TW.kd3 34 rfl ?_; first | refine TW.ba tab rfl rfl rfl rfl rfl rfl rfl rfl rfl rfl (by first | exact Or.inl ⟨rfl, rfl⟩ | exact Or.inr ⟨rfl, rfl⟩) rfl ?_) | simp only [ek, w1, w2, w3, la, lb, nk, List.nil_append, s1, s2, f1, f2, beq_self_eq_true]); try dsimp only [dgz, dgzc, dg_setd, dg_renl, dg_tk, dg_rena, putS, rhoOf, updA, updL, qt, getM, List.set_cons_succ, List.set_cons_zero, gd_s, gd_z, ge_s, ge_z, ga_s, ga_z, tk_s, tk_z, tk_n, dr_s, dr_z, tsz3, tsz5, tsz7, tsz13, tsz18, tsz22, tsz23, tsz24, tsz25, tsz26, tsz38, tsz39, tsz53, tsz54, tsz62, tsz63, tsz84, tsz85, tsz101, tsz102, tsz110, cond_true, cond_false, ln_s, ln_z, zp_s, zp_z, Int.toNat_zero, Int.toNat_natCast, ba_n, ba_c, bo_lit, bo_agg, bo_sl, bo_adr, bo_iadr, bo_any, bo_zl, bo_clo, bo_row0, bo_sub0, ad_row, ad_sub, ad_win, ad_sl, ad_lit, ad_zl, up_0, up_1z, up_1s, up_2z, up_2o, up_2s, loopR, ap_s, ap_z, Nat.reduceAdd, Nat.reduceMul, Nat.add_zero, Nat.zero_add, ren, renL, renO, mp_s, mp_z, thenR, blockR, setMany, chunks, ch_s, ch_z, ta_l, rp_s, rp_z, Value.cells, List.flatten_cons, List.flatten_nil]) | refine CS.seq fun K hK => ?_ | (refine CS.regl [true, true, true, false, false, false, true, true, true, true, true, false, false, false, false, false, false, false, false, false, false, false, false, false, false, false, false, false, false, false, false, false, false, false, false, false, false, false, false, false, false, false, false, false, false, false, false, false, false, false, false, false, false, false, false, false, false, false, false, false, false, false, false, false, false, false, false, false, false, false, false, false, false, false, false, false, false, false, false] (fun K0 hK0 => ?_); try dsimp only [mp_s, mp_z]) | (refine CS.drawl tab [true, true, true, false, false, false, true, true, true, true, true, false, false, false, false, false, false, false, false, false, false, false, false, false, false, false, false, false, false, false, false, false, false, false, false, false, false, false, false, false, false, false, false, false, false, false, false, false, false, false, false, false, false, false, false, false, false, false, false, false, false, false, false, false, false, false, false, false, false, false, false, false, false, false, false, false, false, false, false] (fun K1 hK1 => ?_); try dsimp only [mp_s, mp_z]) | (refine hK _ _ ?_; clear hK K) | (clear hK K; refine hK _ _ ?_; clear hK K) | (clear hK K; clear hK K; refine hK _ _ ?_; clear hK K) | (clear hK K; clear hK K; clear hK K; refine hK _ _ ?_; clear hK K) | ((first | refine CS_ret ?_ | refine CS_skip ?_ | refine CS_exit ?_ | rw [if_pos rfl] | rw [if_neg (by decide)]); try dsimp only [thenR, blockR, loopR]) | refine CS.blk ?_ | refine CS.yes rfl ?_ | refine CS.no rfl ?_ | simp only [ek, w1, w2, w3, la, lb, nk, List.nil_append, s1, s2, f1, f2, beq_self_eq_true])
  exact hR0 _ _ _ (by exact GS.refl ⟨(by first | exact .inr rfl | exact .inl rfl), _, [], gresT_ok tab rfl, by decide, rfl, rfl, rfl, rfl⟩)
end Go.Gh

