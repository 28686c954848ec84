import Derived.Test.YtbkahcionjkgjaaShort

namespace Go.Gh
def mk_octet_20 : List Bool := [true, true, true, false, false, false, true, false, true, false, false, false, false, true, false, false, false, false, false, false, false, false, false, false, false, false, false, false, false, false]
open Go.Proofs
set_option linter.unusedVariables false
set_option linter.unusedSimpArgs false

/-! Layer 3: numbers in bytes. -/

/-- How many bytes. -/
def nby (n : Int) : Nat := (if 8 < (if 1 > n then 1 else n) then 8 else (if 1 > n then 1 else n)).toNat
theorem nby_rng (n : Int) : 1 ≤ nby n ∧ nby n ≤ 8 := by unfold nby; (repeat' split) <;> omega

/-- The k lowest bytes, the highest first. -/
def be (v : Int) : Nat → List Int
  | 0 => []
  | k + 1 => (v / 2 ^ (8 * k)) % 256 :: be v k
theorem be_len (v : Int) : ∀ k, (be v k).length = k
  | 0 => rfl
  | k + 1 => by rw [be, List.length_cons, be_len v k]

theorem Obytes_fs (n : Int) : FS Try.prog 54 [.lit (.int .i64 n)] [] (.lit (.int .i64 (nby n : Int))) [] := by
  refine FS.enterG Try.func54 rfl fun R0 hR0 => ?_
  simp only [Try.ntmps54, List.length_cons, List.length_nil, List.replicate_succ, List.replicate_zero, List.cons_append, List.nil_append, Nat.reduceAdd, Nat.reduceSub]
  have e : ((nby n : Nat) : Int) = if 8 < (if 1 > n then 1 else n) then 8 else (if 1 > n then 1 else n) := by unfold nby; (repeat' split) <;> omega
  rw [e] at hR0
  repeat (first | (refine TW.tw ?_; (first | (refine TW.nil ?_; (first | (refine hK0 _ _ ?_; clear hK0 K0) | (refine hK1 _ _ _ (by kernel_rfl) ?_; clear hK1 K1)); try dsimp only [thenR, blockR, loopR, mk_t, mk_f, mk_n])|refine TW.gn (h := ?_))) | refine CS.seq fun K hK => ?_|(refine CS.regl [true, false, true, false, false, false] (fun K0 hK0 => ?_); try dsimp only [mp_s, mp_z])|(refine CS.drawl tab [true, false, true, false, false, false] (fun K1 hK1 => ?_); try dsimp only [mp_s, mp_z])|(refine hK _ _ ?_; clear hK K)|(clear hK K; refine hK _ _ ?_; clear hK K)|(clear hK K; clear hK K; refine hK _ _ ?_; clear hK K)|(clear hK K; clear hK K; clear hK K; refine hK _ _ ?_; clear hK K)|((first | refine CS_ret ?_ | refine CS_skip ?_ | refine CS_exit ?_ | rw [if_pos rfl] | rw [if_neg (by decide)]); try dsimp only [thenR, blockR, loopR])|refine CS.blk ?_|refine CS.yes rfl ?_|refine CS.no rfl ?_)
  exact hR0 _ _ _ (by exact GS.refl ⟨(by first | exact .inr rfl | exact .inl rfl), _, [], gresT_ok tab rfl, by decide, rfl, rfl, rfl, rfl⟩)

theorem Rsize_fs (n : Int) : FS Try.prog 56 [.lit (.int .i64 n)] [] (.lit (.int .i64 (nby n : Int))) [] := by
  refine FS.enterG Try.func56 rfl fun R0 hR0 => ?_
  simp only [Try.ntmps56, List.length_cons, List.length_nil, List.replicate_succ, List.replicate_zero, List.cons_append, List.nil_append, Nat.reduceAdd, Nat.reduceSub]
  have e : ((nby n : Nat) : Int) = if (if 8 < n then 8 else n) > 1 then (if 8 < n then 8 else n) else 1 := by unfold nby; (repeat' split) <;> omega
  rw [e] at hR0
  repeat (first | (refine TW.tw ?_; (first | (refine TW.nil ?_; (first | (refine hK0 _ _ ?_; clear hK0 K0) | (refine hK1 _ _ _ (by kernel_rfl) ?_; clear hK1 K1)); try dsimp only [thenR, blockR, loopR, mk_t, mk_f, mk_n])|refine TW.gn (h := ?_))) | refine CS.seq fun K hK => ?_|(refine CS.regl [true, false, true, false, false, false] (fun K0 hK0 => ?_); try dsimp only [mp_s, mp_z])|(refine CS.drawl tab [true, false, true, false, false, false] (fun K1 hK1 => ?_); try dsimp only [mp_s, mp_z])|(refine hK _ _ ?_; clear hK K)|(clear hK K; refine hK _ _ ?_; clear hK K)|(clear hK K; clear hK K; refine hK _ _ ?_; clear hK K)|(clear hK K; clear hK K; clear hK K; refine hK _ _ ?_; clear hK K)|((first | refine CS_ret ?_ | refine CS_skip ?_ | refine CS_exit ?_ | rw [if_pos rfl] | rw [if_neg (by decide)]); try dsimp only [thenR, blockR, loopR])|refine CS.blk ?_|refine CS.yes rfl ?_|refine CS.no rfl ?_)
  exact hR0 _ _ _ (by exact GS.refl ⟨(by first | exact .inr rfl | exact .inl rfl), _, [], gresT_ok tab rfl, by decide, rfl, rfl, rfl, rfl⟩)

theorem be_step (v : Int) (hv : 0 ≤ v) (j : Nat) (hj : j ≤ 7) : IntKind.u8.wrap (v.fdiv (2 ^ min (8 * (j : Int)).toNat IntKind.u64.bits)) = (v / 2 ^ (8 * j)) % 256 := by
  have e : min (8 * (j : Int)).toNat IntKind.u64.bits = 8 * j := by
    have : IntKind.u64.bits = 64 := rfl
    rw [this]; omega
  rw [e, wrap_u8, Int.fdiv_eq_ediv_of_nonneg _ (Int.le_of_lt (Int.pow_pos (by decide)))]

set_option maxHeartbeats 4000000 in
theorem OPut_fs {l : List Int} (v n : Int) (hv : 0 ≤ v) (hl : l.length ≤ 1000000000) : FS Try.prog 20 [.adr 0 0 0, .lit (.int .u64 v), .lit (.int .i64 n)] [.cells [.row 1], .row 5 1 (l.map bG)] (.tup []) [.cells [.row 2], .dead, .row 5 1 ((l ++ be v (nby n)).map bG)] := by
  refine FS.enterG Try.func20 rfl fun R0 hR0 => ?_
  simp only [Try.ntmps20, List.length_cons, List.length_nil, List.replicate_succ, List.replicate_zero, List.cons_append, List.nil_append, Nat.reduceAdd, Nat.reduceSub]
  have hn := nby_rng n
  have ew : IntKind.i64.wrap ((nby n : Int) - 1) = (nby n : Int) - 1 := wrap_i64 _ (by omega) (by omega)
  repeat (first | (refine TW.tw ?_; (first | (refine TW.nil ?_; (first | (refine hK0 _ _ ?_; clear hK0 K0) | (refine hK1 _ _ _ (by kernel_rfl) ?_; clear hK1 K1)); try dsimp only [mk_octet_20, thenR, blockR, loopR, mk_t, mk_f, mk_n]; try simp only [ew, Int.toNat_natCast])|(refine TW.ca rfl ?_; first | (refine TW.kc 54 rfl ?_; first | refine TW.C0 (hF := Obytes_fs _) (h := ?_)))|refine TW.gn (h := ?_)|(simp only [ew]; refine TW.nm (h := ?_)))) | refine CS.seq fun K hK => ?_|(refine CS.regl mk_octet_20 (fun K0 hK0 => ?_); try dsimp only [mp_s, mp_z])|(refine CS.drawl tab mk_octet_20 (fun K1 hK1 => ?_); try dsimp only [mp_s, mp_z])|(refine hK _ _ ?_; clear hK K)|(clear hK K; refine hK _ _ ?_; clear hK K)|(clear hK K; clear hK K; refine hK _ _ ?_; clear hK K)|(clear hK K; clear hK K; clear hK K; refine hK _ _ ?_; clear hK K)|((first | refine CS_ret ?_ | refine CS_skip ?_ | refine CS_exit ?_ | rw [if_pos rfl] | rw [if_neg (by decide)]); try dsimp only [thenR, blockR, loopR])|refine CS.blk ?_|refine CS.yes rfl ?_|refine CS.no rfl ?_|simp only [ew])
  refine CS.ghost (GS.mv 1 rfl (GS.refl ?_))
  refine CS.lp (fun x : Nat × List Int => x.1 ≤ nby n ∧ x.2 ++ be v x.1 = l ++ be v (nby n))
    (fun x => ([.adr 0 0 0, .lit (.int .u64 v), .any, .any, .any, .any, .lit (.int .i64 ((x.1 : Int) - 1))] ++ List.replicate 23 .any))
    (fun x => [.cells [.row 2], .dead, .row 5 1 (x.2.map bG)]) (fun x => x.1) (nby n, l) [0, 1, 2] [true, true, false, false, false, false, true] (by decide) rfl ⟨Nat.le_refl _, rfl⟩ rfl rfl ?_
  rintro ⟨k, out⟩ ⟨hk1, hk2⟩
  simp only at hk1 hk2
  have hol : out.length ≤ 1000000008 := by
    have := congrArg List.length hk2
    simp only [List.length_append, be_len] at this; omega
  simp only [List.length_map, List.replicate_succ, List.replicate_zero, List.cons_append, List.nil_append]
  cases k with
  | zero =>
    have d : decide (((0 : Nat) : Int) - 1 ≥ 0) = false := by decide
    rw [be, List.append_nil] at hk2
    rw [← hk2] at hR0
    repeat (first | (refine TW.tw ?_; (first | (refine TW.nil ?_; (first | (refine hK0 _ _ ?_; clear hK0 K0) | (refine hK1 _ _ _ (by kernel_rfl) ?_; clear hK1 K1)); try dsimp only [mk_octet_20, thenR, blockR, loopR, mk_t, mk_f, mk_n]; try simp only [d, Int.toNat_natCast])|(refine TW.ca rfl ?_; first | (refine TW.kc 54 rfl ?_; first | refine TW.C0 (hF := Obytes_fs _) (h := ?_)))|refine TW.gn (h := ?_)|(simp only [d]; refine TW.nm (h := ?_)))) | refine CS.seq fun K hK => ?_|(refine CS.regl mk_octet_20 (fun K0 hK0 => ?_); try dsimp only [mp_s, mp_z])|(refine CS.drawl tab mk_octet_20 (fun K1 hK1 => ?_); try dsimp only [mp_s, mp_z])|(refine hK _ _ ?_; clear hK K)|(clear hK K; refine hK _ _ ?_; clear hK K)|(clear hK K; clear hK K; refine hK _ _ ?_; clear hK K)|(clear hK K; clear hK K; clear hK K; refine hK _ _ ?_; clear hK K)|((first | refine CS_ret ?_ | refine CS_skip ?_ | refine CS_exit ?_ | rw [if_pos rfl] | rw [if_neg (by decide)]); try dsimp only [thenR, blockR, loopR])|refine CS.blk ?_|refine CS.yes rfl ?_|refine CS.no rfl ?_|simp only [d])
    exact hR0 _ _ _ (by exact GS.refl ⟨(by first | exact .inr rfl | exact .inl rfl), _, [0, 1, 2], gresT_ok tab rfl, by decide, rfl, rfl, rfl, rfl⟩)
  | succ j =>
    have e0 : (((j + 1 : Nat) : Int) - 1) = (j : Int) := by omega
    have d : decide ((j : Int) ≥ 0) = true := decide_eq_true (by omega)
    have w1 : IntKind.i64.wrap (8 * (j : Int)) = 8 * (j : Int) := wrap_i64 _ (by omega) (by omega)
    have w2 : IntKind.i64.wrap ((j : Int) - 1) = (j : Int) - 1 := wrap_i64 _ (by omega) (by omega)
    have hb := be_step v hv j (by omega)
    rw [be, List.append_cons] at hk2
    simp only [e0]
    repeat (first | (refine TW.tw ?_; (first | (refine TW.nil ?_; (first | (refine hK0 _ _ ?_; clear hK0 K0) | (refine hK1 _ _ _ (by kernel_rfl) ?_; clear hK1 K1)); try dsimp only [mk_octet_20, thenR, blockR, loopR, mk_t, mk_f, mk_n]; try simp only [d, w1, w2, hb, Int.toNat_natCast])|(refine TW.ca rfl ?_; first | (refine TW.kc 54 rfl ?_; first | refine TW.C0 (hF := Obytes_fs _) (h := ?_)))|refine TW.gn (h := ?_)|(simp only [d, w1, w2, hb]; refine TW.nm (h := ?_)))) | refine CS.seq fun K hK => ?_|(refine CS.regl mk_octet_20 (fun K0 hK0 => ?_); try dsimp only [mp_s, mp_z])|(refine CS.drawl tab mk_octet_20 (fun K1 hK1 => ?_); try dsimp only [mp_s, mp_z])|(refine hK _ _ ?_; clear hK K)|(clear hK K; refine hK _ _ ?_; clear hK K)|(clear hK K; clear hK K; refine hK _ _ ?_; clear hK K)|(clear hK K; clear hK K; clear hK K; refine hK _ _ ?_; clear hK K)|((first | refine CS_ret ?_ | refine CS_skip ?_ | refine CS_exit ?_ | rw [if_pos rfl] | rw [if_neg (by decide)]); try dsimp only [thenR, blockR, loopR])|refine CS.blk ?_|refine CS.yes rfl ?_|refine CS.no rfl ?_|simp only [d, w1, w2, hb])
    exact ⟨(j, out ++ [(v / 2 ^ (8 * j)) % 256]), [0, 1, 4], [true, true, false, false, false, false, true], ⟨by omega, hk2⟩, Nat.lt_succ_self j, by decide, rfl, rfl, by rw [List.map_append]; rfl⟩
end Go.Gh

