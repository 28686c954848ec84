import Derived.Test.YtbkahcionjkgjaaOctet3

namespace Go.Gh
def mk_octet4_29 : List Bool := [true, true, true, false, false, false, true, true, true, false, false, false, false, false, false, true, false, false, false, false, false, false, false, false, false, false, false, false]
def mk_octet4_20 : List Bool := [true, true, true, false, false, false, true, false, true, false, false, false, false, true, false, false, false, false, false, false, false, false, false, false, false, false, false, false, false, false]
def mk_octet4_25 : List Bool := [true, false, true, false, true, false, false, false, false, false]
def mk_octet4_70 : List Bool := [true, true, false, false, true, true, true, false, false, false, false, false, false, false, false, true, false, false, false, false, false, false, true, false, false, false, false, false, false, false, false, false, false, false, false, false, false, false, false, false, false, false, false, false, false, false]
def mk_octet4_57 : List Bool := [true, true, false, false, true, true, false, true, false, true, false, false, false, false, false, false, false, true, true, true, true, false, false, false, false, false, false, false, false, false]
open Go.Proofs
set_option linter.unusedVariables false
set_option linter.unusedSimpArgs false

/-! Layer 3: the document's texts and bytes; what is nil. -/

/-- Where the document's reader stands behind a text. -/
def ttA (B : List Int) (at_ : Nat) (e : Int) : Nat := atN B (atN B at_ e 2) (tkE (rst B at_ e) e 2) (tln (rst B at_ e) e)



theorem be_step' (v : Int) (hv : 0 ≤ v) (j : Nat) (hj : j ≤ 7) : IntKind.u8.wrap (v.fdiv (2 ^ min (IntKind.u64.wrap (8 * (j : Int))).toNat IntKind.u64.bits)) = (v / 2 ^ (8 * j)) % 256 := by
  have : IntKind.u64.wrap (8 * (j : Int)) = 8 * (j : Int) := by rw [wrap_u64]; omega
  rw [this]; exact be_step v hv j hj


set_option maxHeartbeats 4000000 in
theorem RPutR_fs {bw : Bool} {l : List Int} {ex : List (List GV)} (v n : Int) (hv : 0 ≤ v) (hl : l.length ≤ 1000000000) : FS Try.prog 29 [.sl bw 1 (l.map bG) ex, .lit (.int .u64 v), .lit (.int .i64 n)] [] (.row 0) [.row 5 1 ((l ++ be v (nby n)).map bG)] := by
  refine FS.enterG Try.func29 rfl fun R0 hR0 => ?_
  simp only [Try.ntmps29, List.length_cons, List.length_nil, List.replicate_succ, List.replicate_zero, List.cons_append, List.nil_append, Nat.reduceAdd, Nat.reduceSub]
  have hn := nby_rng n
  have ew : IntKind.i64.wrap ((nby n : Int) - 1) = (nby n : Int) - 1 := wrap_i64 _ (by omega) (by omega)
  have hb : (l.map bG).length ≤ 137438953472 := by rw [List.length_map]; omega
  repeat (first | (refine TW.tw ?_; (first | (refine TW.nil ?_; (first | (refine hK0 _ _ ?_; clear hK0 K0) | (refine hK1 _ _ _ (by kernel_rfl) ?_; clear hK1 K1)); try dsimp only [mk_octet4_29, thenR, blockR, loopR, mk_t, mk_f, mk_n]; try simp only [ew, Int.toNat_natCast])|(refine TW.ca rfl ?_; first | (refine TW.kc 56 rfl ?_; first | refine TW.C0 (hF := Rsize_fs _) (h := ?_)))|refine TW.gn (h := ?_)|(simp only [ew]; refine TW.nm (h := ?_)))) | refine CS.seq fun K hK => ?_|(refine CS.regl mk_octet4_29 (fun K0 hK0 => ?_); try dsimp only [mp_s, mp_z])|(refine CS.drawl tab mk_octet4_29 (fun K1 hK1 => ?_); try dsimp only [mp_s, mp_z])|(refine hK _ _ ?_; clear hK K)|(clear hK K; refine hK _ _ ?_; clear hK K)|(clear hK K; clear hK K; refine hK _ _ ?_; clear hK K)|(clear hK K; clear hK K; clear hK K; refine hK _ _ ?_; clear hK K)|((first | refine CS_ret ?_ | refine CS_skip ?_ | refine CS_exit ?_ | rw [if_pos rfl] | rw [if_neg (by decide)]); try dsimp only [thenR, blockR, loopR])|refine CS.blk ?_|refine CS.yes rfl ?_|refine CS.no rfl ?_|simp only [ew])
  refine CS.lp (fun x : Nat × List Int => x.1 ≤ nby n ∧ x.2 ++ be v x.1 = l ++ be v (nby n))
    (fun x => ([.any, .lit (.int .u64 v), .any, .any, .any, .any, .any, .row 0, .lit (.int .i64 ((x.1 : Int) - 1))] ++ List.replicate 19 .any))
    (fun x => [.row 5 1 (x.2.map bG)]) (fun x => x.1) (nby n, l) [0] [false, true, false, false, false, false, false, true, true] (by decide) rfl ⟨Nat.le_refl _, rfl⟩ rfl rfl ?_
  rintro ⟨k, out⟩ ⟨hk1, hk2⟩
  simp only at hk1 hk2
  have hol : out.length ≤ 1000000008 := by
    have := congrArg List.length hk2
    simp only [List.length_append, be_len] at this; omega
  simp only [List.length_map, List.replicate_succ, List.replicate_zero, List.cons_append, List.nil_append]
  cases k with
  | zero =>
    have d : decide (((0 : Nat) : Int) - 1 ≥ 0) = false := by decide
    rw [be, List.append_nil] at hk2
    rw [← hk2] at hR0
    repeat (first | (refine TW.tw ?_; (first | (refine TW.nil ?_; (first | (refine hK0 _ _ ?_; clear hK0 K0) | (refine hK1 _ _ _ (by kernel_rfl) ?_; clear hK1 K1)); try dsimp only [mk_octet4_29, thenR, blockR, loopR, mk_t, mk_f, mk_n]; try simp only [d, Int.toNat_natCast])|(refine TW.ca rfl ?_; first | (refine TW.kc 56 rfl ?_; first | refine TW.C0 (hF := Rsize_fs _) (h := ?_)))|refine TW.gn (h := ?_)|(simp only [d]; refine TW.nm (h := ?_)))) | refine CS.seq fun K hK => ?_|(refine CS.regl mk_octet4_29 (fun K0 hK0 => ?_); try dsimp only [mp_s, mp_z])|(refine CS.drawl tab mk_octet4_29 (fun K1 hK1 => ?_); try dsimp only [mp_s, mp_z])|(refine hK _ _ ?_; clear hK K)|(clear hK K; refine hK _ _ ?_; clear hK K)|(clear hK K; clear hK K; refine hK _ _ ?_; clear hK K)|(clear hK K; clear hK K; clear hK K; refine hK _ _ ?_; clear hK K)|((first | refine CS_ret ?_ | refine CS_skip ?_ | refine CS_exit ?_ | rw [if_pos rfl] | rw [if_neg (by decide)]); try dsimp only [thenR, blockR, loopR])|refine CS.blk ?_|refine CS.yes rfl ?_|refine CS.no rfl ?_|simp only [d])
    exact hR0 _ _ _ (by exact GS.refl ⟨(by first | exact .inr rfl | exact .inl rfl), _, [0], gresT_ok tab rfl, by decide, rfl, rfl, rfl, rfl⟩)
  | succ j =>
    have e0 : (((j + 1 : Nat) : Int) - 1) = (j : Int) := by omega
    have d : decide ((j : Int) ≥ 0) = true := decide_eq_true (by omega)
    have w1 : IntKind.i64.wrap (8 * (j : Int)) = 8 * (j : Int) := wrap_i64 _ (by omega) (by omega)
    have w2 : IntKind.i64.wrap ((j : Int) - 1) = (j : Int) - 1 := wrap_i64 _ (by omega) (by omega)
    have w3 : 0 ≤ IntKind.u64.wrap (8 * (j : Int)) := by rw [wrap_u64]; omega
    have hb := be_step' v hv j (by omega)
    rw [be, List.append_cons] at hk2
    simp only [e0]
    repeat (first | (refine TW.tw ?_; (first | (refine TW.nil ?_; (first | (refine hK0 _ _ ?_; clear hK0 K0) | (refine hK1 _ _ _ (by kernel_rfl) ?_; clear hK1 K1)); try dsimp only [mk_octet4_29, thenR, blockR, loopR, mk_t, mk_f, mk_n]; try simp only [d, w1, w2, hb, Int.toNat_natCast])|(refine TW.ca rfl ?_; first | (refine TW.kc 56 rfl ?_; first | refine TW.C0 (hF := Rsize_fs _) (h := ?_)))|refine TW.gn (h := ?_)|(simp only [d, w1, w2, hb]; refine TW.nm (h := ?_)))) | refine CS.seq fun K hK => ?_|(refine CS.regl mk_octet4_29 (fun K0 hK0 => ?_); try dsimp only [mp_s, mp_z])|(refine CS.drawl tab mk_octet4_29 (fun K1 hK1 => ?_); try dsimp only [mp_s, mp_z])|(refine hK _ _ ?_; clear hK K)|(clear hK K; refine hK _ _ ?_; clear hK K)|(clear hK K; clear hK K; refine hK _ _ ?_; clear hK K)|(clear hK K; clear hK K; clear hK K; refine hK _ _ ?_; clear hK K)|((first | refine CS_ret ?_ | refine CS_skip ?_ | refine CS_exit ?_ | rw [if_pos rfl] | rw [if_neg (by decide)]); try dsimp only [thenR, blockR, loopR])|refine CS.blk ?_|refine CS.yes rfl ?_|refine CS.no rfl ?_|simp only [d, w1, w2, hb])
    exact ⟨(j, out ++ [(v / 2 ^ (8 * j)) % 256]), [2], [false, true, false, false, false, false, false, true, true], ⟨by omega, hk2⟩, Nat.lt_succ_self j, by decide, rfl, rfl, by rw [List.map_append]; rfl⟩
theorem RPut_fs {bw : Bool} {l : List Int} {ex : List (List GV)} (v n : Int) (hv : 0 ≤ v) (hl : l.length ≤ 1000000000) : FS Try.prog 29 [.sl bw 1 (l.map bG) ex, .lit (.int .u64 v), .lit (.int .i64 n)] [] (.sl false 1 ((l ++ be v (nby n)).map bG) []) [] :=
  (RPutR_fs v n hv hl).frz
theorem RPutN_fs (v n : Int) (hv : 0 ≤ v) : FS Try.prog 29 [.lit (.slice none 0 0), .lit (.int .u64 v), .lit (.int .i64 n)] [] (.sl false 1 ((be v (nby n)).map bG) []) [] :=
  (RPut_fs (bw := false) (l := []) (ex := []) v n hv (Nat.zero_le _)).le (.cons (.nilS false 1) (.cons (.refl _) (.cons (.refl _) .nil)))



theorem OPut0_fs (v n : Int) : FS Try.prog 20 [.lit (.pointer none), .lit (.int .u64 v), .lit (.int .i64 n)] [] (.tup []) [] := by
  refine FS.enterG Try.func20 rfl fun R0 hR0 => ?_
  simp only [Try.ntmps20, List.length_cons, List.length_nil, List.replicate_succ, List.replicate_zero, List.cons_append, List.nil_append, Nat.reduceAdd, Nat.reduceSub]
  repeat (first | (refine TW.tw ?_; (first | (refine TW.nil ?_; (first | (refine hK0 _ _ ?_; clear hK0 K0) | (refine hK1 _ _ _ (by kernel_rfl) ?_; clear hK1 K1)); try dsimp only [mk_octet4_20, thenR, blockR, loopR, mk_t, mk_f, mk_n])|(refine TW.ca rfl ?_; first | (refine TW.kc 54 rfl ?_; first | refine TW.C0 (hF := Obytes_fs _) (h := ?_)))|refine TW.gn (h := ?_))) | refine CS.seq fun K hK => ?_|(refine CS.regl mk_octet4_20 (fun K0 hK0 => ?_); try dsimp only [mp_s, mp_z])|(refine CS.drawl tab mk_octet4_20 (fun K1 hK1 => ?_); try dsimp only [mp_s, mp_z])|(refine hK _ _ ?_; clear hK K)|(clear hK K; refine hK _ _ ?_; clear hK K)|(clear hK K; clear hK K; refine hK _ _ ?_; clear hK K)|(clear hK K; clear hK K; clear hK K; refine hK _ _ ?_; clear hK K)|((first | refine CS_ret ?_ | refine CS_skip ?_ | refine CS_exit ?_ | rw [if_pos rfl] | rw [if_neg (by decide)]); try dsimp only [thenR, blockR, loopR])|refine CS.blk ?_|refine CS.yes rfl ?_|refine CS.no rfl ?_)
  exact hR0 _ _ _ (by exact GS.refl ⟨(by first | exact .inr rfl | exact .inl rfl), _, [], gresT_ok tab rfl, by decide, rfl, rfl, rfl, rfl⟩)

theorem OBytes0_fs : FS Try.prog 25 [.lit (.pointer none)] [] (.lit (.slice none 0 0)) [] := by
  refine FS.enterG Try.func25 rfl fun R0 hR0 => ?_
  simp only [Try.ntmps25, List.length_cons, List.length_nil, List.replicate_succ, List.replicate_zero, List.cons_append, List.nil_append, Nat.reduceAdd, Nat.reduceSub]
  repeat (first | (refine TW.tw ?_; (first | (refine TW.nil ?_; (first | (refine hK0 _ _ ?_; clear hK0 K0) | (refine hK1 _ _ _ (by kernel_rfl) ?_; clear hK1 K1)); try dsimp only [mk_octet4_25, thenR, blockR, loopR, mk_t, mk_f, mk_n])|refine TW.gn (h := ?_))) | refine CS.seq fun K hK => ?_|(refine CS.regl mk_octet4_25 (fun K0 hK0 => ?_); try dsimp only [mp_s, mp_z])|(refine CS.drawl tab mk_octet4_25 (fun K1 hK1 => ?_); try dsimp only [mp_s, mp_z])|(refine hK _ _ ?_; clear hK K)|(clear hK K; refine hK _ _ ?_; clear hK K)|(clear hK K; clear hK K; refine hK _ _ ?_; clear hK K)|(clear hK K; clear hK K; clear hK K; refine hK _ _ ?_; clear hK K)|((first | refine CS_ret ?_ | refine CS_skip ?_ | refine CS_exit ?_ | rw [if_pos rfl] | rw [if_neg (by decide)]); try dsimp only [thenR, blockR, loopR])|refine CS.blk ?_|refine CS.yes rfl ?_|refine CS.no rfl ?_)
  exact hR0 _ _ _ (by exact GS.refl ⟨(by first | exact .inr rfl | exact .inl rfl), _, [], gresT_ok tab rfl, by decide, rfl, rfl, rfl, rfl⟩)

theorem Otake0_fs (n : Int) : FS Try.prog 70 [.lit (.pointer none), .lit (.int .i64 n)] [] (.tup [.lit (.slice none 0 0), .lit (.bool false)]) [] := by
  refine FS.enterG Try.func70 rfl fun R0 hR0 => ?_
  simp only [Try.ntmps70, List.length_cons, List.length_nil, List.replicate_succ, List.replicate_zero, List.cons_append, List.nil_append, Nat.reduceAdd, Nat.reduceSub]
  repeat (first | (refine TW.tw ?_; (first | (refine TW.nil ?_; (first | (refine hK0 _ _ ?_; clear hK0 K0) | (refine hK1 _ _ _ (by kernel_rfl) ?_; clear hK1 K1)); try dsimp only [mk_octet4_70, thenR, blockR, loopR, mk_t, mk_f, mk_n])|refine TW.gn (h := ?_))) | refine CS.seq fun K hK => ?_|(refine CS.regl mk_octet4_70 (fun K0 hK0 => ?_); try dsimp only [mp_s, mp_z])|(refine CS.drawl tab mk_octet4_70 (fun K1 hK1 => ?_); try dsimp only [mp_s, mp_z])|(refine hK _ _ ?_; clear hK K)|(clear hK K; refine hK _ _ ?_; clear hK K)|(clear hK K; clear hK K; refine hK _ _ ?_; clear hK K)|(clear hK K; clear hK K; clear hK K; refine hK _ _ ?_; clear hK K)|((first | refine CS_ret ?_ | refine CS_skip ?_ | refine CS_exit ?_ | rw [if_pos rfl] | rw [if_neg (by decide)]); try dsimp only [thenR, blockR, loopR])|refine CS.blk ?_|refine CS.yes rfl ?_|refine CS.no rfl ?_)
  exact hR0 _ _ _ (by exact GS.refl ⟨(by first | exact .inr rfl | exact .inl rfl), _, [], gresT_ok tab rfl, by decide, rfl, rfl, rfl, rfl⟩)

theorem OGet0_fs (n : Int) : FS Try.prog 57 [.lit (.pointer none), .lit (.int .i64 n)] [] (.lit (.int .u64 0)) [] := by
  refine FS.enterG Try.func57 rfl fun R0 hR0 => ?_
  simp only [Try.ntmps57, List.length_cons, List.length_nil, List.replicate_succ, List.replicate_zero, List.cons_append, List.nil_append, Nat.reduceAdd, Nat.reduceSub]
  repeat (first | (refine TW.tw ?_; (first | (refine TW.nil ?_; (first | (refine hK0 _ _ ?_; clear hK0 K0) | (refine hK1 _ _ _ (by kernel_rfl) ?_; clear hK1 K1)); try dsimp only [mk_octet4_57, thenR, blockR, loopR, mk_t, mk_f, mk_n])|(refine TW.ca rfl ?_; first | (refine TW.kc 70 rfl ?_; first | refine TW.C0 (hF := Otake0_fs _) (h := ?_))|(refine TW.kc 54 rfl ?_; first | refine TW.C0 (hF := Obytes_fs _) (h := ?_)))|refine TW.gn (h := ?_))) | refine CS.seq fun K hK => ?_|(refine CS.regl mk_octet4_57 (fun K0 hK0 => ?_); try dsimp only [mp_s, mp_z])|(refine CS.drawl tab mk_octet4_57 (fun K1 hK1 => ?_); try dsimp only [mp_s, mp_z])|(refine hK _ _ ?_; clear hK K)|(clear hK K; refine hK _ _ ?_; clear hK K)|(clear hK K; clear hK K; refine hK _ _ ?_; clear hK K)|(clear hK K; clear hK K; clear hK K; refine hK _ _ ?_; clear hK K)|((first | refine CS_ret ?_ | refine CS_skip ?_ | refine CS_exit ?_ | rw [if_pos rfl] | rw [if_neg (by decide)]); try dsimp only [thenR, blockR, loopR])|refine CS.blk ?_|refine CS.yes rfl ?_|refine CS.no rfl ?_|refine CS.ofH ?_|refine CSH.step fun K hK => ?_)
  exact hR0 _ _ _ (by exact GS.refl ⟨(by first | exact .inr rfl | exact .inl rfl), _, [], gresT_ok tab rfl, by decide, rfl, rfl, rfl, rfl⟩)
end Go.Gh

