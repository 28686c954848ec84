import Derived.Test.YtbkahcionjkgjaaOctet

namespace Go.Gh
def mk_sameByte_68 : List Bool := [true, true, true, false, false, false, true, true, false, false, false, false, true, false, false, false, true, false, false, false, false, false, false, false, false, false, false, false, false, true]
def mk_sameByte_10 : List Bool := [true, true, false, false, true, true, true, true, false, false, false, false, false, false, false, false, false, false, false, false, false, false, false, false, false, true, false, false, false, false, false, false, false]
def mk_sameByte_19 : List Bool := [true, true, true, false, false, false, true, true, true, false, false, false, false, false, false, false, false, false, false, false, true, false, false, false, false, false, false, false, false, false, false, true, false, false, false, false, false, false, false, true]
open Go.Proofs
set_option linter.unusedVariables false
set_option linter.unusedSimpArgs false

/-! Bytes, held against each other; copies of lists of them. -/

theorem EqByte_fs (x y : Int) : FS Try.prog 69 [.lit (.int .u8 x), .lit (.int .u8 y)] [] (.lit (.bool (eqi x y))) [] := by
  refine FS.enterG Try.func69 rfl fun R0 hR0 => ?_
  simp only [Try.ntmps69, List.length_cons, List.length_nil, List.replicate_succ, List.replicate_zero, List.cons_append, List.nil_append, Nat.reduceAdd, Nat.reduceSub]
  unfold eqi at hR0
  repeat (first | (refine TW.tw ?_; (first | (refine TW.nil ?_; (first | (refine hK0 _ _ ?_; clear hK0 K0) | (refine hK1 _ _ _ (by kernel_rfl) ?_; clear hK1 K1)); try dsimp only [thenR, blockR, loopR, mk_t, mk_f, mk_n])|refine TW.gn (h := ?_))) | refine CS.seq fun K hK => ?_|(refine CS.regl [true, true, false, false, true, false, false, false] (fun K0 hK0 => ?_); try dsimp only [mp_s, mp_z])|(refine CS.drawl tab [true, true, false, false, true, false, false, false] (fun K1 hK1 => ?_); try dsimp only [mp_s, mp_z])|(refine hK _ _ ?_; clear hK K)|(clear hK K; refine hK _ _ ?_; clear hK K)|(clear hK K; clear hK K; refine hK _ _ ?_; clear hK K)|(clear hK K; clear hK K; clear hK K; refine hK _ _ ?_; clear hK K)|((first | refine CS_ret ?_ | refine CS_skip ?_ | refine CS_exit ?_ | rw [if_pos rfl] | rw [if_neg (by decide)]); try dsimp only [thenR, blockR, loopR])|refine CS.blk ?_|refine CS.yes rfl ?_|refine CS.no rfl ?_)
  exact hR0 _ _ _ (by exact GS.refl ⟨(by first | exact .inr rfl | exact .inl rfl), _, [], gresT_ok tab rfl, by decide, rfl, rfl, rfl, rfl⟩)

set_option maxHeartbeats 4000000 in
theorem SameByte_fs {b1 b2 : Bool} {l r : List Int} {e1 e2 : List (List GV)} (hl : l.length ≤ 1000000) : FS Try.prog 68 [.sl b1 1 (l.map bG) e1, .sl b2 1 (r.map bG) e2, .lit (.func (.func 69) #[] #[])] [] (.lit (.bool (samb eqi l r))) [] := by
  refine FS.enterG Try.func68 rfl fun R0 hR0 => ?_
  simp only [Try.ntmps68, List.length_cons, List.length_nil, List.replicate_succ, List.replicate_zero, List.cons_append, List.nil_append, Nat.reduceAdd, Nat.reduceSub]
  by_cases hn : l.length = r.length
  · have d0 : (((l.map bG).length : Int) != ((r.map bG).length : Int)) = false := by simp [hn]
    repeat (first | (refine TW.tw ?_; (first | (refine TW.nil ?_; (first | (refine hK0 _ _ ?_; clear hK0 K0) | (refine hK1 _ _ _ (by kernel_rfl) ?_; clear hK1 K1)); try dsimp only [mk_sameByte_68, thenR, blockR, loopR, mk_t, mk_f, mk_n]; try simp only [d0, Int.toNat_natCast])|(refine TW.ca rfl ?_; first | (refine TW.kc 69 rfl ?_; first | refine TW.C0 (hF := EqByte_fs _ _) (h := ?_)))|refine TW.gn (h := ?_)|(simp only [d0]; refine TW.nm (h := ?_)))) | refine CS.seq fun K hK => ?_|(refine CS.regl mk_sameByte_68 (fun K0 hK0 => ?_); try dsimp only [mp_s, mp_z])|(refine CS.drawl tab mk_sameByte_68 (fun K1 hK1 => ?_); try dsimp only [mp_s, mp_z])|(refine hK _ _ ?_; clear hK K)|(clear hK K; refine hK _ _ ?_; clear hK K)|(clear hK K; clear hK K; refine hK _ _ ?_; clear hK K)|(clear hK K; clear hK K; clear hK K; refine hK _ _ ?_; clear hK K)|((first | refine CS_ret ?_ | refine CS_skip ?_ | refine CS_exit ?_ | rw [if_pos rfl] | rw [if_neg (by decide)]); try dsimp only [thenR, blockR, loopR])|refine CS.blk ?_|refine CS.yes rfl ?_|refine CS.no rfl ?_|simp only [d0])
    refine CS.lp (fun i : Nat => i ≤ l.length ∧ samb eqi (l.drop i) (r.drop i) = samb eqi l r)
      (fun i => ([.sl b1 1 (l.map bG) e1, .sl b2 1 (r.map bG) e2, .lit (.func (.func 69) #[] #[]), .any, .any, .any, .any, .lit (.int .i64 i)] ++ List.replicate 22 .any))
      (fun _ => []) (fun i => l.length - i) 0 [] [true, true, true, false, false, false, false, true] (by decide) rfl ⟨Nat.zero_le _, rfl⟩ rfl rfl ?_
    rintro i ⟨hi1, hi2⟩
    simp only [List.replicate_succ, List.replicate_zero, List.cons_append, List.nil_append]
    by_cases c : i < l.length
    · have d : decide ((i : Int) < ((l.map bG).length : Int)) = true := decide_eq_true (by simp; omega)
      have hg := map_at (f := bG) c
      have cr : i < r.length := by omega
      have hg2 := map_at (f := bG) cr
      have hI0 : (0 : Int) ≤ (i : Int) := by omega
      have hI1 : (i : Int) < ((l.map bG).length : Int) := by simp; omega
      have hI2 : (i : Int) < ((r.map bG).length : Int) := by simp; omega
      have ew := wrap_nat (n := i) (by omega)
      rw [drop_at c, drop_at cr, samb_cc] at hi2
      generalize l[i] = x at *
      generalize r[i] = y at *
      cases he : eqi x y
      · rw [he, Bool.false_and] at hi2
        rw [← hi2] at hR0
        repeat (first | (refine TW.tw ?_; (first | (refine TW.nil ?_; (first | (refine hK0 _ _ ?_; clear hK0 K0) | (refine hK1 _ _ _ (by kernel_rfl) ?_; clear hK1 K1)); try dsimp only [mk_sameByte_68, thenR, blockR, loopR, mk_t, mk_f, mk_n]; try simp only [d, bG, ew, he, Bool.not_false, Int.toNat_natCast])|(refine TW.ca rfl ?_; first | (refine TW.kc 69 rfl ?_; first | refine TW.C0 (hF := EqByte_fs _ _) (h := ?_)))|refine TW.gn (h := ?_)|(simp only [d, bG, ew, he, Bool.not_false]; refine TW.nm (h := ?_)))) | refine CS.seq fun K hK => ?_|(refine CS.regl mk_sameByte_68 (fun K0 hK0 => ?_); try dsimp only [mp_s, mp_z])|(refine CS.drawl tab mk_sameByte_68 (fun K1 hK1 => ?_); try dsimp only [mp_s, mp_z])|(refine hK _ _ ?_; clear hK K)|(clear hK K; refine hK _ _ ?_; clear hK K)|(clear hK K; clear hK K; refine hK _ _ ?_; clear hK K)|(clear hK K; clear hK K; clear hK K; refine hK _ _ ?_; clear hK K)|((first | refine CS_ret ?_ | refine CS_skip ?_ | refine CS_exit ?_ | rw [if_pos rfl] | rw [if_neg (by decide)]); try dsimp only [thenR, blockR, loopR])|refine CS.blk ?_|refine CS.yes rfl ?_|refine CS.no rfl ?_|simp only [d, bG, ew, he, Bool.not_false])
        exact hR0 _ _ _ (by exact GS.refl ⟨(by first | exact .inr rfl | exact .inl rfl), _, [], gresT_ok tab rfl, by decide, rfl, rfl, rfl, rfl⟩)
      · rw [he, Bool.true_and] at hi2
        repeat (first | (refine TW.tw ?_; (first | (refine TW.nil ?_; (first | (refine hK0 _ _ ?_; clear hK0 K0) | (refine hK1 _ _ _ (by kernel_rfl) ?_; clear hK1 K1)); try dsimp only [mk_sameByte_68, thenR, blockR, loopR, mk_t, mk_f, mk_n]; try simp only [d, bG, ew, he, Bool.not_true, Int.toNat_natCast])|(refine TW.ca rfl ?_; first | (refine TW.kc 69 rfl ?_; first | refine TW.C0 (hF := EqByte_fs _ _) (h := ?_)))|refine TW.gn (h := ?_)|(simp only [d, bG, ew, he, Bool.not_true]; refine TW.nm (h := ?_)))) | refine CS.seq fun K hK => ?_|(refine CS.regl mk_sameByte_68 (fun K0 hK0 => ?_); try dsimp only [mp_s, mp_z])|(refine CS.drawl tab mk_sameByte_68 (fun K1 hK1 => ?_); try dsimp only [mp_s, mp_z])|(refine hK _ _ ?_; clear hK K)|(clear hK K; refine hK _ _ ?_; clear hK K)|(clear hK K; clear hK K; refine hK _ _ ?_; clear hK K)|(clear hK K; clear hK K; clear hK K; refine hK _ _ ?_; clear hK K)|((first | refine CS_ret ?_ | refine CS_skip ?_ | refine CS_exit ?_ | rw [if_pos rfl] | rw [if_neg (by decide)]); try dsimp only [thenR, blockR, loopR])|refine CS.blk ?_|refine CS.yes rfl ?_|refine CS.no rfl ?_|simp only [d, bG, ew, he, Bool.not_true])
        exact ⟨i + 1, [], [true, true, true, false, false, false, false, true], ⟨c, hi2⟩, by show l.length - (i + 1) < l.length - i; omega, by decide, rfl, rfl, rfl⟩
    · have d : decide ((i : Int) < ((l.map bG).length : Int)) = false := decide_eq_false (by simp; omega)
      rw [drop_end c, drop_end (l := r) (by omega), samb_nn] at hi2
      rw [← hi2] at hR0
      repeat (first | (refine TW.tw ?_; (first | (refine TW.nil ?_; (first | (refine hK0 _ _ ?_; clear hK0 K0) | (refine hK1 _ _ _ (by kernel_rfl) ?_; clear hK1 K1)); try dsimp only [mk_sameByte_68, thenR, blockR, loopR, mk_t, mk_f, mk_n]; try simp only [d, Int.toNat_natCast])|(refine TW.ca rfl ?_; first | (refine TW.kc 69 rfl ?_; first | refine TW.C0 (hF := EqByte_fs _ _) (h := ?_)))|refine TW.gn (h := ?_)|(simp only [d]; refine TW.nm (h := ?_)))) | refine CS.seq fun K hK => ?_|(refine CS.regl mk_sameByte_68 (fun K0 hK0 => ?_); try dsimp only [mp_s, mp_z])|(refine CS.drawl tab mk_sameByte_68 (fun K1 hK1 => ?_); try dsimp only [mp_s, mp_z])|(refine hK _ _ ?_; clear hK K)|(clear hK K; refine hK _ _ ?_; clear hK K)|(clear hK K; clear hK K; refine hK _ _ ?_; clear hK K)|(clear hK K; clear hK K; clear hK K; refine hK _ _ ?_; clear hK K)|((first | refine CS_ret ?_ | refine CS_skip ?_ | refine CS_exit ?_ | rw [if_pos rfl] | rw [if_neg (by decide)]); try dsimp only [thenR, blockR, loopR])|refine CS.blk ?_|refine CS.yes rfl ?_|refine CS.no rfl ?_|simp only [d])
      exact hR0 _ _ _ (by exact GS.refl ⟨(by first | exact .inr rfl | exact .inl rfl), _, [], gresT_ok tab rfl, by decide, rfl, rfl, rfl, rfl⟩)
  · have d0 : (((l.map bG).length : Int) != ((r.map bG).length : Int)) = true := by simp; omega
    rw [samb_ne _ hn] at hR0
    repeat (first | (refine TW.tw ?_; (first | (refine TW.nil ?_; (first | (refine hK0 _ _ ?_; clear hK0 K0) | (refine hK1 _ _ _ (by kernel_rfl) ?_; clear hK1 K1)); try dsimp only [mk_sameByte_68, thenR, blockR, loopR, mk_t, mk_f, mk_n]; try simp only [d0, Int.toNat_natCast])|(refine TW.ca rfl ?_; first | (refine TW.kc 69 rfl ?_; first | refine TW.C0 (hF := EqByte_fs _ _) (h := ?_)))|refine TW.gn (h := ?_)|(simp only [d0]; refine TW.nm (h := ?_)))) | refine CS.seq fun K hK => ?_|(refine CS.regl mk_sameByte_68 (fun K0 hK0 => ?_); try dsimp only [mp_s, mp_z])|(refine CS.drawl tab mk_sameByte_68 (fun K1 hK1 => ?_); try dsimp only [mp_s, mp_z])|(refine hK _ _ ?_; clear hK K)|(clear hK K; refine hK _ _ ?_; clear hK K)|(clear hK K; clear hK K; refine hK _ _ ?_; clear hK K)|(clear hK K; clear hK K; clear hK K; refine hK _ _ ?_; clear hK K)|((first | refine CS_ret ?_ | refine CS_skip ?_ | refine CS_exit ?_ | rw [if_pos rfl] | rw [if_neg (by decide)]); try dsimp only [thenR, blockR, loopR])|refine CS.blk ?_|refine CS.yes rfl ?_|refine CS.no rfl ?_|simp only [d0])
    exact hR0 _ _ _ (by exact GS.refl ⟨(by first | exact .inr rfl | exact .inl rfl), _, [], gresT_ok tab rfl, by decide, rfl, rfl, rfl, rfl⟩)

theorem PlainByte_fs {b1 b2 : Bool} {l r : List Int} {e1 e2 : List (List GV)} (hl : l.length ≤ 1000000) : FS Try.prog 53 [.sl b1 1 (l.map bG) e1, .sl b2 1 (r.map bG) e2] [] (.lit (.bool (samb eqi l r))) [] := by
  refine FS.enterG Try.func53 rfl fun R0 hR0 => ?_
  simp only [Try.ntmps53, List.length_cons, List.length_nil, List.replicate_succ, List.replicate_zero, List.cons_append, List.nil_append, Nat.reduceAdd, Nat.reduceSub]
  repeat (first | (refine TW.tw ?_; (first | (refine TW.nil ?_; (first | (refine hK0 _ _ ?_; clear hK0 K0) | (refine hK1 _ _ _ (by kernel_rfl) ?_; clear hK1 K1)); try dsimp only [thenR, blockR, loopR, mk_t, mk_f, mk_n])|(refine TW.ca rfl ?_; first | (refine TW.kc 68 rfl ?_; first | refine TW.C0 (hF := SameByte_fs hl) (h := ?_))|(refine TW.kc 69 rfl ?_; first | refine TW.C0 (hF := EqByte_fs _ _) (h := ?_)))|refine TW.gn (h := ?_))) | refine CS.seq fun K hK => ?_|(refine CS.regl [true, true, false, false, true, false, false, false] (fun K0 hK0 => ?_); try dsimp only [mp_s, mp_z])|(refine CS.drawl tab [true, true, false, false, true, false, false, false] (fun K1 hK1 => ?_); try dsimp only [mp_s, mp_z])|(refine hK _ _ ?_; clear hK K)|(clear hK K; refine hK _ _ ?_; clear hK K)|(clear hK K; clear hK K; refine hK _ _ ?_; clear hK K)|(clear hK K; clear hK K; clear hK K; refine hK _ _ ?_; clear hK K)|((first | refine CS_ret ?_ | refine CS_skip ?_ | refine CS_exit ?_ | rw [if_pos rfl] | rw [if_neg (by decide)]); try dsimp only [thenR, blockR, loopR])|refine CS.blk ?_|refine CS.yes rfl ?_|refine CS.no rfl ?_)
  exact hR0 _ _ _ (by exact GS.refl ⟨(by first | exact .inr rfl | exact .inl rfl), _, [], gresT_ok tab rfl, by decide, rfl, rfl, rfl, rfl⟩)


set_option maxHeartbeats 4000000 in
theorem OwnByte_fs {bw : Bool} {xs : List (List GV)} {ex : List (List GV)} (hl : xs.length ≤ 1000000) : FS Try.prog 10 [.sl bw 1 xs ex, .lit (.int .u8 71)] [] (.sl false 1 xs [[GV.lit (.int .u8 71)], [GV.lit (.int .u8 71)], [GV.lit (.int .u8 71)]]) [] := by
  refine FS.enterG Try.func10 rfl fun R0 hR0 => ?_
  simp only [Try.ntmps10, List.length_cons, List.length_nil, List.replicate_succ, List.replicate_zero, List.cons_append, List.nil_append, Nat.reduceAdd, Nat.reduceSub]
  have ew : IntKind.i64.wrap ((xs.length : Int) + 3) = ((xs.length + 3 : Nat) : Int) := by rw [wrap_i64 _ (by omega) (by omega)]; omega
  have e0 := ownx_spl3 xs [GV.lit (.int .u8 71)]
  have hb : 0 + xs.length ≤ ([GV.lit (.int .u8 0)] :: [GV.lit (.int .u8 0)] :: [GV.lit (.int .u8 0)] :: List.replicate xs.length [GV.lit (.int .u8 0)]).length ∧ 0 < ([GV.lit (.int .u8 0)] :: [GV.lit (.int .u8 0)] :: [GV.lit (.int .u8 0)] :: List.replicate xs.length [GV.lit (.int .u8 0)]).length := by simp; omega
  have hb2 : ((xs.length + 3 : Nat) : Int) ≤ (((ownx xs [GV.lit (.int .u8 71)] [GV.lit (.int .u8 0)] 0).length - 0 : Nat) : Int) := by rw [ownx_len _ _ _ (by decide)]; omega
  repeat (first | (refine TW.tw ?_; (first | (refine TW.nil ?_; (first | (refine hK0 _ _ ?_; clear hK0 K0) | (refine hK1 _ _ _ (by kernel_rfl) ?_; clear hK1 K1)); try dsimp only [mk_sameByte_10, thenR, blockR, loopR, mk_t, mk_f, mk_n]; try simp only [ew, e0, Nat.zero_add, Int.toNat_natCast])|refine TW.gn (h := ?_)|(simp only [ew, e0, Nat.zero_add]; refine TW.nm (h := ?_)))) | refine CS.seq fun K hK => ?_|(refine CS.regl mk_sameByte_10 (fun K0 hK0 => ?_); try dsimp only [mp_s, mp_z])|(refine CS.drawl tab mk_sameByte_10 (fun K1 hK1 => ?_); try dsimp only [mp_s, mp_z])|(refine hK _ _ ?_; clear hK K)|(clear hK K; refine hK _ _ ?_; clear hK K)|(clear hK K; clear hK K; refine hK _ _ ?_; clear hK K)|(clear hK K; clear hK K; clear hK K; refine hK _ _ ?_; clear hK K)|((first | refine CS_ret ?_ | refine CS_skip ?_ | refine CS_exit ?_ | rw [if_pos rfl] | rw [if_neg (by decide)]); try dsimp only [thenR, blockR, loopR])|refine CS.blk ?_|refine CS.yes rfl ?_|refine CS.no rfl ?_|simp only [ew, e0, Nat.zero_add])
  refine CS.lp (fun j : Nat => j ≤ 3)
    (fun j => ([.any, .lit (.int .u8 71), .any, .any, .any, .win 0 0 xs.length, .win 0 0 (xs.length + 3), .lit (.int .i64 ((xs.length + j : Nat) : Int))] ++ List.replicate 25 .any))
    (fun j => [.row 5 1 (ownx xs [GV.lit (.int .u8 71)] [GV.lit (.int .u8 0)] j)]) (fun j => 3 - j) 0 [0] [false, true, false, false, false, true, true, true] (by decide) rfl (Nat.zero_le _) rfl rfl ?_
  intro j hj
  simp only [List.replicate_succ, List.replicate_zero, List.cons_append, List.nil_append]
  by_cases c : j < 3
  · have d : decide (((xs.length + j : Nat) : Int) < ((xs.length + 3 : Nat) : Int)) = true := decide_eq_true (by omega)
    have hg := ownx_get xs [GV.lit (.int .u8 71)] [GV.lit (.int .u8 0)] c
    have hs := ownx_set xs [GV.lit (.int .u8 71)] [GV.lit (.int .u8 0)] c
    have ew := wrap_nat (n := xs.length + j) (by omega)
    repeat (first | (refine TW.tw ?_; (first | (refine TW.nil ?_; (first | (refine hK0 _ _ ?_; clear hK0 K0) | (refine hK1 _ _ _ (by kernel_rfl) ?_; clear hK1 K1)); try dsimp only [mk_sameByte_10, thenR, blockR, loopR, mk_t, mk_f, mk_n]; try simp only [d, ew, hs, Nat.sub_zero, Nat.zero_add, Int.toNat_natCast])|refine TW.gn (h := ?_)|(simp only [d, ew, hs, Nat.sub_zero, Nat.zero_add]; refine TW.nm (h := ?_)))) | refine CS.seq fun K hK => ?_|(refine CS.regl mk_sameByte_10 (fun K0 hK0 => ?_); try dsimp only [mp_s, mp_z])|(refine CS.drawl tab mk_sameByte_10 (fun K1 hK1 => ?_); try dsimp only [mp_s, mp_z])|(refine hK _ _ ?_; clear hK K)|(clear hK K; refine hK _ _ ?_; clear hK K)|(clear hK K; clear hK K; refine hK _ _ ?_; clear hK K)|(clear hK K; clear hK K; clear hK K; refine hK _ _ ?_; clear hK K)|((first | refine CS_ret ?_ | refine CS_skip ?_ | refine CS_exit ?_ | rw [if_pos rfl] | rw [if_neg (by decide)]); try dsimp only [thenR, blockR, loopR])|refine CS.blk ?_|refine CS.yes rfl ?_|refine CS.no rfl ?_|simp only [d, ew, hs, Nat.sub_zero, Nat.zero_add])
    exact ⟨j + 1, [0], [false, true, false, false, false, true, true, true], c, by show 3 - (j + 1) < 3 - j; omega, by decide, rfl, rfl, rfl⟩
  · have e3 : j = 3 := by omega
    subst e3
    have d : decide (((xs.length + 3 : Nat) : Int) < ((xs.length + 3 : Nat) : Int)) = false := decide_eq_false (by omega)
    repeat (first | (refine TW.tw ?_; (first | (refine TW.nil ?_; (first | (refine hK0 _ _ ?_; clear hK0 K0) | (refine hK1 _ _ _ (by kernel_rfl) ?_; clear hK1 K1)); try dsimp only [mk_sameByte_10, thenR, blockR, loopR, mk_t, mk_f, mk_n]; try simp only [d, Nat.sub_zero, Int.toNat_natCast])|refine TW.gn (h := ?_)|(simp only [d, Nat.sub_zero]; refine TW.nm (h := ?_)))) | refine CS.seq fun K hK => ?_|(refine CS.regl mk_sameByte_10 (fun K0 hK0 => ?_); try dsimp only [mp_s, mp_z])|(refine CS.drawl tab mk_sameByte_10 (fun K1 hK1 => ?_); try dsimp only [mp_s, mp_z])|(refine hK _ _ ?_; clear hK K)|(clear hK K; refine hK _ _ ?_; clear hK K)|(clear hK K; clear hK K; refine hK _ _ ?_; clear hK K)|(clear hK K; clear hK K; clear hK K; refine hK _ _ ?_; clear hK K)|((first | refine CS_ret ?_ | refine CS_skip ?_ | refine CS_exit ?_ | rw [if_pos rfl] | rw [if_neg (by decide)]); try dsimp only [thenR, blockR, loopR])|refine CS.blk ?_|refine CS.yes rfl ?_|refine CS.no rfl ?_|simp only [d, Nat.sub_zero])
    refine hR0 _ _ _ (GS.frzW 4 rfl rfl (by rw [ownx_len _ _ _ (Nat.le_refl 3)]; omega) ?_)
    rw [ownx_take, ownx_drop]
    exact (by exact GS.refl ⟨(by first | exact .inr rfl | exact .inl rfl), _, [], gresT_ok tab rfl, by decide, rfl, rfl, rfl, rfl⟩)


set_option maxHeartbeats 4000000 in
theorem KeptByte_fs {b1 b2 : Bool} {l r : List Int} {e2 : List (List GV)} (hl : l.length ≤ 1000000) : FS Try.prog 19 [.sl b1 1 (l.map bG) [[GV.lit (.int .u8 71)], [GV.lit (.int .u8 71)], [GV.lit (.int .u8 71)]], .sl b2 1 (r.map bG) e2, .lit (.int .u8 71)] [] (.lit (.bool (samb eqi l r))) [] := by
  refine FS.enterG Try.func19 rfl fun R0 hR0 => ?_
  simp only [Try.ntmps19, List.length_cons, List.length_nil, List.replicate_succ, List.replicate_zero, List.cons_append, List.nil_append, Nat.reduceAdd, Nat.reduceSub]
  cases hs : samb eqi l r
  · rw [hs] at hR0
    repeat (first | (refine TW.tw ?_; (first | (refine TW.nil ?_; (first | (refine hK0 _ _ ?_; clear hK0 K0) | (refine hK1 _ _ _ (by kernel_rfl) ?_; clear hK1 K1)); try dsimp only [mk_sameByte_19, thenR, blockR, loopR, mk_t, mk_f, mk_n]; try simp only [hs, Bool.not_false, Int.toNat_natCast])|(refine TW.ca rfl ?_; first | (refine TW.kc 53 rfl ?_; first | refine TW.C0 (hF := PlainByte_fs (by assumption)) (h := ?_)))|refine TW.gn (h := ?_)|(simp only [hs, Bool.not_false]; refine TW.nm (h := ?_)))) | refine CS.seq fun K hK => ?_|(refine CS.regl mk_sameByte_19 (fun K0 hK0 => ?_); try dsimp only [mp_s, mp_z])|(refine CS.drawl tab mk_sameByte_19 (fun K1 hK1 => ?_); try dsimp only [mp_s, mp_z])|(refine hK _ _ ?_; clear hK K)|(clear hK K; refine hK _ _ ?_; clear hK K)|(clear hK K; clear hK K; refine hK _ _ ?_; clear hK K)|(clear hK K; clear hK K; clear hK K; refine hK _ _ ?_; clear hK K)|((first | refine CS_ret ?_ | refine CS_skip ?_ | refine CS_exit ?_ | rw [if_pos rfl] | rw [if_neg (by decide)]); try dsimp only [thenR, blockR, loopR])|refine CS.blk ?_|refine CS.yes rfl ?_|refine CS.no rfl ?_|simp only [hs, Bool.not_false])
    exact hR0 _ _ _ (by exact GS.refl ⟨(by first | exact .inr rfl | exact .inl rfl), _, [], gresT_ok tab rfl, by decide, rfl, rfl, rfl, rfl⟩)
  · rw [hs] at hR0
    have hn : l.length = r.length := by
      by_cases hn : l.length = r.length
      · exact hn
      · rw [samb_ne _ hn] at hs; cases hs
    obtain ⟨xs, hxs⟩ : ∃ xs, xs = l.map bG := ⟨_, rfl⟩
    have hxl : xs.length = l.length := by rw [hxs, List.length_map]
    have hrl : (r.map bG).length = xs.length := by rw [hxl, List.length_map, hn]
    have ew : IntKind.i64.wrap ((xs.length : Int) + 3) = ((xs.length + 3 : Nat) : Int) := by rw [wrap_i64 _ (by omega) (by omega)]; omega
    have ht : (xs ++ [[GV.lit (.int .u8 71)], [GV.lit (.int .u8 71)], [GV.lit (.int .u8 71)]]).take (xs.length + 3) = xs ++ [[GV.lit (.int .u8 71)], [GV.lit (.int .u8 71)], [GV.lit (.int .u8 71)]] := List.take_of_length_le (by simp)
    have hdr : (xs ++ [[GV.lit (.int .u8 71)], [GV.lit (.int .u8 71)], [GV.lit (.int .u8 71)]]).drop (xs.length + 3) = [] := List.drop_eq_nil_of_le (by simp)
    have hxl2 : (xs ++ [[GV.lit (.int .u8 71)], [GV.lit (.int .u8 71)], [GV.lit (.int .u8 71)]]).length = xs.length + 3 := by simp
    have hP := PlainByte_fs (b1 := b1) (b2 := b2) (l := l) (r := r) (e1 := [[GV.lit (.int .u8 71)], [GV.lit (.int .u8 71)], [GV.lit (.int .u8 71)]]) (e2 := e2) hl
    rw [← hxs, hs] at hP
    rw [← hxs]
    repeat (first | (refine TW.tw ?_; (first | (refine TW.nil ?_; (first | (refine hK0 _ _ ?_; clear hK0 K0) | (refine hK1 _ _ _ (by kernel_rfl) ?_; clear hK1 K1)); try dsimp only [mk_sameByte_19, thenR, blockR, loopR, mk_t, mk_f, mk_n]; try simp only [Bool.not_true, hrl, ew, ht, hdr, List.drop_zero, Int.toNat_natCast])|(refine TW.ca rfl ?_; first | refine TW.C0 (hF := hP ) (h := ?_)|(refine TW.kc 53 rfl ?_; first | refine TW.C0 (hF := PlainByte_fs (by assumption)) (h := ?_)))|refine TW.gn (h := ?_)|(simp only [Bool.not_true, hrl, ew, ht, hdr, List.drop_zero]; refine TW.nm (h := ?_)))) | refine CS.seq fun K hK => ?_|(refine CS.regl mk_sameByte_19 (fun K0 hK0 => ?_); try dsimp only [mp_s, mp_z])|(refine CS.drawl tab mk_sameByte_19 (fun K1 hK1 => ?_); try dsimp only [mp_s, mp_z])|(refine hK _ _ ?_; clear hK K)|(clear hK K; refine hK _ _ ?_; clear hK K)|(clear hK K; clear hK K; refine hK _ _ ?_; clear hK K)|(clear hK K; clear hK K; clear hK K; refine hK _ _ ?_; clear hK K)|((first | refine CS_ret ?_ | refine CS_skip ?_ | refine CS_exit ?_ | rw [if_pos rfl] | rw [if_neg (by decide)]); try dsimp only [thenR, blockR, loopR])|refine CS.blk ?_|refine CS.yes rfl ?_|refine CS.no rfl ?_|simp only [Bool.not_true, hrl, ew, ht, hdr, List.drop_zero])
    refine CS.lp (fun j : Nat => j ≤ 3)
      (fun j => ([.any, .any, .lit (.int .u8 71), .any, .any, .any, .any, .sl b1 1 (xs ++ [[GV.lit (.int .u8 71)], [GV.lit (.int .u8 71)], [GV.lit (.int .u8 71)]]) [], .lit (.int .i64 ((xs.length + j : Nat) : Int))] ++ List.replicate 31 .any))
      (fun j => []) (fun j => 3 - j) 0 [] [false, false, true, false, false, false, false, true, true] (by decide) rfl (Nat.zero_le _) rfl rfl ?_
    intro j hj
    simp only [List.replicate_succ, List.replicate_zero, List.cons_append, List.nil_append]
    by_cases c : j < 3
    · have d : decide (((xs.length + j : Nat) : Int) < ((xs.length + 3 : Nat) : Int)) = true := decide_eq_true (by omega)
      have hg : (xs ++ [[GV.lit (.int .u8 71)], [GV.lit (.int .u8 71)], [GV.lit (.int .u8 71)]])[((xs.length + j : Nat) : Int).toNat]? = some [GV.lit (.int .u8 71)] := by
        rw [Int.toNat_natCast, List.getElem?_append_right (by omega), show xs.length + j - xs.length = j by omega]
        match j, c with
        | 0, _ => rfl
        | 1, _ => rfl
        | 2, _ => rfl
      have hI0 : (0 : Int) ≤ ((xs.length + j : Nat) : Int) := by omega
      have hI1 : ((xs.length + j : Nat) : Int) < ((xs ++ [[GV.lit (.int .u8 71)], [GV.lit (.int .u8 71)], [GV.lit (.int .u8 71)]]).length : Int) := by rw [hxl2]; omega
      have ew := wrap_nat (n := xs.length + j) (by omega)
      repeat (first | (refine TW.tw ?_; (first | (refine TW.nil ?_; (first | (refine hK0 _ _ ?_; clear hK0 K0) | (refine hK1 _ _ _ (by kernel_rfl) ?_; clear hK1 K1)); try dsimp only [mk_sameByte_19, thenR, blockR, loopR, mk_t, mk_f, mk_n]; try simp only [hxl2, d, ew, beq_self_eq_true, Bool.and_self, Bool.not_true, Int.toNat_natCast])|(refine TW.ca rfl ?_; first | refine TW.C0 (hF := hP ) (h := ?_)|(refine TW.kc 53 rfl ?_; first | refine TW.C0 (hF := PlainByte_fs (by assumption)) (h := ?_)))|refine TW.gn (h := ?_)|(simp only [hxl2, d, ew, beq_self_eq_true, Bool.and_self, Bool.not_true]; refine TW.nm (h := ?_)))) | refine CS.seq fun K hK => ?_|(refine CS.regl mk_sameByte_19 (fun K0 hK0 => ?_); try dsimp only [mp_s, mp_z])|(refine CS.drawl tab mk_sameByte_19 (fun K1 hK1 => ?_); try dsimp only [mp_s, mp_z])|(refine hK _ _ ?_; clear hK K)|(clear hK K; refine hK _ _ ?_; clear hK K)|(clear hK K; clear hK K; refine hK _ _ ?_; clear hK K)|(clear hK K; clear hK K; clear hK K; refine hK _ _ ?_; clear hK K)|((first | refine CS_ret ?_ | refine CS_skip ?_ | refine CS_exit ?_ | rw [if_pos rfl] | rw [if_neg (by decide)]); try dsimp only [thenR, blockR, loopR])|refine CS.blk ?_|refine CS.yes rfl ?_|refine CS.no rfl ?_|simp only [hxl2, d, ew, beq_self_eq_true, Bool.and_self, Bool.not_true])
      exact ⟨j + 1, [], [false, false, true, false, false, false, false, true, true], c, by show 3 - (j + 1) < 3 - j; omega, by decide, rfl, rfl, rfl⟩
    · have e3 : j = 3 := by omega
      subst e3
      have d : decide (((xs.length + 3 : Nat) : Int) < ((xs.length + 3 : Nat) : Int)) = false := decide_eq_false (by omega)
      repeat (first | (refine TW.tw ?_; (first | (refine TW.nil ?_; (first | (refine hK0 _ _ ?_; clear hK0 K0) | (refine hK1 _ _ _ (by kernel_rfl) ?_; clear hK1 K1)); try dsimp only [mk_sameByte_19, thenR, blockR, loopR, mk_t, mk_f, mk_n]; try simp only [hxl2, d, Int.toNat_natCast])|(refine TW.ca rfl ?_; first | refine TW.C0 (hF := hP ) (h := ?_)|(refine TW.kc 53 rfl ?_; first | refine TW.C0 (hF := PlainByte_fs (by assumption)) (h := ?_)))|refine TW.gn (h := ?_)|(simp only [hxl2, d]; refine TW.nm (h := ?_)))) | refine CS.seq fun K hK => ?_|(refine CS.regl mk_sameByte_19 (fun K0 hK0 => ?_); try dsimp only [mp_s, mp_z])|(refine CS.drawl tab mk_sameByte_19 (fun K1 hK1 => ?_); try dsimp only [mp_s, mp_z])|(refine hK _ _ ?_; clear hK K)|(clear hK K; refine hK _ _ ?_; clear hK K)|(clear hK K; clear hK K; refine hK _ _ ?_; clear hK K)|(clear hK K; clear hK K; clear hK K; refine hK _ _ ?_; clear hK K)|((first | refine CS_ret ?_ | refine CS_skip ?_ | refine CS_exit ?_ | rw [if_pos rfl] | rw [if_neg (by decide)]); try dsimp only [thenR, blockR, loopR])|refine CS.blk ?_|refine CS.yes rfl ?_|refine CS.no rfl ?_|simp only [hxl2, d])
      exact hR0 _ _ _ (by exact GS.refl ⟨(by first | exact .inr rfl | exact .inl rfl), _, [], gresT_ok tab rfl, by decide, rfl, rfl, rfl, rfl⟩)

end Go.Gh

