import Derived.Test.YtbkahcionjkgjaaBox

namespace Go.Gh
def mk_sameRange_65 : List Bool := [true, true, true, false, false, false, true, true, false, false, false, false, true, false, false, false, true, false, false, false, false, false, false, false, false, false, false, false, false, true]
open Go.Proofs
set_option linter.unusedVariables false
set_option linter.unusedSimpArgs false

/-! Ranges, held against each other; copies of lists of them. -/
def rgq (x y : Int × Int × Int) : Bool := (x.1 == y.1) && ((x.2.1 == y.2.1) && ((x.2.2 == y.2.2) && true))
theorem rgq_refl (x : Int × Int × Int) : rgq x x = true := by simp [rgq]


set_option maxHeartbeats 4000000 in
theorem EqRange_fs (x y : Int × Int × Int) : FS Try.prog 66 [.agg (rgc x), .agg (rgc y)] [] (.lit (.bool (rgq x y))) [] := by
  refine FS.enterG Try.func66 rfl fun R0 hR0 => ?_
  simp only [Try.ntmps66, List.length_cons, List.length_nil, List.replicate_succ, List.replicate_zero, List.cons_append, List.nil_append, Nat.reduceAdd, Nat.reduceSub]
  dsimp only [rgq] at hR0
  simp only [rgc]
  repeat (first | (refine TW.tw ?_; (first | (refine TW.nil ?_; (first | (refine hK0 _ _ ?_; clear hK0 K0) | (refine hK1 _ _ _ (by kernel_rfl) ?_; clear hK1 K1)); try dsimp only [thenR, blockR, loopR, mk_t, mk_f, mk_n])|refine TW.gn (h := ?_))) | refine CS.seq fun K hK => ?_|(refine CS.regl [true, true, true, true, true, false, false, false] (fun K0 hK0 => ?_); try dsimp only [mp_s, mp_z])|(refine CS.drawl tab [true, true, true, true, true, false, false, false] (fun K1 hK1 => ?_); try dsimp only [mp_s, mp_z])|(refine hK _ _ ?_; clear hK K)|(clear hK K; refine hK _ _ ?_; clear hK K)|(clear hK K; clear hK K; refine hK _ _ ?_; clear hK K)|(clear hK K; clear hK K; clear hK K; refine hK _ _ ?_; clear hK K)|((first | refine CS_ret ?_ | refine CS_skip ?_ | refine CS_exit ?_ | rw [if_pos rfl] | rw [if_neg (by decide)]); try dsimp only [thenR, blockR, loopR])|refine CS.blk ?_|refine CS.yes rfl ?_|refine CS.no rfl ?_)
  exact hR0 _ _ _ (by exact GS.refl ⟨(by first | exact .inr rfl | exact .inl rfl), _, [], gresT_ok tab rfl, by decide, rfl, rfl, rfl, rfl⟩)

set_option maxHeartbeats 4000000 in
theorem SameRange_fs {b1 b2 : Bool} {l r : List (Int × Int × Int)} {e1 e2 : List (List GV)} (hl : l.length ≤ 1000000) : FS Try.prog 65 [.sl b1 3 (l.map rgc) e1, .sl b2 3 (r.map rgc) e2, .lit (.func (.func 66) #[] #[])] [] (.lit (.bool (samb rgq l r))) [] := by
  refine FS.enterG Try.func65 rfl fun R0 hR0 => ?_
  simp only [Try.ntmps65, List.length_cons, List.length_nil, List.replicate_succ, List.replicate_zero, List.cons_append, List.nil_append, Nat.reduceAdd, Nat.reduceSub]
  by_cases hn : l.length = r.length
  · have d0 : (((l.map rgc).length : Int) != ((r.map rgc).length : Int)) = false := by simp [hn]
    repeat (first | (refine TW.tw ?_; (first | (refine TW.nil ?_; (first | (refine hK0 _ _ ?_; clear hK0 K0) | (refine hK1 _ _ _ (by kernel_rfl) ?_; clear hK1 K1)); try dsimp only [mk_sameRange_65, thenR, blockR, loopR, mk_t, mk_f, mk_n]; try simp only [d0, Int.toNat_natCast])|(refine TW.ca rfl ?_; first | (refine TW.kc 66 rfl ?_; first | refine TW.C0 (hF := EqRange_fs _ _) (h := ?_)))|refine TW.gn (h := ?_)|(simp only [d0]; refine TW.nm (h := ?_)))) | refine CS.seq fun K hK => ?_|(refine CS.regl mk_sameRange_65 (fun K0 hK0 => ?_); try dsimp only [mp_s, mp_z])|(refine CS.drawl tab mk_sameRange_65 (fun K1 hK1 => ?_); try dsimp only [mp_s, mp_z])|(refine hK _ _ ?_; clear hK K)|(clear hK K; refine hK _ _ ?_; clear hK K)|(clear hK K; clear hK K; refine hK _ _ ?_; clear hK K)|(clear hK K; clear hK K; clear hK K; refine hK _ _ ?_; clear hK K)|((first | refine CS_ret ?_ | refine CS_skip ?_ | refine CS_exit ?_ | rw [if_pos rfl] | rw [if_neg (by decide)]); try dsimp only [thenR, blockR, loopR])|refine CS.blk ?_|refine CS.yes rfl ?_|refine CS.no rfl ?_|simp only [d0])
    refine CS.lp (fun i : Nat => i ≤ l.length ∧ samb rgq (l.drop i) (r.drop i) = samb rgq l r)
      (fun i => ([.sl b1 3 (l.map rgc) e1, .sl b2 3 (r.map rgc) e2, .lit (.func (.func 66) #[] #[]), .any, .any, .any, .any, .lit (.int .i64 i)] ++ List.replicate 22 .any))
      (fun _ => []) (fun i => l.length - i) 0 [] [true, true, true, false, false, false, false, true] (by decide) rfl ⟨Nat.zero_le _, rfl⟩ rfl rfl ?_
    rintro i ⟨hi1, hi2⟩
    simp only [List.replicate_succ, List.replicate_zero, List.cons_append, List.nil_append]
    by_cases c : i < l.length
    · have d : decide ((i : Int) < ((l.map rgc).length : Int)) = true := decide_eq_true (by simp; omega)
      have hg := map_at (f := rgc) c
      have cr : i < r.length := by omega
      have hg2 := map_at (f := rgc) cr
      have hI0 : (0 : Int) ≤ (i : Int) := by omega
      have hI1 : (i : Int) < ((l.map rgc).length : Int) := by simp; omega
      have hI2 : (i : Int) < ((r.map rgc).length : Int) := by simp; omega
      have ew := wrap_nat (n := i) (by omega)
      rw [drop_at c, drop_at cr, samb_cc] at hi2
      generalize l[i] = x at *
      generalize r[i] = y at *
      cases he : rgq x y
      · rw [he, Bool.false_and] at hi2
        rw [← hi2] at hR0
        repeat (first | (refine TW.tw ?_; (first | (refine TW.nil ?_; (first | (refine hK0 _ _ ?_; clear hK0 K0) | (refine hK1 _ _ _ (by kernel_rfl) ?_; clear hK1 K1)); try dsimp only [mk_sameRange_65, thenR, blockR, loopR, mk_t, mk_f, mk_n]; try simp only [d, rgc, ew, he, Bool.not_false, Int.toNat_natCast])|(refine TW.ca rfl ?_; first | (refine TW.kc 66 rfl ?_; first | refine TW.C0 (hF := EqRange_fs _ _) (h := ?_)))|refine TW.gn (h := ?_)|(simp only [d, rgc, ew, he, Bool.not_false]; refine TW.nm (h := ?_)))) | refine CS.seq fun K hK => ?_|(refine CS.regl mk_sameRange_65 (fun K0 hK0 => ?_); try dsimp only [mp_s, mp_z])|(refine CS.drawl tab mk_sameRange_65 (fun K1 hK1 => ?_); try dsimp only [mp_s, mp_z])|(refine hK _ _ ?_; clear hK K)|(clear hK K; refine hK _ _ ?_; clear hK K)|(clear hK K; clear hK K; refine hK _ _ ?_; clear hK K)|(clear hK K; clear hK K; clear hK K; refine hK _ _ ?_; clear hK K)|((first | refine CS_ret ?_ | refine CS_skip ?_ | refine CS_exit ?_ | rw [if_pos rfl] | rw [if_neg (by decide)]); try dsimp only [thenR, blockR, loopR])|refine CS.blk ?_|refine CS.yes rfl ?_|refine CS.no rfl ?_|simp only [d, rgc, ew, he, Bool.not_false])
        exact hR0 _ _ _ (by exact GS.refl ⟨(by first | exact .inr rfl | exact .inl rfl), _, [], gresT_ok tab rfl, by decide, rfl, rfl, rfl, rfl⟩)
      · rw [he, Bool.true_and] at hi2
        repeat (first | (refine TW.tw ?_; (first | (refine TW.nil ?_; (first | (refine hK0 _ _ ?_; clear hK0 K0) | (refine hK1 _ _ _ (by kernel_rfl) ?_; clear hK1 K1)); try dsimp only [mk_sameRange_65, thenR, blockR, loopR, mk_t, mk_f, mk_n]; try simp only [d, rgc, ew, he, Bool.not_true, Int.toNat_natCast])|(refine TW.ca rfl ?_; first | (refine TW.kc 66 rfl ?_; first | refine TW.C0 (hF := EqRange_fs _ _) (h := ?_)))|refine TW.gn (h := ?_)|(simp only [d, rgc, ew, he, Bool.not_true]; refine TW.nm (h := ?_)))) | refine CS.seq fun K hK => ?_|(refine CS.regl mk_sameRange_65 (fun K0 hK0 => ?_); try dsimp only [mp_s, mp_z])|(refine CS.drawl tab mk_sameRange_65 (fun K1 hK1 => ?_); try dsimp only [mp_s, mp_z])|(refine hK _ _ ?_; clear hK K)|(clear hK K; refine hK _ _ ?_; clear hK K)|(clear hK K; clear hK K; refine hK _ _ ?_; clear hK K)|(clear hK K; clear hK K; clear hK K; refine hK _ _ ?_; clear hK K)|((first | refine CS_ret ?_ | refine CS_skip ?_ | refine CS_exit ?_ | rw [if_pos rfl] | rw [if_neg (by decide)]); try dsimp only [thenR, blockR, loopR])|refine CS.blk ?_|refine CS.yes rfl ?_|refine CS.no rfl ?_|simp only [d, rgc, ew, he, Bool.not_true])
        exact ⟨i + 1, [], [true, true, true, false, false, false, false, true], ⟨c, hi2⟩, by show l.length - (i + 1) < l.length - i; omega, by decide, rfl, rfl, rfl⟩
    · have d : decide ((i : Int) < ((l.map rgc).length : Int)) = false := decide_eq_false (by simp; omega)
      rw [drop_end c, drop_end (l := r) (by omega), samb_nn] at hi2
      rw [← hi2] at hR0
      repeat (first | (refine TW.tw ?_; (first | (refine TW.nil ?_; (first | (refine hK0 _ _ ?_; clear hK0 K0) | (refine hK1 _ _ _ (by kernel_rfl) ?_; clear hK1 K1)); try dsimp only [mk_sameRange_65, thenR, blockR, loopR, mk_t, mk_f, mk_n]; try simp only [d, Int.toNat_natCast])|(refine TW.ca rfl ?_; first | (refine TW.kc 66 rfl ?_; first | refine TW.C0 (hF := EqRange_fs _ _) (h := ?_)))|refine TW.gn (h := ?_)|(simp only [d]; refine TW.nm (h := ?_)))) | refine CS.seq fun K hK => ?_|(refine CS.regl mk_sameRange_65 (fun K0 hK0 => ?_); try dsimp only [mp_s, mp_z])|(refine CS.drawl tab mk_sameRange_65 (fun K1 hK1 => ?_); try dsimp only [mp_s, mp_z])|(refine hK _ _ ?_; clear hK K)|(clear hK K; refine hK _ _ ?_; clear hK K)|(clear hK K; clear hK K; refine hK _ _ ?_; clear hK K)|(clear hK K; clear hK K; clear hK K; refine hK _ _ ?_; clear hK K)|((first | refine CS_ret ?_ | refine CS_skip ?_ | refine CS_exit ?_ | rw [if_pos rfl] | rw [if_neg (by decide)]); try dsimp only [thenR, blockR, loopR])|refine CS.blk ?_|refine CS.yes rfl ?_|refine CS.no rfl ?_|simp only [d])
      exact hR0 _ _ _ (by exact GS.refl ⟨(by first | exact .inr rfl | exact .inl rfl), _, [], gresT_ok tab rfl, by decide, rfl, rfl, rfl, rfl⟩)
  · have d0 : (((l.map rgc).length : Int) != ((r.map rgc).length : Int)) = true := by simp; omega
    rw [samb_ne _ hn] at hR0
    repeat (first | (refine TW.tw ?_; (first | (refine TW.nil ?_; (first | (refine hK0 _ _ ?_; clear hK0 K0) | (refine hK1 _ _ _ (by kernel_rfl) ?_; clear hK1 K1)); try dsimp only [mk_sameRange_65, thenR, blockR, loopR, mk_t, mk_f, mk_n]; try simp only [d0, Int.toNat_natCast])|(refine TW.ca rfl ?_; first | (refine TW.kc 66 rfl ?_; first | refine TW.C0 (hF := EqRange_fs _ _) (h := ?_)))|refine TW.gn (h := ?_)|(simp only [d0]; refine TW.nm (h := ?_)))) | refine CS.seq fun K hK => ?_|(refine CS.regl mk_sameRange_65 (fun K0 hK0 => ?_); try dsimp only [mp_s, mp_z])|(refine CS.drawl tab mk_sameRange_65 (fun K1 hK1 => ?_); try dsimp only [mp_s, mp_z])|(refine hK _ _ ?_; clear hK K)|(clear hK K; refine hK _ _ ?_; clear hK K)|(clear hK K; clear hK K; refine hK _ _ ?_; clear hK K)|(clear hK K; clear hK K; clear hK K; refine hK _ _ ?_; clear hK K)|((first | refine CS_ret ?_ | refine CS_skip ?_ | refine CS_exit ?_ | rw [if_pos rfl] | rw [if_neg (by decide)]); try dsimp only [thenR, blockR, loopR])|refine CS.blk ?_|refine CS.yes rfl ?_|refine CS.no rfl ?_|simp only [d0])
    exact hR0 _ _ _ (by exact GS.refl ⟨(by first | exact .inr rfl | exact .inl rfl), _, [], gresT_ok tab rfl, by decide, rfl, rfl, rfl, rfl⟩)

theorem PlainRange_fs {b1 b2 : Bool} {l r : List (Int × Int × Int)} {e1 e2 : List (List GV)} (hl : l.length ≤ 1000000) : FS Try.prog 51 [.sl b1 3 (l.map rgc) e1, .sl b2 3 (r.map rgc) e2] [] (.lit (.bool (samb rgq l r))) [] := by
  refine FS.enterG Try.func51 rfl fun R0 hR0 => ?_
  simp only [Try.ntmps51, List.length_cons, List.length_nil, List.replicate_succ, List.replicate_zero, List.cons_append, List.nil_append, Nat.reduceAdd, Nat.reduceSub]
  repeat (first | (refine TW.tw ?_; (first | (refine TW.nil ?_; (first | (refine hK0 _ _ ?_; clear hK0 K0) | (refine hK1 _ _ _ (by kernel_rfl) ?_; clear hK1 K1)); try dsimp only [thenR, blockR, loopR, mk_t, mk_f, mk_n])|(refine TW.ca rfl ?_; first | (refine TW.kc 65 rfl ?_; first | refine TW.C0 (hF := SameRange_fs hl) (h := ?_))|(refine TW.kc 66 rfl ?_; first | refine TW.C0 (hF := EqRange_fs _ _) (h := ?_)))|refine TW.gn (h := ?_))) | refine CS.seq fun K hK => ?_|(refine CS.regl [true, true, false, false, true, false, false, false] (fun K0 hK0 => ?_); try dsimp only [mp_s, mp_z])|(refine CS.drawl tab [true, true, false, false, true, false, false, false] (fun K1 hK1 => ?_); try dsimp only [mp_s, mp_z])|(refine hK _ _ ?_; clear hK K)|(clear hK K; refine hK _ _ ?_; clear hK K)|(clear hK K; clear hK K; refine hK _ _ ?_; clear hK K)|(clear hK K; clear hK K; clear hK K; refine hK _ _ ?_; clear hK K)|((first | refine CS_ret ?_ | refine CS_skip ?_ | refine CS_exit ?_ | rw [if_pos rfl] | rw [if_neg (by decide)]); try dsimp only [thenR, blockR, loopR])|refine CS.blk ?_|refine CS.yes rfl ?_|refine CS.no rfl ?_)
  exact hR0 _ _ _ (by exact GS.refl ⟨(by first | exact .inr rfl | exact .inl rfl), _, [], gresT_ok tab rfl, by decide, rfl, rfl, rfl, rfl⟩)


end Go.Gh

