import Derived.Test.YtbkahcionjkgjaaShort

namespace Go.Gh
def mk_sameU32_77 : List Bool := [true, true, true, false, false, false, true, true, false, false, false, false, true, false, false, false, true, false, false, false, false, false, false, false, false, false, false, false, false, true]
open Go.Proofs
set_option linter.unusedVariables false
set_option linter.unusedSimpArgs false

/-! Numbers, held against each other; copies of lists of them. -/
def uuG (v : Int) : List GV := [.lit (.int .u32 v)]

theorem EqU32_fs (x y : Int) : FS Try.prog 78 [.lit (.int .u32 x), .lit (.int .u32 y)] [] (.lit (.bool (eqi x y))) [] := by
  refine FS.enterG Try.func78 rfl fun R0 hR0 => ?_
  simp only [Try.ntmps78, List.length_cons, List.length_nil, List.replicate_succ, List.replicate_zero, List.cons_append, List.nil_append, Nat.reduceAdd, Nat.reduceSub]
  unfold eqi at hR0
  repeat (first | (refine TW.tw ?_; (first | (refine TW.nil ?_; (first | (refine hK0 _ _ ?_; clear hK0 K0) | (refine hK1 _ _ _ (by kernel_rfl) ?_; clear hK1 K1)); try dsimp only [thenR, blockR, loopR, mk_t, mk_f, mk_n])|refine TW.gn (h := ?_))) | refine CS.seq fun K hK => ?_|(refine CS.regl [true, true, false, false, true, false, false, false] (fun K0 hK0 => ?_); try dsimp only [mp_s, mp_z])|(refine CS.drawl tab [true, true, false, false, true, false, false, false] (fun K1 hK1 => ?_); try dsimp only [mp_s, mp_z])|(refine hK _ _ ?_; clear hK K)|(clear hK K; refine hK _ _ ?_; clear hK K)|(clear hK K; clear hK K; refine hK _ _ ?_; clear hK K)|(clear hK K; clear hK K; clear hK K; refine hK _ _ ?_; clear hK K)|((first | refine CS_ret ?_ | refine CS_skip ?_ | refine CS_exit ?_ | rw [if_pos rfl] | rw [if_neg (by decide)]); try dsimp only [thenR, blockR, loopR])|refine CS.blk ?_|refine CS.yes rfl ?_|refine CS.no rfl ?_)
  exact hR0 _ _ _ (by exact GS.refl ⟨(by first | exact .inr rfl | exact .inl rfl), _, [], gresT_ok tab rfl, by decide, rfl, rfl, rfl, rfl⟩)

set_option maxHeartbeats 4000000 in
theorem SameU32_fs {b1 b2 : Bool} {l r : List Int} {e1 e2 : List (List GV)} (hl : l.length ≤ 1000000) : FS Try.prog 77 [.sl b1 1 (l.map uuG) e1, .sl b2 1 (r.map uuG) e2, .lit (.func (.func 78) #[] #[])] [] (.lit (.bool (samb eqi l r))) [] := by
  refine FS.enterG Try.func77 rfl fun R0 hR0 => ?_
  simp only [Try.ntmps77, List.length_cons, List.length_nil, List.replicate_succ, List.replicate_zero, List.cons_append, List.nil_append, Nat.reduceAdd, Nat.reduceSub]
  by_cases hn : l.length = r.length
  · have d0 : (((l.map uuG).length : Int) != ((r.map uuG).length : Int)) = false := by simp [hn]
    repeat (first | (refine TW.tw ?_; (first | (refine TW.nil ?_; (first | (refine hK0 _ _ ?_; clear hK0 K0) | (refine hK1 _ _ _ (by kernel_rfl) ?_; clear hK1 K1)); try dsimp only [mk_sameU32_77, thenR, blockR, loopR, mk_t, mk_f, mk_n]; try simp only [d0, Int.toNat_natCast])|(refine TW.ca rfl ?_; first | (refine TW.kc 78 rfl ?_; first | refine TW.C0 (hF := EqU32_fs _ _) (h := ?_)))|refine TW.gn (h := ?_)|(simp only [d0]; refine TW.nm (h := ?_)))) | refine CS.seq fun K hK => ?_|(refine CS.regl mk_sameU32_77 (fun K0 hK0 => ?_); try dsimp only [mp_s, mp_z])|(refine CS.drawl tab mk_sameU32_77 (fun K1 hK1 => ?_); try dsimp only [mp_s, mp_z])|(refine hK _ _ ?_; clear hK K)|(clear hK K; refine hK _ _ ?_; clear hK K)|(clear hK K; clear hK K; refine hK _ _ ?_; clear hK K)|(clear hK K; clear hK K; clear hK K; refine hK _ _ ?_; clear hK K)|((first | refine CS_ret ?_ | refine CS_skip ?_ | refine CS_exit ?_ | rw [if_pos rfl] | rw [if_neg (by decide)]); try dsimp only [thenR, blockR, loopR])|refine CS.blk ?_|refine CS.yes rfl ?_|refine CS.no rfl ?_|simp only [d0])
    refine CS.lp (fun i : Nat => i ≤ l.length ∧ samb eqi (l.drop i) (r.drop i) = samb eqi l r)
      (fun i => ([.sl b1 1 (l.map uuG) e1, .sl b2 1 (r.map uuG) e2, .lit (.func (.func 78) #[] #[]), .any, .any, .any, .any, .lit (.int .i64 i)] ++ List.replicate 22 .any))
      (fun _ => []) (fun i => l.length - i) 0 [] [true, true, true, false, false, false, false, true] (by decide) rfl ⟨Nat.zero_le _, rfl⟩ rfl rfl ?_
    rintro i ⟨hi1, hi2⟩
    simp only [List.replicate_succ, List.replicate_zero, List.cons_append, List.nil_append]
    by_cases c : i < l.length
    · have d : decide ((i : Int) < ((l.map uuG).length : Int)) = true := decide_eq_true (by simp; omega)
      have hg := map_at (f := uuG) c
      have cr : i < r.length := by omega
      have hg2 := map_at (f := uuG) cr
      have hI0 : (0 : Int) ≤ (i : Int) := by omega
      have hI1 : (i : Int) < ((l.map uuG).length : Int) := by simp; omega
      have hI2 : (i : Int) < ((r.map uuG).length : Int) := by simp; omega
      have ew := wrap_nat (n := i) (by omega)
      rw [drop_at c, drop_at cr, samb_cc] at hi2
      generalize l[i] = x at *
      generalize r[i] = y at *
      cases he : eqi x y
      · rw [he, Bool.false_and] at hi2
        rw [← hi2] at hR0
        repeat (first | (refine TW.tw ?_; (first | (refine TW.nil ?_; (first | (refine hK0 _ _ ?_; clear hK0 K0) | (refine hK1 _ _ _ (by kernel_rfl) ?_; clear hK1 K1)); try dsimp only [mk_sameU32_77, thenR, blockR, loopR, mk_t, mk_f, mk_n]; try simp only [d, uuG, ew, he, Bool.not_false, Int.toNat_natCast])|(refine TW.ca rfl ?_; first | (refine TW.kc 78 rfl ?_; first | refine TW.C0 (hF := EqU32_fs _ _) (h := ?_)))|refine TW.gn (h := ?_)|(simp only [d, uuG, ew, he, Bool.not_false]; refine TW.nm (h := ?_)))) | refine CS.seq fun K hK => ?_|(refine CS.regl mk_sameU32_77 (fun K0 hK0 => ?_); try dsimp only [mp_s, mp_z])|(refine CS.drawl tab mk_sameU32_77 (fun K1 hK1 => ?_); try dsimp only [mp_s, mp_z])|(refine hK _ _ ?_; clear hK K)|(clear hK K; refine hK _ _ ?_; clear hK K)|(clear hK K; clear hK K; refine hK _ _ ?_; clear hK K)|(clear hK K; clear hK K; clear hK K; refine hK _ _ ?_; clear hK K)|((first | refine CS_ret ?_ | refine CS_skip ?_ | refine CS_exit ?_ | rw [if_pos rfl] | rw [if_neg (by decide)]); try dsimp only [thenR, blockR, loopR])|refine CS.blk ?_|refine CS.yes rfl ?_|refine CS.no rfl ?_|simp only [d, uuG, ew, he, Bool.not_false])
        exact hR0 _ _ _ (by exact GS.refl ⟨(by first | exact .inr rfl | exact .inl rfl), _, [], gresT_ok tab rfl, by decide, rfl, rfl, rfl, rfl⟩)
      · rw [he, Bool.true_and] at hi2
        repeat (first | (refine TW.tw ?_; (first | (refine TW.nil ?_; (first | (refine hK0 _ _ ?_; clear hK0 K0) | (refine hK1 _ _ _ (by kernel_rfl) ?_; clear hK1 K1)); try dsimp only [mk_sameU32_77, thenR, blockR, loopR, mk_t, mk_f, mk_n]; try simp only [d, uuG, ew, he, Bool.not_true, Int.toNat_natCast])|(refine TW.ca rfl ?_; first | (refine TW.kc 78 rfl ?_; first | refine TW.C0 (hF := EqU32_fs _ _) (h := ?_)))|refine TW.gn (h := ?_)|(simp only [d, uuG, ew, he, Bool.not_true]; refine TW.nm (h := ?_)))) | refine CS.seq fun K hK => ?_|(refine CS.regl mk_sameU32_77 (fun K0 hK0 => ?_); try dsimp only [mp_s, mp_z])|(refine CS.drawl tab mk_sameU32_77 (fun K1 hK1 => ?_); try dsimp only [mp_s, mp_z])|(refine hK _ _ ?_; clear hK K)|(clear hK K; refine hK _ _ ?_; clear hK K)|(clear hK K; clear hK K; refine hK _ _ ?_; clear hK K)|(clear hK K; clear hK K; clear hK K; refine hK _ _ ?_; clear hK K)|((first | refine CS_ret ?_ | refine CS_skip ?_ | refine CS_exit ?_ | rw [if_pos rfl] | rw [if_neg (by decide)]); try dsimp only [thenR, blockR, loopR])|refine CS.blk ?_|refine CS.yes rfl ?_|refine CS.no rfl ?_|simp only [d, uuG, ew, he, Bool.not_true])
        exact ⟨i + 1, [], [true, true, true, false, false, false, false, true], ⟨c, hi2⟩, by show l.length - (i + 1) < l.length - i; omega, by decide, rfl, rfl, rfl⟩
    · have d : decide ((i : Int) < ((l.map uuG).length : Int)) = false := decide_eq_false (by simp; omega)
      rw [drop_end c, drop_end (l := r) (by omega), samb_nn] at hi2
      rw [← hi2] at hR0
      repeat (first | (refine TW.tw ?_; (first | (refine TW.nil ?_; (first | (refine hK0 _ _ ?_; clear hK0 K0) | (refine hK1 _ _ _ (by kernel_rfl) ?_; clear hK1 K1)); try dsimp only [mk_sameU32_77, thenR, blockR, loopR, mk_t, mk_f, mk_n]; try simp only [d, Int.toNat_natCast])|(refine TW.ca rfl ?_; first | (refine TW.kc 78 rfl ?_; first | refine TW.C0 (hF := EqU32_fs _ _) (h := ?_)))|refine TW.gn (h := ?_)|(simp only [d]; refine TW.nm (h := ?_)))) | refine CS.seq fun K hK => ?_|(refine CS.regl mk_sameU32_77 (fun K0 hK0 => ?_); try dsimp only [mp_s, mp_z])|(refine CS.drawl tab mk_sameU32_77 (fun K1 hK1 => ?_); try dsimp only [mp_s, mp_z])|(refine hK _ _ ?_; clear hK K)|(clear hK K; refine hK _ _ ?_; clear hK K)|(clear hK K; clear hK K; refine hK _ _ ?_; clear hK K)|(clear hK K; clear hK K; clear hK K; refine hK _ _ ?_; clear hK K)|((first | refine CS_ret ?_ | refine CS_skip ?_ | refine CS_exit ?_ | rw [if_pos rfl] | rw [if_neg (by decide)]); try dsimp only [thenR, blockR, loopR])|refine CS.blk ?_|refine CS.yes rfl ?_|refine CS.no rfl ?_|simp only [d])
      exact hR0 _ _ _ (by exact GS.refl ⟨(by first | exact .inr rfl | exact .inl rfl), _, [], gresT_ok tab rfl, by decide, rfl, rfl, rfl, rfl⟩)
  · have d0 : (((l.map uuG).length : Int) != ((r.map uuG).length : Int)) = true := by simp; omega
    rw [samb_ne _ hn] at hR0
    repeat (first | (refine TW.tw ?_; (first | (refine TW.nil ?_; (first | (refine hK0 _ _ ?_; clear hK0 K0) | (refine hK1 _ _ _ (by kernel_rfl) ?_; clear hK1 K1)); try dsimp only [mk_sameU32_77, thenR, blockR, loopR, mk_t, mk_f, mk_n]; try simp only [d0, Int.toNat_natCast])|(refine TW.ca rfl ?_; first | (refine TW.kc 78 rfl ?_; first | refine TW.C0 (hF := EqU32_fs _ _) (h := ?_)))|refine TW.gn (h := ?_)|(simp only [d0]; refine TW.nm (h := ?_)))) | refine CS.seq fun K hK => ?_|(refine CS.regl mk_sameU32_77 (fun K0 hK0 => ?_); try dsimp only [mp_s, mp_z])|(refine CS.drawl tab mk_sameU32_77 (fun K1 hK1 => ?_); try dsimp only [mp_s, mp_z])|(refine hK _ _ ?_; clear hK K)|(clear hK K; refine hK _ _ ?_; clear hK K)|(clear hK K; clear hK K; refine hK _ _ ?_; clear hK K)|(clear hK K; clear hK K; clear hK K; refine hK _ _ ?_; clear hK K)|((first | refine CS_ret ?_ | refine CS_skip ?_ | refine CS_exit ?_ | rw [if_pos rfl] | rw [if_neg (by decide)]); try dsimp only [thenR, blockR, loopR])|refine CS.blk ?_|refine CS.yes rfl ?_|refine CS.no rfl ?_|simp only [d0])
    exact hR0 _ _ _ (by exact GS.refl ⟨(by first | exact .inr rfl | exact .inl rfl), _, [], gresT_ok tab rfl, by decide, rfl, rfl, rfl, rfl⟩)

theorem PlainU32_fs {b1 b2 : Bool} {l r : List Int} {e1 e2 : List (List GV)} (hl : l.length ≤ 1000000) : FS Try.prog 75 [.sl b1 1 (l.map uuG) e1, .sl b2 1 (r.map uuG) e2] [] (.lit (.bool (samb eqi l r))) [] := by
  refine FS.enterG Try.func75 rfl fun R0 hR0 => ?_
  simp only [Try.ntmps75, List.length_cons, List.length_nil, List.replicate_succ, List.replicate_zero, List.cons_append, List.nil_append, Nat.reduceAdd, Nat.reduceSub]
  repeat (first | (refine TW.tw ?_; (first | (refine TW.nil ?_; (first | (refine hK0 _ _ ?_; clear hK0 K0) | (refine hK1 _ _ _ (by kernel_rfl) ?_; clear hK1 K1)); try dsimp only [thenR, blockR, loopR, mk_t, mk_f, mk_n])|(refine TW.ca rfl ?_; first | (refine TW.kc 77 rfl ?_; first | refine TW.C0 (hF := SameU32_fs hl) (h := ?_))|(refine TW.kc 78 rfl ?_; first | refine TW.C0 (hF := EqU32_fs _ _) (h := ?_)))|refine TW.gn (h := ?_))) | refine CS.seq fun K hK => ?_|(refine CS.regl [true, true, false, false, true, false, false, false] (fun K0 hK0 => ?_); try dsimp only [mp_s, mp_z])|(refine CS.drawl tab [true, true, false, false, true, false, false, false] (fun K1 hK1 => ?_); try dsimp only [mp_s, mp_z])|(refine hK _ _ ?_; clear hK K)|(clear hK K; refine hK _ _ ?_; clear hK K)|(clear hK K; clear hK K; refine hK _ _ ?_; clear hK K)|(clear hK K; clear hK K; clear hK K; refine hK _ _ ?_; clear hK K)|((first | refine CS_ret ?_ | refine CS_skip ?_ | refine CS_exit ?_ | rw [if_pos rfl] | rw [if_neg (by decide)]); try dsimp only [thenR, blockR, loopR])|refine CS.blk ?_|refine CS.yes rfl ?_|refine CS.no rfl ?_)
  exact hR0 _ _ _ (by exact GS.refl ⟨(by first | exact .inr rfl | exact .inl rfl), _, [], gresT_ok tab rfl, by decide, rfl, rfl, rfl, rfl⟩)


end Go.Gh

