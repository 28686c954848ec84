import Derived.Test.YtbkahcionjkgjaaBox

namespace Go.Gh
def mk_refBox_64 : List Bool := [true, true, true, false, false, false, false, false, false, false, false]
def mk_refBox_50 : List Bool := [true, true, false, false, true, true, false, false, false, false, false, false, false, false, false, false, false, true, false, false, false, true, false, false, false, false, false, false, false, true]
open Go.Proofs
set_option linter.unusedVariables false
set_option linter.unusedSimpArgs false

/-! Layer 5: the document's answer. -/



theorem RBkind_fs (k lo hi : Int) : FS Try.prog 64 [rgn k lo hi] [] (.lit (.bool (kindv k))) [] := by
  refine FS.enterG Try.func64 rfl fun R0 hR0 => ?_
  simp only [Try.ntmps64, List.length_cons, List.length_nil, List.replicate_succ, List.replicate_zero, List.cons_append, List.nil_append, Nat.reduceAdd, Nat.reduceSub]
  simp only [rgn]
  cases c : decide (1 ≤ k)
  · have d : decide (k ≥ 1) = false := c
    have e : kindv k = false := by unfold kindv; rw [c]; rfl
    rw [e] at hR0
    repeat (first | (refine TW.tw ?_; (first | (refine TW.nil ?_; (first | (refine hK0 _ _ ?_; clear hK0 K0) | (refine hK1 _ _ _ (by kernel_rfl) ?_; clear hK1 K1)); try dsimp only [mk_refBox_64, thenR, blockR, loopR, mk_t, mk_f, mk_n]; try simp only [d, Int.toNat_natCast])|(refine TW.ca rfl ?_; first | refine TW.C0 (hF := hF _ _ _) (h := ?_))|refine TW.gn (h := ?_)|(simp only [d]; refine TW.nm (h := ?_)))) | refine CS.seq fun K hK => ?_|(refine CS.regl mk_refBox_64 (fun K0 hK0 => ?_); try dsimp only [mp_s, mp_z])|(refine CS.drawl tab mk_refBox_64 (fun K1 hK1 => ?_); try dsimp only [mp_s, mp_z])|(refine hK _ _ ?_; clear hK K)|(clear hK K; refine hK _ _ ?_; clear hK K)|(clear hK K; clear hK K; refine hK _ _ ?_; clear hK K)|(clear hK K; clear hK K; clear hK K; refine hK _ _ ?_; clear hK K)|((first | refine CS_ret ?_ | refine CS_skip ?_ | refine CS_exit ?_ | rw [if_pos rfl] | rw [if_neg (by decide)]); try dsimp only [thenR, blockR, loopR])|refine CS.blk ?_|refine CS.yes rfl ?_|refine CS.no rfl ?_|simp only [d])
    exact hR0 _ _ _ (by exact GS.refl ⟨(by first | exact .inr rfl | exact .inl rfl), _, [], gresT_ok tab rfl, by decide, rfl, rfl, rfl, rfl⟩)
  · have d : decide (k ≥ 1) = true := c
    have e : kindv k = decide (k ≤ 3) := by unfold kindv; rw [c]; rfl
    rw [e] at hR0
    repeat (first | (refine TW.tw ?_; (first | (refine TW.nil ?_; (first | (refine hK0 _ _ ?_; clear hK0 K0) | (refine hK1 _ _ _ (by kernel_rfl) ?_; clear hK1 K1)); try dsimp only [mk_refBox_64, thenR, blockR, loopR, mk_t, mk_f, mk_n]; try simp only [d, Int.toNat_natCast])|(refine TW.ca rfl ?_; first | refine TW.C0 (hF := hF _ _ _) (h := ?_))|refine TW.gn (h := ?_)|(simp only [d]; refine TW.nm (h := ?_)))) | refine CS.seq fun K hK => ?_|(refine CS.regl mk_refBox_64 (fun K0 hK0 => ?_); try dsimp only [mp_s, mp_z])|(refine CS.drawl tab mk_refBox_64 (fun K1 hK1 => ?_); try dsimp only [mp_s, mp_z])|(refine hK _ _ ?_; clear hK K)|(clear hK K; refine hK _ _ ?_; clear hK K)|(clear hK K; clear hK K; refine hK _ _ ?_; clear hK K)|(clear hK K; clear hK K; clear hK K; refine hK _ _ ?_; clear hK K)|((first | refine CS_ret ?_ | refine CS_skip ?_ | refine CS_exit ?_ | rw [if_pos rfl] | rw [if_neg (by decide)]); try dsimp only [thenR, blockR, loopR])|refine CS.blk ?_|refine CS.yes rfl ?_|refine CS.no rfl ?_|simp only [d])
    exact hR0 _ _ _ (by exact GS.refl ⟨(by first | exact .inr rfl | exact .inl rfl), _, [], gresT_ok tab rfl, by decide, rfl, rfl, rfl, rfl⟩)


set_option maxHeartbeats 4000000 in
theorem RBRight_fs {bw : Bool} {l : List (Int × Int × Int)} {ex : List (List GV)} (n : Int) (hl : l.length ≤ 1000000000000) : FS Try.prog 50 [.lit (.int .i64 n), .sl bw 3 (l.map rgc) ex] [] (.lit (.bool (rightv n l))) [] := by
  refine FS.enterG Try.func50 rfl fun R0 hR0 => ?_
  simp only [Try.ntmps50, List.length_cons, List.length_nil, List.replicate_succ, List.replicate_zero, List.cons_append, List.nil_append, Nat.reduceAdd, Nat.reduceSub]
  unfold rightv at hR0
  by_cases c1 : n < 1
  · have d1 : decide (n < 1) = true := decide_eq_true c1
    rw [show decide (1 ≤ n) = false from decide_eq_false (by omega)] at hR0
    simp only [Bool.false_and] at hR0
    repeat (first | (refine TW.tw ?_; (first | (refine TW.nil ?_; (first | (refine hK0 _ _ ?_; clear hK0 K0) | (refine hK1 _ _ _ (by kernel_rfl) ?_; clear hK1 K1)); try dsimp only [mk_refBox_50, thenR, blockR, loopR, mk_t, mk_f, mk_n]; try simp only [d1, Int.toNat_natCast])|(refine TW.ca rfl ?_; first | refine TW.C0 (hF := hF _ _ _) (h := ?_)|(refine TW.kc 64 rfl ?_; first | refine TW.C0 (hF := RBkind_fs _ _ _) (h := ?_)))|refine TW.gn (h := ?_)|(simp only [d1]; refine TW.nm (h := ?_)))) | refine CS.seq fun K hK => ?_|(refine CS.regl mk_refBox_50 (fun K0 hK0 => ?_); try dsimp only [mp_s, mp_z])|(refine CS.drawl tab mk_refBox_50 (fun K1 hK1 => ?_); try dsimp only [mp_s, mp_z])|(refine hK _ _ ?_; clear hK K)|(clear hK K; refine hK _ _ ?_; clear hK K)|(clear hK K; clear hK K; refine hK _ _ ?_; clear hK K)|(clear hK K; clear hK K; clear hK K; refine hK _ _ ?_; clear hK K)|((first | refine CS_ret ?_ | refine CS_skip ?_ | refine CS_exit ?_ | rw [if_pos rfl] | rw [if_neg (by decide)]); try dsimp only [thenR, blockR, loopR])|refine CS.blk ?_|refine CS.yes rfl ?_|refine CS.no rfl ?_|simp only [d1])
    exact hR0 _ _ _ (by exact GS.refl ⟨(by first | exact .inr rfl | exact .inl rfl), _, [], gresT_ok tab rfl, by decide, rfl, rfl, rfl, rfl⟩)
  · have d1 : decide (n < 1) = false := decide_eq_false c1
    rw [show decide (1 ≤ n) = true from decide_eq_true (by omega)] at hR0
    by_cases c2 : n > 8
    · have d2 : decide (n > 8) = true := decide_eq_true c2
      rw [show decide (n ≤ 8) = false from decide_eq_false (by omega)] at hR0
      simp only [Bool.false_and, Bool.and_false] at hR0
      repeat (first | (refine TW.tw ?_; (first | (refine TW.nil ?_; (first | (refine hK0 _ _ ?_; clear hK0 K0) | (refine hK1 _ _ _ (by kernel_rfl) ?_; clear hK1 K1)); try dsimp only [mk_refBox_50, thenR, blockR, loopR, mk_t, mk_f, mk_n]; try simp only [d1, d2, Int.toNat_natCast])|(refine TW.ca rfl ?_; first | refine TW.C0 (hF := hF _ _ _) (h := ?_)|(refine TW.kc 64 rfl ?_; first | refine TW.C0 (hF := RBkind_fs _ _ _) (h := ?_)))|refine TW.gn (h := ?_)|(simp only [d1, d2]; refine TW.nm (h := ?_)))) | refine CS.seq fun K hK => ?_|(refine CS.regl mk_refBox_50 (fun K0 hK0 => ?_); try dsimp only [mp_s, mp_z])|(refine CS.drawl tab mk_refBox_50 (fun K1 hK1 => ?_); try dsimp only [mp_s, mp_z])|(refine hK _ _ ?_; clear hK K)|(clear hK K; refine hK _ _ ?_; clear hK K)|(clear hK K; clear hK K; refine hK _ _ ?_; clear hK K)|(clear hK K; clear hK K; clear hK K; refine hK _ _ ?_; clear hK K)|((first | refine CS_ret ?_ | refine CS_skip ?_ | refine CS_exit ?_ | rw [if_pos rfl] | rw [if_neg (by decide)]); try dsimp only [thenR, blockR, loopR])|refine CS.blk ?_|refine CS.yes rfl ?_|refine CS.no rfl ?_|simp only [d1, d2])
      exact hR0 _ _ _ (by exact GS.refl ⟨(by first | exact .inr rfl | exact .inl rfl), _, [], gresT_ok tab rfl, by decide, rfl, rfl, rfl, rfl⟩)
    · have d2 : decide (n > 8) = false := decide_eq_false c2
      rw [show decide (n ≤ 8) = true from decide_eq_true (by omega)] at hR0
      by_cases c3 : (l.length : Int) = n
      · have d3 : (((l.length : Nat) : Int) != n) = false := by simpa using c3
        rw [show ((l.length : Int) == n) = true by simpa using c3] at hR0
        simp only [Bool.true_and] at hR0
        repeat (first | (refine TW.tw ?_; (first | (refine TW.nil ?_; (first | (refine hK0 _ _ ?_; clear hK0 K0) | (refine hK1 _ _ _ (by kernel_rfl) ?_; clear hK1 K1)); try dsimp only [mk_refBox_50, thenR, blockR, loopR, mk_t, mk_f, mk_n]; try simp only [List.length_map, d1, d2, d3, Int.toNat_natCast])|(refine TW.ca rfl ?_; first | refine TW.C0 (hF := hF _ _ _) (h := ?_)|(refine TW.kc 64 rfl ?_; first | refine TW.C0 (hF := RBkind_fs _ _ _) (h := ?_)))|refine TW.gn (h := ?_)|(simp only [List.length_map, d1, d2, d3]; refine TW.nm (h := ?_)))) | refine CS.seq fun K hK => ?_|(refine CS.regl mk_refBox_50 (fun K0 hK0 => ?_); try dsimp only [mp_s, mp_z])|(refine CS.drawl tab mk_refBox_50 (fun K1 hK1 => ?_); try dsimp only [mp_s, mp_z])|(refine hK _ _ ?_; clear hK K)|(clear hK K; refine hK _ _ ?_; clear hK K)|(clear hK K; clear hK K; refine hK _ _ ?_; clear hK K)|(clear hK K; clear hK K; clear hK K; refine hK _ _ ?_; clear hK K)|((first | refine CS_ret ?_ | refine CS_skip ?_ | refine CS_exit ?_ | rw [if_pos rfl] | rw [if_neg (by decide)]); try dsimp only [thenR, blockR, loopR])|refine CS.blk ?_|refine CS.yes rfl ?_|refine CS.no rfl ?_|simp only [List.length_map, d1, d2, d3])
        refine CS.lp (fun i : Nat => i ≤ l.length ∧ (!((l.drop i).any fun r => !kindv r.1)) = (!(l.any fun r => !kindv r.1)))
          (fun i => ([.any, .sl bw 3 (l.map rgc) ex, .any, .any, .any, .lit (.int .i64 i)] ++ List.replicate 24 .any))
          (fun _ => []) (fun i => l.length - i) 0 [] [false, true, false, false, false, true] (by decide) rfl ⟨Nat.zero_le _, rfl⟩ rfl rfl ?_
        rintro i ⟨hi1, hi2⟩
        simp only [List.replicate_succ, List.replicate_zero, List.cons_append, List.nil_append]
        by_cases c : i < l.length
        · have d := int_lt c
          have hg := map_at (f := rgc) c
          have hI0 : (0 : Int) ≤ (i : Int) := by omega
          have hI1 : (i : Int) < ((l.map rgc).length : Int) := by simp; omega
          have ew := wrap_nat (n := i) (by omega)
          rw [drop_at c, List.any_cons] at hi2
          cases hk : kindv l[i].1
          · rw [hk] at hi2
            simp only [Bool.not_false, Bool.true_or, Bool.not_true] at hi2
            rw [← hi2] at hR0
            repeat (first | (refine TW.tw ?_; (first | (refine TW.nil ?_; (first | (refine hK0 _ _ ?_; clear hK0 K0) | (refine hK1 _ _ _ (by kernel_rfl) ?_; clear hK1 K1)); try dsimp only [mk_refBox_50, thenR, blockR, loopR, mk_t, mk_f, mk_n]; try simp only [List.length_map, d, rgc, hk, Bool.not_false, Int.toNat_natCast])|(refine TW.ca rfl ?_; first | refine TW.C0 (hF := hF _ _ _) (h := ?_)|(refine TW.kc 64 rfl ?_; first | refine TW.C0 (hF := RBkind_fs _ _ _) (h := ?_)))|refine TW.gn (h := ?_)|(simp only [List.length_map, d, rgc, hk, Bool.not_false]; refine TW.nm (h := ?_)))) | refine CS.seq fun K hK => ?_|(refine CS.regl mk_refBox_50 (fun K0 hK0 => ?_); try dsimp only [mp_s, mp_z])|(refine CS.drawl tab mk_refBox_50 (fun K1 hK1 => ?_); try dsimp only [mp_s, mp_z])|(refine hK _ _ ?_; clear hK K)|(clear hK K; refine hK _ _ ?_; clear hK K)|(clear hK K; clear hK K; refine hK _ _ ?_; clear hK K)|(clear hK K; clear hK K; clear hK K; refine hK _ _ ?_; clear hK K)|((first | refine CS_ret ?_ | refine CS_skip ?_ | refine CS_exit ?_ | rw [if_pos rfl] | rw [if_neg (by decide)]); try dsimp only [thenR, blockR, loopR])|refine CS.blk ?_|refine CS.yes rfl ?_|refine CS.no rfl ?_|simp only [List.length_map, d, rgc, hk, Bool.not_false])
            exact hR0 _ _ _ (by exact GS.refl ⟨(by first | exact .inr rfl | exact .inl rfl), _, [], gresT_ok tab rfl, by decide, rfl, rfl, rfl, rfl⟩)
          · rw [hk] at hi2
            simp only [Bool.not_true, Bool.false_or] at hi2
            repeat (first | (refine TW.tw ?_; (first | (refine TW.nil ?_; (first | (refine hK0 _ _ ?_; clear hK0 K0) | (refine hK1 _ _ _ (by kernel_rfl) ?_; clear hK1 K1)); try dsimp only [mk_refBox_50, thenR, blockR, loopR, mk_t, mk_f, mk_n]; try simp only [List.length_map, d, rgc, hk, Bool.not_true, ew, Int.toNat_natCast])|(refine TW.ca rfl ?_; first | refine TW.C0 (hF := hF _ _ _) (h := ?_)|(refine TW.kc 64 rfl ?_; first | refine TW.C0 (hF := RBkind_fs _ _ _) (h := ?_)))|refine TW.gn (h := ?_)|(simp only [List.length_map, d, rgc, hk, Bool.not_true, ew]; refine TW.nm (h := ?_)))) | refine CS.seq fun K hK => ?_|(refine CS.regl mk_refBox_50 (fun K0 hK0 => ?_); try dsimp only [mp_s, mp_z])|(refine CS.drawl tab mk_refBox_50 (fun K1 hK1 => ?_); try dsimp only [mp_s, mp_z])|(refine hK _ _ ?_; clear hK K)|(clear hK K; refine hK _ _ ?_; clear hK K)|(clear hK K; clear hK K; refine hK _ _ ?_; clear hK K)|(clear hK K; clear hK K; clear hK K; refine hK _ _ ?_; clear hK K)|((first | refine CS_ret ?_ | refine CS_skip ?_ | refine CS_exit ?_ | rw [if_pos rfl] | rw [if_neg (by decide)]); try dsimp only [thenR, blockR, loopR])|refine CS.blk ?_|refine CS.yes rfl ?_|refine CS.no rfl ?_|simp only [List.length_map, d, rgc, hk, Bool.not_true, ew])
            exact ⟨i + 1, [], [false, true, false, false, false, true], ⟨c, hi2⟩, by show l.length - (i + 1) < l.length - i; omega, by decide, rfl, rfl, rfl⟩
        · have d := int_nlt c
          rw [drop_end c, List.any_nil, Bool.not_false] at hi2
          rw [← hi2] at hR0
          repeat (first | (refine TW.tw ?_; (first | (refine TW.nil ?_; (first | (refine hK0 _ _ ?_; clear hK0 K0) | (refine hK1 _ _ _ (by kernel_rfl) ?_; clear hK1 K1)); try dsimp only [mk_refBox_50, thenR, blockR, loopR, mk_t, mk_f, mk_n]; try simp only [List.length_map, d, Int.toNat_natCast])|(refine TW.ca rfl ?_; first | refine TW.C0 (hF := hF _ _ _) (h := ?_)|(refine TW.kc 64 rfl ?_; first | refine TW.C0 (hF := RBkind_fs _ _ _) (h := ?_)))|refine TW.gn (h := ?_)|(simp only [List.length_map, d]; refine TW.nm (h := ?_)))) | refine CS.seq fun K hK => ?_|(refine CS.regl mk_refBox_50 (fun K0 hK0 => ?_); try dsimp only [mp_s, mp_z])|(refine CS.drawl tab mk_refBox_50 (fun K1 hK1 => ?_); try dsimp only [mp_s, mp_z])|(refine hK _ _ ?_; clear hK K)|(clear hK K; refine hK _ _ ?_; clear hK K)|(clear hK K; clear hK K; refine hK _ _ ?_; clear hK K)|(clear hK K; clear hK K; clear hK K; refine hK _ _ ?_; clear hK K)|((first | refine CS_ret ?_ | refine CS_skip ?_ | refine CS_exit ?_ | rw [if_pos rfl] | rw [if_neg (by decide)]); try dsimp only [thenR, blockR, loopR])|refine CS.blk ?_|refine CS.yes rfl ?_|refine CS.no rfl ?_|simp only [List.length_map, d])
          exact hR0 _ _ _ (by exact GS.refl ⟨(by first | exact .inr rfl | exact .inl rfl), _, [], gresT_ok tab rfl, by decide, rfl, rfl, rfl, rfl⟩)
      · have d3 : (((l.length : Nat) : Int) != n) = true := by simpa using c3
        rw [show ((l.length : Int) == n) = false by simpa using c3] at hR0
        simp only [Bool.false_and, Bool.and_false] at hR0
        repeat (first | (refine TW.tw ?_; (first | (refine TW.nil ?_; (first | (refine hK0 _ _ ?_; clear hK0 K0) | (refine hK1 _ _ _ (by kernel_rfl) ?_; clear hK1 K1)); try dsimp only [mk_refBox_50, thenR, blockR, loopR, mk_t, mk_f, mk_n]; try simp only [List.length_map, d1, d2, d3, Int.toNat_natCast])|(refine TW.ca rfl ?_; first | refine TW.C0 (hF := hF _ _ _) (h := ?_)|(refine TW.kc 64 rfl ?_; first | refine TW.C0 (hF := RBkind_fs _ _ _) (h := ?_)))|refine TW.gn (h := ?_)|(simp only [List.length_map, d1, d2, d3]; refine TW.nm (h := ?_)))) | refine CS.seq fun K hK => ?_|(refine CS.regl mk_refBox_50 (fun K0 hK0 => ?_); try dsimp only [mp_s, mp_z])|(refine CS.drawl tab mk_refBox_50 (fun K1 hK1 => ?_); try dsimp only [mp_s, mp_z])|(refine hK _ _ ?_; clear hK K)|(clear hK K; refine hK _ _ ?_; clear hK K)|(clear hK K; clear hK K; refine hK _ _ ?_; clear hK K)|(clear hK K; clear hK K; clear hK K; refine hK _ _ ?_; clear hK K)|((first | refine CS_ret ?_ | refine CS_skip ?_ | refine CS_exit ?_ | rw [if_pos rfl] | rw [if_neg (by decide)]); try dsimp only [thenR, blockR, loopR])|refine CS.blk ?_|refine CS.yes rfl ?_|refine CS.no rfl ?_|simp only [List.length_map, d1, d2, d3])
        exact hR0 _ _ _ (by exact GS.refl ⟨(by first | exact .inr rfl | exact .inl rfl), _, [], gresT_ok tab rfl, by decide, rfl, rfl, rfl, rfl⟩)
end Go.Gh

