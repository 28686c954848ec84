import Derived.Test.YtbkahcionjkgjaaMsgTakeRA
import Derived.Test.YtbkahcionjkgjaaMsgTakeRB
import Derived.Test.YtbkahcionjkgjaaMsgTakeRC
import Derived.Test.YtbkahcionjkgjaaMsgTakeRZ

namespace Go.Gh
open Go.Proofs
set_option linter.unusedVariables false
set_option linter.unusedSimpArgs false

/-! Layer 6: the message that bytes are, by the document: all kinds. -/

set_option maxRecDepth 8000 in
set_option maxHeartbeats 16000000 in
theorem R6TakeN_fs {b : List Int} {ex : List (List GV)} (n : Int) (h : wth n 1 8 = false) : FS Try.prog 14 [.lit (.int .i64 n), .sl false 1 (b.map bG) ex] [] (.tup [.agg (msG (takeM n b).1), .lit (.int .i64 (takeM n b).2)]) [] := by
  refine FS.enterG Try.func14 rfl fun R0 hR0 => ?_
  simp only [Try.ntmps14, List.length_cons, List.length_nil, List.replicate_succ, List.replicate_zero, List.cons_append, List.nil_append, Nat.reduceAdd, Nat.reduceSub]
  have hf := wth_f h
  rw [take_no h] at hR0
  by_cases q1 : n < 1
  · have d1 : decide (n < 1) = true := decide_eq_true q1
    repeat (first | (refine TW.tw ?_; (first | (refine TW.nil ?_; (first | (refine hK0 _ _ ?_; clear hK0 K0) | (refine hK1 _ _ _ (by kernel_rfl) ?_; clear hK1 K1)); try dsimp only [mk_msgTakeR0_14, thenR, blockR, loopR, mk_t, mk_f, mk_n]; try simp only [d1, Int.toNat_natCast])|refine TW.gn (h := ?_)|(simp only [d1]; refine TW.nm (h := ?_)))) | refine CS.seq fun K hK => ?_|(refine CS.regl mk_msgTakeR0_14 (fun K0 hK0 => ?_); try dsimp only [mp_s, mp_z])|(refine CS.drawl tab mk_msgTakeR0_14 (fun K1 hK1 => ?_); try dsimp only [mp_s, mp_z])|(refine hK _ _ ?_; clear hK K)|(clear hK K; refine hK _ _ ?_; clear hK K)|(clear hK K; clear hK K; refine hK _ _ ?_; clear hK K)|((first | refine CS_ret ?_ | refine CS_skip ?_ | refine CS_exit ?_ | rw [if_pos rfl] | rw [if_neg (by decide)]); try dsimp only [thenR, blockR, loopR])|refine CS.blk ?_|refine CS.yes rfl ?_|refine CS.no rfl ?_|simp only [d1])
    exact hR0 _ _ _ (GS.nilO 0 12 1 rfl rfl (GS.nilO 0 16 3 rfl rfl (GS.nilO 0 17 3 rfl rfl (TW.fk []))))
  have d1 : decide (n < 1) = false := decide_eq_false q1
  have d2 : decide (n > 8) = true := decide_eq_true (by omega)
  repeat (first | (refine TW.tw ?_; (first | (refine TW.nil ?_; (first | (refine hK0 _ _ ?_; clear hK0 K0) | (refine hK1 _ _ _ (by kernel_rfl) ?_; clear hK1 K1)); try dsimp only [mk_msgTakeR0_14, thenR, blockR, loopR, mk_t, mk_f, mk_n]; try simp only [d1, d2, Int.toNat_natCast])|refine TW.gn (h := ?_)|(simp only [d1, d2]; refine TW.nm (h := ?_)))) | refine CS.seq fun K hK => ?_|(refine CS.regl mk_msgTakeR0_14 (fun K0 hK0 => ?_); try dsimp only [mp_s, mp_z])|(refine CS.drawl tab mk_msgTakeR0_14 (fun K1 hK1 => ?_); try dsimp only [mp_s, mp_z])|(refine hK _ _ ?_; clear hK K)|(clear hK K; refine hK _ _ ?_; clear hK K)|(clear hK K; clear hK K; refine hK _ _ ?_; clear hK K)|((first | refine CS_ret ?_ | refine CS_skip ?_ | refine CS_exit ?_ | rw [if_pos rfl] | rw [if_neg (by decide)]); try dsimp only [thenR, blockR, loopR])|refine CS.blk ?_|refine CS.yes rfl ?_|refine CS.no rfl ?_|simp only [d1, d2])
  exact hR0 _ _ _ (GS.nilO 0 12 1 rfl rfl (GS.nilO 0 16 3 rfl rfl (GS.nilO 0 17 3 rfl rfl (TW.fk []))))
theorem R6Take_fs {b : List Int} {ex : List (List GV)} (n : Int) (hl : b.length ≤ 1000000000) (hb : byt b) : FS Try.prog 14 [.lit (.int .i64 n), .sl false 1 (b.map bG) ex] [] (.tup [.agg (msG (takeM n b).1), .lit (.int .i64 (takeM n b).2)]) [] := by
  cases h : wth n 1 8
  · exact R6TakeN_fs n h
  · have hn := wth_t h
    cases c4 : wth (gt (b, 0) 1) 1 4
    · cases c5 : (gt (b, 0) 1 == 5)
      · cases c6 : (gt (b, 0) 1 == 6)
        · exact R6TakeZ_fs n hn.1 hn.2 hl hb ⟨c4, c5, c6⟩
        · exact R6TakeC_fs n hn.1 hn.2 hl hb c6
      · exact R6TakeB_fs n hn.1 hn.2 hl hb c5
    · exact R6TakeA_fs n hn.1 hn.2 hl hb c4
end Go.Gh

