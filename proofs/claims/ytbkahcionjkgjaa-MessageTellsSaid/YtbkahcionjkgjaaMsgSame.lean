import Derived.Test.YtbkahcionjkgjaaMsgRight3a

namespace Go.Gh
def mk_msgSame_67 : List Bool := [true, true, true, false, false, false, true, true, false, false, false, false, true, false, false, false, true, false, false, false, false, false, false, false, false, false, false, false, false, true]
def mk_msgSame_18 : List Bool := [true, true, true, true, true, true, true, true, true, true, true, true, true, true, true, true, true, true, true, true, true, true, true, true, true, true, true, true, true, true, true, true, true, true, true, true, true, true, true, true, true, true, true, true, true, true, true, true, true, true, true, true, true, true, true, true, true, true, true, true, true, true, true, true, true, true, true, true, true, true, true, true, true, true, true, true, true, true, true, true, true, true, true, true, true, true, true, true, true, true, true, true, true, true]
open Go.Proofs
set_option linter.unusedVariables false
set_option linter.unusedSimpArgs false

/-! Layer 6: messages, held against each other. -/
theorem first_not {c0 c1 c2 c3 c4 c5 c6 c7 c8 c9 c10 c11 c12 : Bool} : (c0 = false) ∨ (c0 = true ∧ c1 = false) ∨ (c0 = true ∧ c1 = true ∧ c2 = false) ∨ (c0 = true ∧ c1 = true ∧ c2 = true ∧ c3 = false) ∨ (c0 = true ∧ c1 = true ∧ c2 = true ∧ c3 = true ∧ c4 = false) ∨ (c0 = true ∧ c1 = true ∧ c2 = true ∧ c3 = true ∧ c4 = true ∧ c5 = false) ∨ (c0 = true ∧ c1 = true ∧ c2 = true ∧ c3 = true ∧ c4 = true ∧ c5 = true ∧ c6 = false) ∨ (c0 = true ∧ c1 = true ∧ c2 = true ∧ c3 = true ∧ c4 = true ∧ c5 = true ∧ c6 = true ∧ c7 = false) ∨ (c0 = true ∧ c1 = true ∧ c2 = true ∧ c3 = true ∧ c4 = true ∧ c5 = true ∧ c6 = true ∧ c7 = true ∧ c8 = false) ∨ (c0 = true ∧ c1 = true ∧ c2 = true ∧ c3 = true ∧ c4 = true ∧ c5 = true ∧ c6 = true ∧ c7 = true ∧ c8 = true ∧ c9 = false) ∨ (c0 = true ∧ c1 = true ∧ c2 = true ∧ c3 = true ∧ c4 = true ∧ c5 = true ∧ c6 = true ∧ c7 = true ∧ c8 = true ∧ c9 = true ∧ c10 = false) ∨ (c0 = true ∧ c1 = true ∧ c2 = true ∧ c3 = true ∧ c4 = true ∧ c5 = true ∧ c6 = true ∧ c7 = true ∧ c8 = true ∧ c9 = true ∧ c10 = true ∧ c11 = false) ∨ (c0 = true ∧ c1 = true ∧ c2 = true ∧ c3 = true ∧ c4 = true ∧ c5 = true ∧ c6 = true ∧ c7 = true ∧ c8 = true ∧ c9 = true ∧ c10 = true ∧ c11 = true ∧ c12 = false) ∨ (c0 = true ∧ c1 = true ∧ c2 = true ∧ c3 = true ∧ c4 = true ∧ c5 = true ∧ c6 = true ∧ c7 = true ∧ c8 = true ∧ c9 = true ∧ c10 = true ∧ c11 = true ∧ c12 = true) := by
  cases c0
  · exact .inl rfl
  refine .inr ?_
  cases c1
  · exact .inl ⟨rfl, rfl⟩
  refine .inr ?_
  cases c2
  · exact .inl ⟨rfl, rfl, rfl⟩
  refine .inr ?_
  cases c3
  · exact .inl ⟨rfl, rfl, rfl, rfl⟩
  refine .inr ?_
  cases c4
  · exact .inl ⟨rfl, rfl, rfl, rfl, rfl⟩
  refine .inr ?_
  cases c5
  · exact .inl ⟨rfl, rfl, rfl, rfl, rfl, rfl⟩
  refine .inr ?_
  cases c6
  · exact .inl ⟨rfl, rfl, rfl, rfl, rfl, rfl, rfl⟩
  refine .inr ?_
  cases c7
  · exact .inl ⟨rfl, rfl, rfl, rfl, rfl, rfl, rfl, rfl⟩
  refine .inr ?_
  cases c8
  · exact .inl ⟨rfl, rfl, rfl, rfl, rfl, rfl, rfl, rfl, rfl⟩
  refine .inr ?_
  cases c9
  · exact .inl ⟨rfl, rfl, rfl, rfl, rfl, rfl, rfl, rfl, rfl, rfl⟩
  refine .inr ?_
  cases c10
  · exact .inl ⟨rfl, rfl, rfl, rfl, rfl, rfl, rfl, rfl, rfl, rfl, rfl⟩
  refine .inr ?_
  cases c11
  · exact .inl ⟨rfl, rfl, rfl, rfl, rfl, rfl, rfl, rfl, rfl, rfl, rfl, rfl⟩
  refine .inr ?_
  cases c12
  · exact .inl ⟨rfl, rfl, rfl, rfl, rfl, rfl, rfl, rfl, rfl, rfl, rfl, rfl, rfl⟩
  exact .inr ⟨rfl, rfl, rfl, rfl, rfl, rfl, rfl, rfl, rfl, rfl, rfl, rfl, rfl⟩

def msq (a b : MsgV) : Bool := (a.kind == b.kind) && ((a.hub == b.hub) && ((a.point == b.point) && ((a.client == b.client) && ((a.op == b.op) && ((a.target == b.target) && ((a.hops == b.hops) && ((a.owner == b.owner) && ((a.turn == b.turn) && (enq a b && (((a.sf == b.sf) && ((a.st == b.st) && true)) && (samb rgq a.box b.box && (samb rcq a.recs b.recs))))))))))))

set_option maxHeartbeats 4000000 in
theorem SameRec_fs {b1 b2 : Bool} {l r : List RecV} {e1 e2 : List (List GV)} (hl : l.length ≤ 1000000) (hv : ∀ x, x ∈ l → x.vs.length ≤ 1000000) : FS Try.prog 67 [.sl b1 3 (l.map rcG) e1, .sl b2 3 (r.map rcG) e2, .lit (.func (.func 63) #[] #[])] [] (.lit (.bool (samb rcq l r))) [] := by
  refine FS.enterG Try.func67 rfl fun R0 hR0 => ?_
  simp only [Try.ntmps67, List.length_cons, List.length_nil, List.replicate_succ, List.replicate_zero, List.cons_append, List.nil_append, Nat.reduceAdd, Nat.reduceSub]
  by_cases hn : l.length = r.length
  · have d0 : (((l.map rcG).length : Int) != ((r.map rcG).length : Int)) = false := by simp [hn]
    repeat (first | (refine TW.tw ?_; (first | (refine TW.nil ?_; (first | (refine hK0 _ _ ?_; clear hK0 K0) | (refine hK1 _ _ _ (by kernel_rfl) ?_; clear hK1 K1)); try dsimp only [mk_msgSame_67, thenR, blockR, loopR, mk_t, mk_f, mk_n]; try simp only [d0, Int.toNat_natCast])|(refine TW.ca rfl ?_; first | refine TW.C0 (hF := hF _ _ _) (h := ?_))|refine TW.gn (h := ?_)|(simp only [d0]; refine TW.nm (h := ?_)))) | refine CS.seq fun K hK => ?_|(refine CS.regl mk_msgSame_67 (fun K0 hK0 => ?_); try dsimp only [mp_s, mp_z])|(refine CS.drawl tab mk_msgSame_67 (fun K1 hK1 => ?_); try dsimp only [mp_s, mp_z])|(refine hK _ _ ?_; clear hK K)|(clear hK K; refine hK _ _ ?_; clear hK K)|(clear hK K; clear hK K; refine hK _ _ ?_; clear hK K)|(clear hK K; clear hK K; clear hK K; refine hK _ _ ?_; clear hK K)|((first | refine CS_ret ?_ | refine CS_skip ?_ | refine CS_exit ?_ | rw [if_pos rfl] | rw [if_neg (by decide)]); try dsimp only [thenR, blockR, loopR])|refine CS.blk ?_|refine CS.yes rfl ?_|refine CS.no rfl ?_|simp only [d0])
    refine CS.lp (fun i : Nat => i ≤ l.length ∧ samb rcq (l.drop i) (r.drop i) = samb rcq l r)
      (fun i => ([.sl b1 3 (l.map rcG) e1, .sl b2 3 (r.map rcG) e2, .lit (.func (.func 63) #[] #[]), .any, .any, .any, .any, .lit (.int .i64 i)] ++ List.replicate 22 .any))
      (fun _ => []) (fun i => l.length - i) 0 [] [true, true, true, false, false, false, false, true] (by decide) rfl ⟨Nat.zero_le _, rfl⟩ rfl rfl ?_
    rintro i ⟨hi1, hi2⟩
    simp only [List.replicate_succ, List.replicate_zero, List.cons_append, List.nil_append]
    by_cases c : i < l.length
    · have d : decide ((i : Int) < ((l.map rcG).length : Int)) = true := decide_eq_true (by simp; omega)
      have hg := map_at (f := rcG) c
      have cr : i < r.length := by omega
      have hg2 := map_at (f := rcG) cr
      have hI0 : (0 : Int) ≤ (i : Int) := by omega
      have hI1 : (i : Int) < ((l.map rcG).length : Int) := by simp; omega
      have hI2 : (i : Int) < ((r.map rcG).length : Int) := by simp; omega
      have ew := wrap_nat (n := i) (by omega)
      have hC := HRecord_fs (a := l[i]) (b := r[i]) (hv _ (List.getElem_mem c))
      rw [drop_at c, drop_at cr, samb_cc] at hi2
      generalize l[i] = x at *
      generalize r[i] = y at *
      simp only [rcG] at hC hg hg2
      cases he : rcq x y
      · rw [he, Bool.false_and] at hi2
        rw [← hi2] at hR0
        repeat (first | (refine TW.tw ?_; (first | (refine TW.nil ?_; (first | (refine hK0 _ _ ?_; clear hK0 K0) | (refine hK1 _ _ _ (by kernel_rfl) ?_; clear hK1 K1)); try dsimp only [mk_msgSame_67, thenR, blockR, loopR, mk_t, mk_f, mk_n]; try simp only [d, ew, he, Bool.not_false, Int.toNat_natCast])|(refine TW.ca rfl ?_; first | refine TW.C0 (hF := hC ) (h := ?_)|refine TW.C0 (hF := hF _ _ _) (h := ?_))|refine TW.gn (h := ?_)|(simp only [d, ew, he, Bool.not_false]; refine TW.nm (h := ?_)))) | refine CS.seq fun K hK => ?_|(refine CS.regl mk_msgSame_67 (fun K0 hK0 => ?_); try dsimp only [mp_s, mp_z])|(refine CS.drawl tab mk_msgSame_67 (fun K1 hK1 => ?_); try dsimp only [mp_s, mp_z])|(refine hK _ _ ?_; clear hK K)|(clear hK K; refine hK _ _ ?_; clear hK K)|(clear hK K; clear hK K; refine hK _ _ ?_; clear hK K)|(clear hK K; clear hK K; clear hK K; refine hK _ _ ?_; clear hK K)|((first | refine CS_ret ?_ | refine CS_skip ?_ | refine CS_exit ?_ | rw [if_pos rfl] | rw [if_neg (by decide)]); try dsimp only [thenR, blockR, loopR])|refine CS.blk ?_|refine CS.yes rfl ?_|refine CS.no rfl ?_|simp only [d, ew, he, Bool.not_false])
        exact hR0 _ _ _ (by exact GS.refl ⟨(by first | exact .inr rfl | exact .inl rfl), _, [], gresT_ok tab rfl, by decide, rfl, rfl, rfl, rfl⟩)
      · rw [he, Bool.true_and] at hi2
        repeat (first | (refine TW.tw ?_; (first | (refine TW.nil ?_; (first | (refine hK0 _ _ ?_; clear hK0 K0) | (refine hK1 _ _ _ (by kernel_rfl) ?_; clear hK1 K1)); try dsimp only [mk_msgSame_67, thenR, blockR, loopR, mk_t, mk_f, mk_n]; try simp only [d, ew, he, Bool.not_true, Int.toNat_natCast])|(refine TW.ca rfl ?_; first | refine TW.C0 (hF := hC ) (h := ?_)|refine TW.C0 (hF := hF _ _ _) (h := ?_))|refine TW.gn (h := ?_)|(simp only [d, ew, he, Bool.not_true]; refine TW.nm (h := ?_)))) | refine CS.seq fun K hK => ?_|(refine CS.regl mk_msgSame_67 (fun K0 hK0 => ?_); try dsimp only [mp_s, mp_z])|(refine CS.drawl tab mk_msgSame_67 (fun K1 hK1 => ?_); try dsimp only [mp_s, mp_z])|(refine hK _ _ ?_; clear hK K)|(clear hK K; refine hK _ _ ?_; clear hK K)|(clear hK K; clear hK K; refine hK _ _ ?_; clear hK K)|(clear hK K; clear hK K; clear hK K; refine hK _ _ ?_; clear hK K)|((first | refine CS_ret ?_ | refine CS_skip ?_ | refine CS_exit ?_ | rw [if_pos rfl] | rw [if_neg (by decide)]); try dsimp only [thenR, blockR, loopR])|refine CS.blk ?_|refine CS.yes rfl ?_|refine CS.no rfl ?_|simp only [d, ew, he, Bool.not_true])
        exact ⟨i + 1, [], [true, true, true, false, false, false, false, true], ⟨c, hi2⟩, by show l.length - (i + 1) < l.length - i; omega, by decide, rfl, rfl, rfl⟩
    · have d : decide ((i : Int) < ((l.map rcG).length : Int)) = false := decide_eq_false (by simp; omega)
      rw [drop_end c, drop_end (l := r) (by omega), samb_nn] at hi2
      rw [← hi2] at hR0
      repeat (first | (refine TW.tw ?_; (first | (refine TW.nil ?_; (first | (refine hK0 _ _ ?_; clear hK0 K0) | (refine hK1 _ _ _ (by kernel_rfl) ?_; clear hK1 K1)); try dsimp only [mk_msgSame_67, thenR, blockR, loopR, mk_t, mk_f, mk_n]; try simp only [d, Int.toNat_natCast])|(refine TW.ca rfl ?_; first | refine TW.C0 (hF := hC ) (h := ?_)|refine TW.C0 (hF := hF _ _ _) (h := ?_))|refine TW.gn (h := ?_)|(simp only [d]; refine TW.nm (h := ?_)))) | refine CS.seq fun K hK => ?_|(refine CS.regl mk_msgSame_67 (fun K0 hK0 => ?_); try dsimp only [mp_s, mp_z])|(refine CS.drawl tab mk_msgSame_67 (fun K1 hK1 => ?_); try dsimp only [mp_s, mp_z])|(refine hK _ _ ?_; clear hK K)|(clear hK K; refine hK _ _ ?_; clear hK K)|(clear hK K; clear hK K; refine hK _ _ ?_; clear hK K)|(clear hK K; clear hK K; clear hK K; refine hK _ _ ?_; clear hK K)|((first | refine CS_ret ?_ | refine CS_skip ?_ | refine CS_exit ?_ | rw [if_pos rfl] | rw [if_neg (by decide)]); try dsimp only [thenR, blockR, loopR])|refine CS.blk ?_|refine CS.yes rfl ?_|refine CS.no rfl ?_|simp only [d])
      exact hR0 _ _ _ (by exact GS.refl ⟨(by first | exact .inr rfl | exact .inl rfl), _, [], gresT_ok tab rfl, by decide, rfl, rfl, rfl, rfl⟩)
  · have d0 : (((l.map rcG).length : Int) != ((r.map rcG).length : Int)) = true := by simp; omega
    rw [samb_ne _ hn] at hR0
    repeat (first | (refine TW.tw ?_; (first | (refine TW.nil ?_; (first | (refine hK0 _ _ ?_; clear hK0 K0) | (refine hK1 _ _ _ (by kernel_rfl) ?_; clear hK1 K1)); try dsimp only [mk_msgSame_67, thenR, blockR, loopR, mk_t, mk_f, mk_n]; try simp only [d0, Int.toNat_natCast])|(refine TW.ca rfl ?_; first | refine TW.C0 (hF := hC ) (h := ?_)|refine TW.C0 (hF := hF _ _ _) (h := ?_))|refine TW.gn (h := ?_)|(simp only [d0]; refine TW.nm (h := ?_)))) | refine CS.seq fun K hK => ?_|(refine CS.regl mk_msgSame_67 (fun K0 hK0 => ?_); try dsimp only [mp_s, mp_z])|(refine CS.drawl tab mk_msgSame_67 (fun K1 hK1 => ?_); try dsimp only [mp_s, mp_z])|(refine hK _ _ ?_; clear hK K)|(clear hK K; refine hK _ _ ?_; clear hK K)|(clear hK K; clear hK K; refine hK _ _ ?_; clear hK K)|(clear hK K; clear hK K; clear hK K; refine hK _ _ ?_; clear hK K)|((first | refine CS_ret ?_ | refine CS_skip ?_ | refine CS_exit ?_ | rw [if_pos rfl] | rw [if_neg (by decide)]); try dsimp only [thenR, blockR, loopR])|refine CS.blk ?_|refine CS.yes rfl ?_|refine CS.no rfl ?_|simp only [d0])
    exact hR0 _ _ _ (by exact GS.refl ⟨(by first | exact .inr rfl | exact .inl rfl), _, [], gresT_ok tab rfl, by decide, rfl, rfl, rfl, rfl⟩)
theorem HRecords_fs {b1 b2 : Bool} {l r : List RecV} {e1 e2 : List (List GV)} (hl : l.length ≤ 1000000) (hv : ∀ x, x ∈ l → x.vs.length ≤ 1000000) : FS Try.prog 52 [.sl b1 3 (l.map rcG) e1, .sl b2 3 (r.map rcG) e2] [] (.lit (.bool (samb rcq l r))) [] := by
  refine FS.enterG Try.func52 rfl fun R0 hR0 => ?_
  simp only [Try.ntmps52, List.length_cons, List.length_nil, List.replicate_succ, List.replicate_zero, List.cons_append, List.nil_append, Nat.reduceAdd, Nat.reduceSub]
  have hS := @SameRec_fs b1 b2 l r e1 e2 hl hv
  repeat (first | (refine TW.tw ?_; (first | (refine TW.nil ?_; (first | (refine hK0 _ _ ?_; clear hK0 K0) | (refine hK1 _ _ _ (by kernel_rfl) ?_; clear hK1 K1)); try dsimp only [thenR, blockR, loopR, mk_t, mk_f, mk_n])|(refine TW.ca rfl ?_; first | refine TW.C0 (hF := hS ) (h := ?_)|refine TW.C0 (hF := hC ) (h := ?_)|refine TW.C0 (hF := hF _ _ _) (h := ?_))|refine TW.gn (h := ?_))) | refine CS.seq fun K hK => ?_|(refine CS.regl [true, true, false, false, true, false, false, false] (fun K0 hK0 => ?_); try dsimp only [mp_s, mp_z])|(refine CS.drawl tab [true, true, false, false, true, false, false, false] (fun K1 hK1 => ?_); try dsimp only [mp_s, mp_z])|(refine hK _ _ ?_; clear hK K)|(clear hK K; refine hK _ _ ?_; clear hK K)|(clear hK K; clear hK K; refine hK _ _ ?_; clear hK K)|(clear hK K; clear hK K; clear hK K; refine hK _ _ ?_; clear hK K)|((first | refine CS_ret ?_ | refine CS_skip ?_ | refine CS_exit ?_ | rw [if_pos rfl] | rw [if_neg (by decide)]); try dsimp only [thenR, blockR, loopR])|refine CS.blk ?_|refine CS.yes rfl ?_|refine CS.no rfl ?_)
  exact hR0 _ _ _ (by exact GS.refl ⟨(by first | exact .inr rfl | exact .inl rfl), _, [], gresT_ok tab rfl, by decide, rfl, rfl, rfl, rfl⟩)
set_option maxRecDepth 8000 in
set_option maxHeartbeats 16000000 in
theorem HMessage_fs {a b : MsgV} (ha : MsgOk a) : FS Try.prog 18 [.agg (msG a), .agg (msG b)] [] (.lit (.bool (msq a b))) [] := by
  refine FS.enterG Try.func18 rfl fun R0 hR0 => ?_
  simp only [Try.ntmps18, List.length_cons, List.length_nil, List.replicate_succ, List.replicate_zero, List.cons_append, List.nil_append, Nat.reduceAdd, Nat.reduceSub]
  have l1 := ha.bl
  have hE := HEntry_fs (a := a) (b := b) ha.er.len
  have hS := @HRecords_fs false false a.recs b.recs a.rx b.rx ha.rl fun x hx => (ha.recs x hx).len
  simp only [entG] at hE
  simp only [msG]
  obtain ⟨c0, e0⟩ : ∃ c, (a.kind == b.kind) = c := ⟨_, rfl⟩
  obtain ⟨c1, e1⟩ : ∃ c, (a.hub == b.hub) = c := ⟨_, rfl⟩
  obtain ⟨c2, e2⟩ : ∃ c, (a.point == b.point) = c := ⟨_, rfl⟩
  obtain ⟨c3, e3⟩ : ∃ c, (a.client == b.client) = c := ⟨_, rfl⟩
  obtain ⟨c4, e4⟩ : ∃ c, (a.op == b.op) = c := ⟨_, rfl⟩
  obtain ⟨c5, e5⟩ : ∃ c, (a.target == b.target) = c := ⟨_, rfl⟩
  obtain ⟨c6, e6⟩ : ∃ c, (a.hops == b.hops) = c := ⟨_, rfl⟩
  obtain ⟨c7, e7⟩ : ∃ c, (a.owner == b.owner) = c := ⟨_, rfl⟩
  obtain ⟨c8, e8⟩ : ∃ c, (a.turn == b.turn) = c := ⟨_, rfl⟩
  obtain ⟨c9, e9⟩ : ∃ c, (enq a b) = c := ⟨_, rfl⟩
  obtain ⟨c10, e10⟩ : ∃ c, ((a.sf == b.sf) && ((a.st == b.st) && true)) = c := ⟨_, rfl⟩
  obtain ⟨c11, e11⟩ : ∃ c, (samb rgq a.box b.box) = c := ⟨_, rfl⟩
  obtain ⟨c12, e12⟩ : ∃ c, (samb rcq a.recs b.recs) = c := ⟨_, rfl⟩
  have hq : msq a b = (c0 && (c1 && (c2 && (c3 && (c4 && (c5 && (c6 && (c7 && (c8 && (c9 && (c10 && (c11 && (c12))))))))))))) := by unfold msq; rw [e0, e1, e2, e3, e4, e5, e6, e7, e8, e9, e10, e11, e12]
  rw [hq] at hR0
  clear hq
  rcases first_not (c0 := c0) (c1 := c1) (c2 := c2) (c3 := c3) (c4 := c4) (c5 := c5) (c6 := c6) (c7 := c7) (c8 := c8) (c9 := c9) (c10 := c10) (c11 := c11) (c12 := c12) with rfl | ⟨rfl, rfl⟩ | ⟨rfl, rfl, rfl⟩ | ⟨rfl, rfl, rfl, rfl⟩ | ⟨rfl, rfl, rfl, rfl, rfl⟩ | ⟨rfl, rfl, rfl, rfl, rfl, rfl⟩ | ⟨rfl, rfl, rfl, rfl, rfl, rfl, rfl⟩ | ⟨rfl, rfl, rfl, rfl, rfl, rfl, rfl, rfl⟩ | ⟨rfl, rfl, rfl, rfl, rfl, rfl, rfl, rfl, rfl⟩ | ⟨rfl, rfl, rfl, rfl, rfl, rfl, rfl, rfl, rfl, rfl⟩ | ⟨rfl, rfl, rfl, rfl, rfl, rfl, rfl, rfl, rfl, rfl, rfl⟩ | ⟨rfl, rfl, rfl, rfl, rfl, rfl, rfl, rfl, rfl, rfl, rfl, rfl⟩ | ⟨rfl, rfl, rfl, rfl, rfl, rfl, rfl, rfl, rfl, rfl, rfl, rfl, rfl⟩ | ⟨rfl, rfl, rfl, rfl, rfl, rfl, rfl, rfl, rfl, rfl, rfl, rfl, rfl⟩
  all_goals simp only [Bool.false_and, Bool.true_and] at hR0
  all_goals repeat (first | (refine TW.tw ?_; (first | (refine TW.nil ?_; (first | (refine hK0 _ _ ?_; clear hK0 K0) | (refine hK1 _ _ _ (by kernel_rfl) ?_; clear hK1 K1)); try dsimp only [mk_msgSame_18, thenR, blockR, loopR, mk_t, mk_f, mk_n]; try simp only [e0, e1, e2, e3, e4, e5, e6, e7, e8, e9, e10, e11, e12, Int.toNat_natCast])|(refine TW.ca rfl ?_; first | refine TW.C0 (hF := hS ) (h := ?_)|refine TW.C0 (hF := hE ) (h := ?_)|refine TW.C0 (hF := hC ) (h := ?_)|refine TW.C0 (hF := hF _ _ _) (h := ?_)|(refine TW.kc 51 rfl ?_; first | refine TW.C0 (hF := PlainRange_fs (by assumption)) (h := ?_)))|refine TW.gn (h := ?_)|(simp only [e0, e1, e2, e3, e4, e5, e6, e7, e8, e9, e10, e11, e12]; refine TW.nm (h := ?_)))) | refine CS.seq fun K hK => ?_|(refine CS.regl mk_msgSame_18 (fun K0 hK0 => ?_); try dsimp only [mp_s, mp_z])|(refine CS.drawl tab mk_msgSame_18 (fun K1 hK1 => ?_); try dsimp only [mp_s, mp_z])|(refine hK _ _ ?_; clear hK K)|(clear hK K; refine hK _ _ ?_; clear hK K)|(clear hK K; clear hK K; refine hK _ _ ?_; clear hK K)|(clear hK K; clear hK K; clear hK K; refine hK _ _ ?_; clear hK K)|((first | refine CS_ret ?_ | refine CS_skip ?_ | refine CS_exit ?_ | rw [if_pos rfl] | rw [if_neg (by decide)]); try dsimp only [thenR, blockR, loopR])|refine CS.blk ?_|refine CS.yes rfl ?_|refine CS.no rfl ?_|simp only [e0, e1, e2, e3, e4, e5, e6, e7, e8, e9, e10, e11, e12])
  all_goals exact hR0 _ _ _ (by exact GS.refl ⟨(by first | exact .inr rfl | exact .inl rfl), _, [], gresT_ok tab rfl, by decide, rfl, rfl, rfl, rfl⟩)
end Go.Gh

