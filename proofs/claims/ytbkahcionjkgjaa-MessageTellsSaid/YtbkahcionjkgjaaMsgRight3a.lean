import Derived.Test.YtbkahcionjkgjaaTiny
import Derived.Test.YtbkahcionjkgjaaMsgRight

namespace Go.Gh
def mk_msgRight3a_30 : List Bool := [true, true, true, false, false, false, false, false, false, false, false]
def mk_msgRight3a_63 : List Bool := [true, true, true, true, true, false, false, false, false, false, false, false, false, false, false, false, false, false, false, false, false, false, false, false]
def mk_msgRight3a_49 : List Bool := [true, true, true, true, true, false, false, false, false, false, false, false, false, false, false, false, false, false, false, false, false, false, false, false]
open Go.Proofs
set_option linter.unusedVariables false
set_option linter.unusedSimpArgs false

/-! Layer 6: the document's answer. -/

theorem R6first_fs (m : MsgV) : FS Try.prog 30 [.agg (msG m)] [] (.lit (.bool (wth m.kind 1 4))) [] := by
  refine FS.enterG Try.func30 rfl fun R0 hR0 => ?_
  simp only [Try.ntmps30, List.length_cons, List.length_nil, List.replicate_succ, List.replicate_zero, List.cons_append, List.nil_append, Nat.reduceAdd, Nat.reduceSub]
  simp only [msG]
  by_cases c : 1 ≤ m.kind
  · have d : decide (m.kind ≥ 1) = true := decide_eq_true c
    have e : wth m.kind 1 4 = decide (m.kind ≤ 4) := by unfold wth; rw [show decide (1 ≤ m.kind) = true from decide_eq_true c]; rfl
    rw [e] at hR0
    repeat (first | (refine TW.tw ?_; (first | (refine TW.nil ?_; (first | (refine hK0 _ _ ?_; clear hK0 K0) | (refine hK1 _ _ _ (by kernel_rfl) ?_; clear hK1 K1)); try dsimp only [mk_msgRight3a_30, thenR, blockR, loopR, mk_t, mk_f, mk_n]; try simp only [d, Int.toNat_natCast])|(refine TW.ca rfl ?_; first | refine TW.C0 (hF := hF _ _ _) (h := ?_))|refine TW.gn (h := ?_)|(simp only [d]; refine TW.nm (h := ?_)))) | refine CS.seq fun K hK => ?_|(refine CS.regl mk_msgRight3a_30 (fun K0 hK0 => ?_); try dsimp only [mp_s, mp_z])|(refine CS.drawl tab mk_msgRight3a_30 (fun K1 hK1 => ?_); try dsimp only [mp_s, mp_z])|(refine hK _ _ ?_; clear hK K)|(clear hK K; refine hK _ _ ?_; clear hK K)|(clear hK K; clear hK K; refine hK _ _ ?_; clear hK K)|((first | refine CS_ret ?_ | refine CS_skip ?_ | refine CS_exit ?_ | rw [if_pos rfl] | rw [if_neg (by decide)]); try dsimp only [thenR, blockR, loopR])|refine CS.blk ?_|refine CS.yes rfl ?_|refine CS.no rfl ?_|simp only [d])
    exact hR0 _ _ _ (TW.fk [])
  · have d : decide (m.kind ≥ 1) = false := decide_eq_false c
    have e : wth m.kind 1 4 = false := by unfold wth; rw [show decide (1 ≤ m.kind) = false from decide_eq_false c]; rfl
    rw [e] at hR0
    repeat (first | (refine TW.tw ?_; (first | (refine TW.nil ?_; (first | (refine hK0 _ _ ?_; clear hK0 K0) | (refine hK1 _ _ _ (by kernel_rfl) ?_; clear hK1 K1)); try dsimp only [mk_msgRight3a_30, thenR, blockR, loopR, mk_t, mk_f, mk_n]; try simp only [d, Int.toNat_natCast])|(refine TW.ca rfl ?_; first | refine TW.C0 (hF := hF _ _ _) (h := ?_))|refine TW.gn (h := ?_)|(simp only [d]; refine TW.nm (h := ?_)))) | refine CS.seq fun K hK => ?_|(refine CS.regl mk_msgRight3a_30 (fun K0 hK0 => ?_); try dsimp only [mp_s, mp_z])|(refine CS.drawl tab mk_msgRight3a_30 (fun K1 hK1 => ?_); try dsimp only [mp_s, mp_z])|(refine hK _ _ ?_; clear hK K)|(clear hK K; refine hK _ _ ?_; clear hK K)|(clear hK K; clear hK K; refine hK _ _ ?_; clear hK K)|((first | refine CS_ret ?_ | refine CS_skip ?_ | refine CS_exit ?_ | rw [if_pos rfl] | rw [if_neg (by decide)]); try dsimp only [thenR, blockR, loopR])|refine CS.blk ?_|refine CS.yes rfl ?_|refine CS.no rfl ?_|simp only [d])
    exact hR0 _ _ _ (TW.fk [])

def vsq (a b : List Int) : Bool := samb eqi a b
def rcq (a b : RecV) : Bool := (a.id == b.id) && ((a.ver == b.ver) && samb eqi a.vs b.vs)
set_option maxHeartbeats 4000000 in
theorem HRecord_fs {a b : RecV} (ha : a.vs.length ≤ 1000000) : FS Try.prog 63 [.agg (rcG a), .agg (rcG b)] [] (.lit (.bool (rcq a b))) [] := by
  refine FS.enterG Try.func63 rfl fun R0 hR0 => ?_
  simp only [Try.ntmps63, List.length_cons, List.length_nil, List.replicate_succ, List.replicate_zero, List.cons_append, List.nil_append, Nat.reduceAdd, Nat.reduceSub]
  unfold rcq at hR0
  simp only [rcG]
  cases d1 : (a.id == b.id)
  · rw [d1, Bool.false_and] at hR0
    repeat (first | (refine TW.tw ?_; (first | (refine TW.nil ?_; (first | (refine hK0 _ _ ?_; clear hK0 K0) | (refine hK1 _ _ _ (by kernel_rfl) ?_; clear hK1 K1)); try dsimp only [mk_msgRight3a_63, thenR, blockR, loopR, mk_t, mk_f, mk_n]; try simp only [d1, Int.toNat_natCast])|(refine TW.ca rfl ?_; first | refine TW.C0 (hF := hF _ _ _) (h := ?_)|(refine TW.kc 75 rfl ?_; first | refine TW.C0 (hF := PlainU32_fs (by assumption)) (h := ?_)))|refine TW.gn (h := ?_)|(simp only [d1]; refine TW.nm (h := ?_)))) | refine CS.seq fun K hK => ?_|(refine CS.regl mk_msgRight3a_63 (fun K0 hK0 => ?_); try dsimp only [mp_s, mp_z])|(refine CS.drawl tab mk_msgRight3a_63 (fun K1 hK1 => ?_); try dsimp only [mp_s, mp_z])|(refine hK _ _ ?_; clear hK K)|(clear hK K; refine hK _ _ ?_; clear hK K)|(clear hK K; clear hK K; refine hK _ _ ?_; clear hK K)|((first | refine CS_ret ?_ | refine CS_skip ?_ | refine CS_exit ?_ | rw [if_pos rfl] | rw [if_neg (by decide)]); try dsimp only [thenR, blockR, loopR])|refine CS.blk ?_|refine CS.yes rfl ?_|refine CS.no rfl ?_|simp only [d1])
    exact hR0 _ _ _ (TW.fk [])
  · rw [d1, Bool.true_and] at hR0
    cases d2 : (a.ver == b.ver)
    · rw [d2, Bool.false_and] at hR0
      repeat (first | (refine TW.tw ?_; (first | (refine TW.nil ?_; (first | (refine hK0 _ _ ?_; clear hK0 K0) | (refine hK1 _ _ _ (by kernel_rfl) ?_; clear hK1 K1)); try dsimp only [mk_msgRight3a_63, thenR, blockR, loopR, mk_t, mk_f, mk_n]; try simp only [d1, d2, Int.toNat_natCast])|(refine TW.ca rfl ?_; first | refine TW.C0 (hF := hF _ _ _) (h := ?_)|(refine TW.kc 75 rfl ?_; first | refine TW.C0 (hF := PlainU32_fs (by assumption)) (h := ?_)))|refine TW.gn (h := ?_)|(simp only [d1, d2]; refine TW.nm (h := ?_)))) | refine CS.seq fun K hK => ?_|(refine CS.regl mk_msgRight3a_63 (fun K0 hK0 => ?_); try dsimp only [mp_s, mp_z])|(refine CS.drawl tab mk_msgRight3a_63 (fun K1 hK1 => ?_); try dsimp only [mp_s, mp_z])|(refine hK _ _ ?_; clear hK K)|(clear hK K; refine hK _ _ ?_; clear hK K)|(clear hK K; clear hK K; refine hK _ _ ?_; clear hK K)|((first | refine CS_ret ?_ | refine CS_skip ?_ | refine CS_exit ?_ | rw [if_pos rfl] | rw [if_neg (by decide)]); try dsimp only [thenR, blockR, loopR])|refine CS.blk ?_|refine CS.yes rfl ?_|refine CS.no rfl ?_|simp only [d1, d2])
      exact hR0 _ _ _ (TW.fk [])
    · rw [d2, Bool.true_and] at hR0
      repeat (first | (refine TW.tw ?_; (first | (refine TW.nil ?_; (first | (refine hK0 _ _ ?_; clear hK0 K0) | (refine hK1 _ _ _ (by kernel_rfl) ?_; clear hK1 K1)); try dsimp only [mk_msgRight3a_63, thenR, blockR, loopR, mk_t, mk_f, mk_n]; try simp only [d1, d2, Int.toNat_natCast])|(refine TW.ca rfl ?_; first | refine TW.C0 (hF := hF _ _ _) (h := ?_)|(refine TW.kc 75 rfl ?_; first | refine TW.C0 (hF := PlainU32_fs (by assumption)) (h := ?_)))|refine TW.gn (h := ?_)|(simp only [d1, d2]; refine TW.nm (h := ?_)))) | refine CS.seq fun K hK => ?_|(refine CS.regl mk_msgRight3a_63 (fun K0 hK0 => ?_); try dsimp only [mp_s, mp_z])|(refine CS.drawl tab mk_msgRight3a_63 (fun K1 hK1 => ?_); try dsimp only [mp_s, mp_z])|(refine hK _ _ ?_; clear hK K)|(clear hK K; refine hK _ _ ?_; clear hK K)|(clear hK K; clear hK K; refine hK _ _ ?_; clear hK K)|((first | refine CS_ret ?_ | refine CS_skip ?_ | refine CS_exit ?_ | rw [if_pos rfl] | rw [if_neg (by decide)]); try dsimp only [thenR, blockR, loopR])|refine CS.blk ?_|refine CS.yes rfl ?_|refine CS.no rfl ?_|simp only [d1, d2])
      exact hR0 _ _ _ (TW.fk [])
def enq (a b : MsgV) : Bool := (a.ev == b.ev) && ((a.gone == b.gone) && rcq a.er b.er)
set_option maxHeartbeats 4000000 in
theorem HEntry_fs {a b : MsgV} (ha : a.er.vs.length ≤ 1000000) : FS Try.prog 49 [.agg (entG a), .agg (entG b)] [] (.lit (.bool (enq a b))) [] := by
  refine FS.enterG Try.func49 rfl fun R0 hR0 => ?_
  simp only [Try.ntmps49, List.length_cons, List.length_nil, List.replicate_succ, List.replicate_zero, List.cons_append, List.nil_append, Nat.reduceAdd, Nat.reduceSub]
  have hC := HRecord_fs (a := a.er) (b := b.er) ha
  unfold enq at hR0
  simp only [entG, rcG] at hC ⊢
  cases d1 : (a.ev == b.ev)
  · rw [d1, Bool.false_and] at hR0
    repeat (first | (refine TW.tw ?_; (first | (refine TW.nil ?_; (first | (refine hK0 _ _ ?_; clear hK0 K0) | (refine hK1 _ _ _ (by kernel_rfl) ?_; clear hK1 K1)); try dsimp only [mk_msgRight3a_49, thenR, blockR, loopR, mk_t, mk_f, mk_n]; try simp only [d1, Int.toNat_natCast])|(refine TW.ca rfl ?_; first | refine TW.C0 (hF := hC ) (h := ?_)|refine TW.C0 (hF := hF _ _ _) (h := ?_)|(refine TW.kc 63 rfl ?_; first | refine TW.C0 (hF := HRecord_fs (by assumption)) (h := ?_)))|refine TW.gn (h := ?_)|(simp only [d1]; refine TW.nm (h := ?_)))) | refine CS.seq fun K hK => ?_|(refine CS.regl mk_msgRight3a_49 (fun K0 hK0 => ?_); try dsimp only [mp_s, mp_z])|(refine CS.drawl tab mk_msgRight3a_49 (fun K1 hK1 => ?_); try dsimp only [mp_s, mp_z])|(refine hK _ _ ?_; clear hK K)|(clear hK K; refine hK _ _ ?_; clear hK K)|(clear hK K; clear hK K; refine hK _ _ ?_; clear hK K)|((first | refine CS_ret ?_ | refine CS_skip ?_ | refine CS_exit ?_ | rw [if_pos rfl] | rw [if_neg (by decide)]); try dsimp only [thenR, blockR, loopR])|refine CS.blk ?_|refine CS.yes rfl ?_|refine CS.no rfl ?_|simp only [d1])
    exact hR0 _ _ _ (TW.fk [])
  · rw [d1, Bool.true_and] at hR0
    cases d2 : (a.gone == b.gone)
    · rw [d2, Bool.false_and] at hR0
      repeat (first | (refine TW.tw ?_; (first | (refine TW.nil ?_; (first | (refine hK0 _ _ ?_; clear hK0 K0) | (refine hK1 _ _ _ (by kernel_rfl) ?_; clear hK1 K1)); try dsimp only [mk_msgRight3a_49, thenR, blockR, loopR, mk_t, mk_f, mk_n]; try simp only [d1, d2, Int.toNat_natCast])|(refine TW.ca rfl ?_; first | refine TW.C0 (hF := hC ) (h := ?_)|refine TW.C0 (hF := hF _ _ _) (h := ?_)|(refine TW.kc 63 rfl ?_; first | refine TW.C0 (hF := HRecord_fs (by assumption)) (h := ?_)))|refine TW.gn (h := ?_)|(simp only [d1, d2]; refine TW.nm (h := ?_)))) | refine CS.seq fun K hK => ?_|(refine CS.regl mk_msgRight3a_49 (fun K0 hK0 => ?_); try dsimp only [mp_s, mp_z])|(refine CS.drawl tab mk_msgRight3a_49 (fun K1 hK1 => ?_); try dsimp only [mp_s, mp_z])|(refine hK _ _ ?_; clear hK K)|(clear hK K; refine hK _ _ ?_; clear hK K)|(clear hK K; clear hK K; refine hK _ _ ?_; clear hK K)|((first | refine CS_ret ?_ | refine CS_skip ?_ | refine CS_exit ?_ | rw [if_pos rfl] | rw [if_neg (by decide)]); try dsimp only [thenR, blockR, loopR])|refine CS.blk ?_|refine CS.yes rfl ?_|refine CS.no rfl ?_|simp only [d1, d2])
      exact hR0 _ _ _ (TW.fk [])
    · rw [d2, Bool.true_and] at hR0
      repeat (first | (refine TW.tw ?_; (first | (refine TW.nil ?_; (first | (refine hK0 _ _ ?_; clear hK0 K0) | (refine hK1 _ _ _ (by kernel_rfl) ?_; clear hK1 K1)); try dsimp only [mk_msgRight3a_49, thenR, blockR, loopR, mk_t, mk_f, mk_n]; try simp only [d1, d2, Int.toNat_natCast])|(refine TW.ca rfl ?_; first | refine TW.C0 (hF := hC ) (h := ?_)|refine TW.C0 (hF := hF _ _ _) (h := ?_)|(refine TW.kc 63 rfl ?_; first | refine TW.C0 (hF := HRecord_fs (by assumption)) (h := ?_)))|refine TW.gn (h := ?_)|(simp only [d1, d2]; refine TW.nm (h := ?_)))) | refine CS.seq fun K hK => ?_|(refine CS.regl mk_msgRight3a_49 (fun K0 hK0 => ?_); try dsimp only [mp_s, mp_z])|(refine CS.drawl tab mk_msgRight3a_49 (fun K1 hK1 => ?_); try dsimp only [mp_s, mp_z])|(refine hK _ _ ?_; clear hK K)|(clear hK K; refine hK _ _ ?_; clear hK K)|(clear hK K; clear hK K; refine hK _ _ ?_; clear hK K)|((first | refine CS_ret ?_ | refine CS_skip ?_ | refine CS_exit ?_ | rw [if_pos rfl] | rw [if_neg (by decide)]); try dsimp only [thenR, blockR, loopR])|refine CS.blk ?_|refine CS.yes rfl ?_|refine CS.no rfl ?_|simp only [d1, d2])
      exact hR0 _ _ _ (TW.fk [])
/-- A message of nothing. -/
def msg0 : MsgV := ⟨0, 0, 0, 0, 0, 0, 0, 0, 0, 0, ⟨0, 0, [], []⟩, false, 0, 0, [], [], [], []⟩
theorem hdr_iff {n : Int} {m : MsgV} : hdrB n m = true ↔ (1 ≤ n ∧ n ≤ 8 ∧ 0 ≤ m.hub ∧ m.hub < n ∧ 0 ≤ m.client ∧ m.client < 16 ∧ 1 ≤ m.op ∧ m.op ≤ 500 ∧ 0 ≤ m.hops ∧ m.hops ≤ 100 ∧ 1 ≤ m.kind ∧ m.kind ≤ 6) := by
  simp only [hdrB, wth, Bool.and_eq_true, decide_eq_true_eq]
  omega
theorem hdr_no {n : Int} {m : MsgV} (h : ¬ (1 ≤ n ∧ n ≤ 8 ∧ 0 ≤ m.hub ∧ m.hub < n ∧ 0 ≤ m.client ∧ m.client < 16 ∧ 1 ≤ m.op ∧ m.op ≤ 500 ∧ 0 ≤ m.hops ∧ m.hops ≤ 100 ∧ 1 ≤ m.kind ∧ m.kind ≤ 6)) : rightM n m = false := by
  unfold rightM
  cases c : hdrB n m
  · rfl
  · exact absurd (hdr_iff.1 c) h
theorem nonv_enq (m : MsgV) : enq m msg0 = nonv m := by
  unfold enq nonv rcq msg0
  cases m.gone <;> cases h : m.er.vs <;> simp [samb]
  · rcases Bool.eq_false_or_eq_true (m.ev == 0) with a | a <;> rcases Bool.eq_false_or_eq_true (m.er.id == 0) with b | b <;> rcases Bool.eq_false_or_eq_true (m.er.ver == 0) with c | c <;> simp_all
    omega
theorem kf {k : Int} (h : wth k 1 6 = true) : ((k == 1) = true ∧ (k == 2) = false ∧ (k == 3) = false ∧ (k == 4) = false ∧ (k == 5) = false ∧ (k == 6) = false) ∨ ((k == 1) = false ∧ (k == 2) = true ∧ (k == 3) = false ∧ (k == 4) = false ∧ (k == 5) = false ∧ (k == 6) = false) ∨
    ((k == 1) = false ∧ (k == 2) = false ∧ (k == 3) = true ∧ (k == 4) = false ∧ (k == 5) = false ∧ (k == 6) = false) ∨ ((k == 1) = false ∧ (k == 2) = false ∧ (k == 3) = false ∧ (k == 4) = true ∧ (k == 5) = false ∧ (k == 6) = false) ∨
    ((k == 1) = false ∧ (k == 2) = false ∧ (k == 3) = false ∧ (k == 4) = false ∧ (k == 5) = true ∧ (k == 6) = false) ∨ ((k == 1) = false ∧ (k == 2) = false ∧ (k == 3) = false ∧ (k == 4) = false ∧ (k == 5) = false ∧ (k == 6) = true) := by
  have h2 := wth_t h
  rcases (by omega : k = 1 ∨ k = 2 ∨ k = 3 ∨ k = 4 ∨ k = 5 ∨ k = 6) with rfl | rfl | rfl | rfl | rfl | rfl <;> simp
def x2B (n : Int) (m : MsgV) : Bool := boxB n m && m.box.all lohi
def x5B (m : MsgV) : Bool := (betk m.kind || ((m.owner == 0) && (m.turn == 0))) && wth m.turn 0 2147483647
def x6B (m : MsgV) : Bool := hopk m.kind || (m.hops == 0)
def x7B (m : MsgV) : Bool := !((m.kind == 4) || (m.kind == 6)) || (m.point == 0)
theorem r6_eq (n : Int) (m : MsgV) : (numB m && (heldB n m && askB n m)) = ((((((heldB n m && x2B n m) && recB n m) && spnB m) && x5B m) && x6B m) && x7B m) := by
  have e1 : numB m = (x6B m && (x5B m && x7B m)) := by unfold numB x6B x5B x7B; simp only [Bool.and_assoc]
  have e2 : askB n m = (spnB m && (x2B n m && recB n m)) := by unfold askB x2B; simp only [Bool.and_assoc]
  rw [e1, e2]
  cases heldB n m <;> cases x2B n m <;> cases recB n m <;> cases spnB m <;> cases x5B m <;> cases x6B m <;> cases x7B m <;> rfl
theorem x2_no {n : Int} {m : MsgV} (h : (m.kind == 5) = false) : x2B n m = ((m.box.length : Int) == 0) := by
  unfold x2B boxB
  rw [h]
  cases hb : m.box with
  | nil => rfl
  | cons x l => simp; omega
end Go.Gh

