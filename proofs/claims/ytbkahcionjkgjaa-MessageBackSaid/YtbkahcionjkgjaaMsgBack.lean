import Derived.Test.YtbkahcionjkgjaaMsgBackv3
import Derived.Test.YtbkahcionjkgjaaMsgSame

namespace Go.Gh
def mk_msgBack_4 : List Bool := [true, true, true, true, false, true, false, false, true, true, true, true, true, true, false, true, true, true, true, true, false, false, false, false, false, false, false, true, false, false, false, false, false, false, false, false, true, false, false, false, false, false, false, false, false, false, false, false, false, false, false, false, false, false, false, true, false, false, false, false, false, false, false, false, false, false, false, false, false, false, false, false, false, false, false, false, false, false, false, false, false, false, false, false, false, true, false, false, false, false, false, false, false, false, false, false, false, false, false, false, false, false, false, false, false, false, false, false, false, false, false, false]
open Go.Proofs
set_option linter.unusedVariables false
set_option linter.unusedSimpArgs false

/-! Layer 6: MessageBack. -/
theorem samb_refl' {α : Type} {q : α → α → Bool} : ∀ {l r : List α}, l.length = r.length → (∀ (i : Nat) x y, l[i]? = some x → r[i]? = some y → q x y = true) → samb q l r = true
  | [], [], _, _ => rfl
  | [], _ :: _, h, _ => by simp at h
  | _ :: _, [], h, _ => by simp at h
  | x :: l, y :: r, h, hq => by
    rw [samb_cc, hq 0 x y rfl rfl, Bool.true_and]
    exact samb_refl' (by simpa using h) fun i a b ha hb => hq (i + 1) a b (by simpa using ha) (by simpa using hb)
theorem rcq_nox (r : RecV) : rcq (noxR r) r = true := by
  unfold rcq noxR
  simp only [beq_self_eq_true, Bool.true_and]
  exact samb_refl eqi_refl _
theorem msq_nox (m : MsgV) : msq (nox m) m = true := by
  have h1 : samb rgq m.box m.box = true := samb_refl rgq_refl _
  have h2 : samb rcq (m.recs.map noxR) m.recs = true := samb_refl' (by simp) fun i x y hx hy => by
    rw [List.getElem?_map, hy] at hx
    simp at hx
    rw [← hx]; exact rcq_nox y
  have h3 : enq (nox m) m = true := by
    unfold enq nox
    simp only [beq_self_eq_true, Bool.true_and]
    exact rcq_nox m.er
  unfold msq
  rw [h3]
  simp only [nox, beq_self_eq_true, h1, h2, Bool.and_self]
theorem cut_mod (c : Int) {n : Nat} (h0 : 0 < n) (h1 : n ≤ 1000000000) : ∃ j : Nat, j < n ∧ IntKind.i64.wrap ((IntKind.u64.wrap c).tmod (IntKind.u64.wrap (n : Int))) = (j : Int) := by
  have e1 : IntKind.u64.wrap (n : Int) = (n : Int) := by rw [wrap_u64]; omega
  have e2 : 0 ≤ IntKind.u64.wrap c := by rw [wrap_u64]; omega
  rw [e1, Int.tmod_eq_emod_of_nonneg e2]
  have h2 := Int.emod_nonneg (IntKind.u64.wrap c) (show (n : Int) ≠ 0 by omega)
  have h3 := Int.emod_lt_of_pos (IntKind.u64.wrap c) (show (0 : Int) < n by omega)
  refine ⟨(IntKind.u64.wrap c % (n : Int)).toNat, by omega, ?_⟩
  rw [wrap_i64 _ (by omega) (by omega)]; omega
theorem mbs_len {n : Int} {m : MsgV} (hr : rightM n m = true) : 9 ≤ (mbs m).length ∧ (mbs m).length ≤ 1000000 := by
  have F := rtF hr
  have hd : (hdb m).length = 9 := by unfold hdb; simp only [List.length_append, be_len]
  have he := entb_len F.vs
  have hb := F.box
  have hr1 := F.recs.1
  have hr2 := rcbs_len (k := n.toNat) F.rlen
  have n1 := F.n1
  have : m.recs.length * (16 + 4 * n.toNat) ≤ 10000 * 48 := Nat.mul_le_mul hr1 (by omega)
  unfold mbs tlb
  refine ⟨by rw [List.length_append]; omega, ?_⟩
  split <;> split <;> (try split) <;> (try split) <;> simp only [List.length_append, List.length_nil, be_len, pack_len, hd, hr2] <;> omega

set_option maxRecDepth 8000 in
set_option maxHeartbeats 64000000 in
theorem MessageBack_fs {m : MsgV} {n cut : Int} {b : List Int} {ex : List (List GV)} (h : MsgW m) (hb : byt b) : FS Try.prog 4 [.lit (.int .i64 n), .agg (msG m), .sl false 1 (b.map bG) ex, .lit (.int .i64 cut)] [] (.lit (.bool true)) [] := by
  refine FS.enterG Try.func4 rfl fun R0 hR0 => ?_
  simp only [Try.ntmps4, List.length_cons, List.length_nil, List.replicate_succ, List.replicate_zero, List.cons_append, List.nil_append, Nat.reduceAdd, Nat.reduceSub]
  have hF := few_fs h
  simp only [msG] at hF ⊢
  cases f : fewB m
  · repeat (first | (refine TW.tw ?_; (first | (refine TW.nil ?_; (first | (refine hK0 _ _ ?_; clear hK0 K0) | (refine hK1 _ _ _ (by kernel_rfl) ?_; clear hK1 K1)); try dsimp only [mk_msgBack_4, thenR, blockR, loopR, mk_t, mk_f, mk_n]; try simp only [f, Bool.not_false, Int.toNat_natCast])|(refine TW.ca rfl ?_; first | refine TW.C0 (hF := hS ) (h := ?_)|refine TW.C0 (hF := hE ) (h := ?_)|refine TW.C0 (hF := hC ) (h := ?_)|refine TW.C0 (hF := hF _ _ _) (h := ?_)|refine TW.C0 (hF := hT ) (h := ?_)|refine TW.C0 (hF := hR ) (h := ?_)|refine TW.C0 (hF := hP ) (h := ?_)|refine TW.C0 (hF := hQ ) (h := ?_)|refine TW.RC (ids := [_]) (hF := hM ) (h := ?_)|refine TW.RC (ids := [_, _]) (hF := hE ) (h := ?_)|refine TW.C0 (hF := hH ) (h := ?_)|refine TW.C0 (hF := hA ) (h := ?_)|refine TW.C0 (hF := hRr ) (h := ?_)|refine TW.C0 (hF := hN ) (h := ?_)|(refine TW.kc 8 rfl ?_; first | refine TW.C0 (hF := hF ) (h := ?_)|refine TW.C0 (hF := few_fs (by assumption)) (h := ?_))|(refine TW.kc 17 rfl ?_; first | refine TW.C0 (hF := HBytes_fs (by first | exact mbs_byt _ | exact packR_byt _ _) (by assumption)) (h := ?_)|refine TW.C0 (hF := HBytes_fs (by first | assumption | exact be_byt _ _ | decide) (by first | assumption | exact be_byt _ _ | decide)) (h := ?_))|(refine TW.kc 18 rfl ?_; first | refine TW.C0 (hF := HMessage_fs (by assumption)) (h := ?_))|(refine TW.kc 9 rfl ?_; first | refine TW.C0 (hF := awake6_fs ) (h := ?_))|(refine TW.kc 13 rfl ?_; first | refine TW.C0 (hF := MTake_fs _ (by assumption) (by assumption)) (h := ?_))|(refine TW.kc 11 rfl ?_; first | refine TW.C0 (hF := MPack_fs _ (by assumption)) (h := ?_)))|refine TW.gn (h := ?_)|(simp only [f, Bool.not_false]; refine TW.nm (h := ?_)))) | refine CS.seq fun K hK => ?_|(refine CS.regl mk_msgBack_4 (fun K0 hK0 => ?_); try dsimp only [mp_s, mp_z])|(refine CS.drawl tab mk_msgBack_4 (fun K1 hK1 => ?_); try dsimp only [mp_s, mp_z])|(refine hK _ _ ?_; clear hK K)|(clear hK K; refine hK _ _ ?_; clear hK K)|(clear hK K; clear hK K; refine hK _ _ ?_; clear hK K)|(clear hK K; clear hK K; clear hK K; refine hK _ _ ?_; clear hK K)|((first | refine CS_ret ?_ | refine CS_skip ?_ | refine CS_exit ?_ | rw [if_pos rfl] | rw [if_neg (by decide)]); try dsimp only [thenR, blockR, loopR])|refine CS.blk ?_|refine CS.yes rfl ?_|refine CS.no rfl ?_|simp only [f, Bool.not_false])
    exact hR0 _ _ _ (by exact GS.refl ⟨(by first | exact .inr rfl | exact .inl rfl), _, [], gresT_ok tab rfl, by decide, rfl, rfl, rfl, rfl⟩)
  have ok := fewB_ok h f
  by_cases g : b.length > 3000
  · have dg : decide ((b.length : Int) > 3000) = true := decide_eq_true (by omega)
    repeat (first | (refine TW.tw ?_; (first | (refine TW.nil ?_; (first | (refine hK0 _ _ ?_; clear hK0 K0) | (refine hK1 _ _ _ (by kernel_rfl) ?_; clear hK1 K1)); try dsimp only [mk_msgBack_4, thenR, blockR, loopR, mk_t, mk_f, mk_n]; try simp only [f, dg, Bool.not_true, List.length_map, Int.toNat_natCast])|(refine TW.ca rfl ?_; first | refine TW.C0 (hF := hS ) (h := ?_)|refine TW.C0 (hF := hE ) (h := ?_)|refine TW.C0 (hF := hC ) (h := ?_)|refine TW.C0 (hF := hF _ _ _) (h := ?_)|refine TW.C0 (hF := hT ) (h := ?_)|refine TW.C0 (hF := hR ) (h := ?_)|refine TW.C0 (hF := hP ) (h := ?_)|refine TW.C0 (hF := hQ ) (h := ?_)|refine TW.RC (ids := [_]) (hF := hM ) (h := ?_)|refine TW.RC (ids := [_, _]) (hF := hE ) (h := ?_)|refine TW.C0 (hF := hH ) (h := ?_)|refine TW.C0 (hF := hA ) (h := ?_)|refine TW.C0 (hF := hRr ) (h := ?_)|refine TW.C0 (hF := hN ) (h := ?_)|(refine TW.kc 8 rfl ?_; first | refine TW.C0 (hF := hF ) (h := ?_)|refine TW.C0 (hF := few_fs (by assumption)) (h := ?_))|(refine TW.kc 17 rfl ?_; first | refine TW.C0 (hF := HBytes_fs (by first | exact mbs_byt _ | exact packR_byt _ _) (by assumption)) (h := ?_)|refine TW.C0 (hF := HBytes_fs (by first | assumption | exact be_byt _ _ | decide) (by first | assumption | exact be_byt _ _ | decide)) (h := ?_))|(refine TW.kc 18 rfl ?_; first | refine TW.C0 (hF := HMessage_fs (by assumption)) (h := ?_))|(refine TW.kc 9 rfl ?_; first | refine TW.C0 (hF := awake6_fs ) (h := ?_))|(refine TW.kc 13 rfl ?_; first | refine TW.C0 (hF := MTake_fs _ (by assumption) (by assumption)) (h := ?_))|(refine TW.kc 11 rfl ?_; first | refine TW.C0 (hF := MPack_fs _ (by assumption)) (h := ?_)))|refine TW.gn (h := ?_)|(simp only [f, dg, Bool.not_true, List.length_map]; refine TW.nm (h := ?_)))) | refine CS.seq fun K hK => ?_|(refine CS.regl mk_msgBack_4 (fun K0 hK0 => ?_); try dsimp only [mp_s, mp_z])|(refine CS.drawl tab mk_msgBack_4 (fun K1 hK1 => ?_); try dsimp only [mp_s, mp_z])|(refine hK _ _ ?_; clear hK K)|(clear hK K; refine hK _ _ ?_; clear hK K)|(clear hK K; clear hK K; refine hK _ _ ?_; clear hK K)|(clear hK K; clear hK K; clear hK K; refine hK _ _ ?_; clear hK K)|((first | refine CS_ret ?_ | refine CS_skip ?_ | refine CS_exit ?_ | rw [if_pos rfl] | rw [if_neg (by decide)]); try dsimp only [thenR, blockR, loopR])|refine CS.blk ?_|refine CS.yes rfl ?_|refine CS.no rfl ?_|simp only [f, dg, Bool.not_true, List.length_map])
    exact hR0 _ _ _ (by exact GS.refl ⟨(by first | exact .inr rfl | exact .inl rfl), _, [], gresT_ok tab rfl, by decide, rfl, rfl, rfl, rfl⟩)
  have dg : decide ((b.length : Int) > 3000) = false := decide_eq_false (by omega)
  have hbl : b.length ≤ 1000000000 := by omega
  have hP := MPack_fs n ok
  simp only [msG] at hP
  obtain ⟨q, hq⟩ : ∃ q, takeM n b = q := ⟨_, rfl⟩
  have hqo : MsgOk q.1 := by rw [← hq]; exact takeM_ok n hb
  have hTb : ∀ bw ex, FS Try.prog 13 [.lit (.int .i64 n), .sl bw 1 (b.map bG) ex] [] (.tup [.agg (msG q.1), .lit (.int .i64 q.2)]) [] := fun bw ex => by rw [← hq]; exact MTake_fs n hbl hb
  have hPq := MPack_fs n hqo
  simp only [msG] at hTb hPq
  have hqi : q.2 = 0 → packE n q.1 = 0 ∧ packR n q.1 = b := fun e => by
    rw [← hq] at e ⊢
    obtain ⟨e1, e2⟩ := takeM_is e
    unfold packE packR
    rw [e1, if_pos rfl, if_pos rfl]; exact ⟨rfl, e2⟩
  have hrest : (q.2 != 0) = true ∨ ((q.2 != 0) = false ∧ (packE n q.1 == 0) = true ∧ decide (packR n q.1 = b) = true) := by
    by_cases c : q.2 = 0
    · obtain ⟨e1, e2⟩ := hqi c
      exact .inr ⟨by simpa using c, by simpa using e1, decide_eq_true e2⟩
    · exact .inl (by simpa using c)
  cases hr : rightM n m
  · have e1 : packR n m = [] := by unfold packR; rw [hr]; rfl
    have e2 : packE n m = 4 := by unfold packE; rw [hr]; rfl
    rw [e1, e2] at hP
    rcases hrest with r1 | ⟨r1, r2, r3⟩
    · repeat (first | (refine TW.tw ?_; (first | (refine TW.nil ?_; (first | (refine hK0 _ _ ?_; clear hK0 K0) | (refine hK1 _ _ _ (by kernel_rfl) ?_; clear hK1 K1)); try dsimp only [mk_msgBack_4, thenR, blockR, loopR, mk_t, mk_f, mk_n]; try simp only [f, dg, Bool.not_true, List.map_nil, List.length_map, show ((4 : Int) == 0) = false from rfl, r1, Int.toNat_natCast])|(refine TW.ca rfl ?_; (try simp only [f, dg, Bool.not_true, List.map_nil, List.length_map, show ((4 : Int) == 0) = false from rfl, r1]); first | refine TW.C0 (hF := hS ) (h := ?_)|refine TW.C0 (hF := hE ) (h := ?_)|refine TW.C0 (hF := hC ) (h := ?_)|refine TW.C0 (hF := hF _ _ _) (h := ?_)|refine TW.C0 (hF := hT ) (h := ?_)|refine TW.C0 (hF := hR ) (h := ?_)|refine TW.C0 (hF := hQ ) (h := ?_)|refine TW.RC (ids := [_]) (hF := hM ) (h := ?_)|refine TW.RC (ids := [_, _]) (hF := hE ) (h := ?_)|refine TW.C0 (hF := hH ) (h := ?_)|refine TW.C0 (hF := hA ) (h := ?_)|refine TW.C0 (hF := hRr ) (h := ?_)|refine TW.C0 (hF := hN ) (h := ?_)|(refine TW.kc 11 rfl ?_; first | refine TW.C0 (hF := hPq ) (h := ?_)|refine TW.C0 (hF := hP ) (h := ?_)|refine TW.C0 (hF := MPack_fs _ (by assumption)) (h := ?_))|(refine TW.kc 13 rfl ?_; first | refine TW.C0 (hF := hTb _ _) (h := ?_)|refine TW.C0 (hF := MTake_fs _ (by assumption) (by assumption)) (h := ?_))|(refine TW.kc 8 rfl ?_; first | refine TW.C0 (hF := hF ) (h := ?_)|refine TW.C0 (hF := few_fs (by assumption)) (h := ?_))|(refine TW.kc 17 rfl ?_; first | refine TW.C0 (hF := HBytes_fs (by first | exact mbs_byt _ | exact packR_byt _ _) (by assumption)) (h := ?_)|refine TW.C0 (hF := HBytes_fs (by first | assumption | exact be_byt _ _ | decide) (by first | assumption | exact be_byt _ _ | decide)) (h := ?_))|(refine TW.kc 18 rfl ?_; first | refine TW.C0 (hF := HMessage_fs (by assumption)) (h := ?_))|(refine TW.kc 9 rfl ?_; first | refine TW.C0 (hF := awake6_fs ) (h := ?_)))|refine TW.gn (h := ?_)|(simp only [f, dg, Bool.not_true, List.map_nil, List.length_map, show ((4 : Int) == 0) = false from rfl, r1]; refine TW.nm (h := ?_)))) | refine CS.seq fun K hK => ?_|(refine CS.regl mk_msgBack_4 (fun K0 hK0 => ?_); try dsimp only [mp_s, mp_z])|(refine CS.drawl tab mk_msgBack_4 (fun K1 hK1 => ?_); try dsimp only [mp_s, mp_z])|(refine hK _ _ ?_; clear hK K)|(clear hK K; refine hK _ _ ?_; clear hK K)|(clear hK K; clear hK K; refine hK _ _ ?_; clear hK K)|(clear hK K; clear hK K; clear hK K; refine hK _ _ ?_; clear hK K)|((first | refine CS_ret ?_ | refine CS_skip ?_ | refine CS_exit ?_ | rw [if_pos rfl] | rw [if_neg (by decide)]); try dsimp only [thenR, blockR, loopR])|refine CS.blk ?_|refine CS.yes rfl ?_|refine CS.no rfl ?_|simp only [f, dg, Bool.not_true, List.map_nil, List.length_map, show ((4 : Int) == 0) = false from rfl, r1])
      exact hR0 _ _ _ (by exact GS.refl ⟨(by first | exact .inr rfl | exact .inl rfl), _, [], gresT_ok tab rfl, by decide, rfl, rfl, rfl, rfl⟩)
    · repeat (first | (refine TW.tw ?_; (first | (refine TW.nil ?_; (first | (refine hK0 _ _ ?_; clear hK0 K0) | (refine hK1 _ _ _ (by kernel_rfl) ?_; clear hK1 K1)); try dsimp only [mk_msgBack_4, thenR, blockR, loopR, mk_t, mk_f, mk_n]; try simp only [f, dg, Bool.not_true, List.map_nil, List.length_map, show ((4 : Int) == 0) = false from rfl, r1, r2, r3, Int.toNat_natCast])|(refine TW.ca rfl ?_; (try simp only [f, dg, Bool.not_true, List.map_nil, List.length_map, show ((4 : Int) == 0) = false from rfl, r1, r2, r3]); first | refine TW.C0 (hF := hS ) (h := ?_)|refine TW.C0 (hF := hE ) (h := ?_)|refine TW.C0 (hF := hC ) (h := ?_)|refine TW.C0 (hF := hF _ _ _) (h := ?_)|refine TW.C0 (hF := hT ) (h := ?_)|refine TW.C0 (hF := hR ) (h := ?_)|refine TW.C0 (hF := hQ ) (h := ?_)|refine TW.RC (ids := [_]) (hF := hM ) (h := ?_)|refine TW.RC (ids := [_, _]) (hF := hE ) (h := ?_)|refine TW.C0 (hF := hH ) (h := ?_)|refine TW.C0 (hF := hA ) (h := ?_)|refine TW.C0 (hF := hRr ) (h := ?_)|refine TW.C0 (hF := hN ) (h := ?_)|(refine TW.kc 11 rfl ?_; first | refine TW.C0 (hF := hPq ) (h := ?_)|refine TW.C0 (hF := hP ) (h := ?_)|refine TW.C0 (hF := MPack_fs _ (by assumption)) (h := ?_))|(refine TW.kc 13 rfl ?_; first | refine TW.C0 (hF := hTb _ _) (h := ?_)|refine TW.C0 (hF := MTake_fs _ (by assumption) (by assumption)) (h := ?_))|(refine TW.kc 8 rfl ?_; first | refine TW.C0 (hF := hF ) (h := ?_)|refine TW.C0 (hF := few_fs (by assumption)) (h := ?_))|(refine TW.kc 17 rfl ?_; first | refine TW.C0 (hF := HBytes_fs (by first | exact mbs_byt _ | exact packR_byt _ _) (by assumption)) (h := ?_)|refine TW.C0 (hF := HBytes_fs (by first | assumption | exact be_byt _ _ | decide) (by first | assumption | exact be_byt _ _ | decide)) (h := ?_))|(refine TW.kc 18 rfl ?_; first | refine TW.C0 (hF := HMessage_fs (by assumption)) (h := ?_))|(refine TW.kc 9 rfl ?_; first | refine TW.C0 (hF := awake6_fs ) (h := ?_)))|refine TW.gn (h := ?_)|(simp only [f, dg, Bool.not_true, List.map_nil, List.length_map, show ((4 : Int) == 0) = false from rfl, r1, r2, r3]; refine TW.nm (h := ?_)))) | refine CS.seq fun K hK => ?_|(refine CS.regl mk_msgBack_4 (fun K0 hK0 => ?_); try dsimp only [mp_s, mp_z])|(refine CS.drawl tab mk_msgBack_4 (fun K1 hK1 => ?_); try dsimp only [mp_s, mp_z])|(refine hK _ _ ?_; clear hK K)|(clear hK K; refine hK _ _ ?_; clear hK K)|(clear hK K; clear hK K; refine hK _ _ ?_; clear hK K)|(clear hK K; clear hK K; clear hK K; refine hK _ _ ?_; clear hK K)|((first | refine CS_ret ?_ | refine CS_skip ?_ | refine CS_exit ?_ | rw [if_pos rfl] | rw [if_neg (by decide)]); try dsimp only [thenR, blockR, loopR])|refine CS.blk ?_|refine CS.yes rfl ?_|refine CS.no rfl ?_|simp only [f, dg, Bool.not_true, List.map_nil, List.length_map, show ((4 : Int) == 0) = false from rfl, r1, r2, r3])
      exact hR0 _ _ _ (by exact GS.refl ⟨(by first | exact .inr rfl | exact .inl rfl), _, [], gresT_ok tab rfl, by decide, rfl, rfl, rfl, rfl⟩)
  have e1 : packR n m = mbs m := by unfold packR; rw [hr]; rfl
  have e2 : packE n m = 0 := by unfold packE; rw [hr]; rfl
  rw [e1, e2] at hP
  obtain ⟨l9, l6⟩ := mbs_len hr
  have hmb := mbs_byt m
  obtain ⟨j, hj, ej⟩ := cut_mod cut (n := (mbs m).length) (by omega) (by omega)
  have hne : IntKind.u64.wrap ((mbs m).length : Int) ≠ 0 := by rw [wrap_u64]; omega
  have t1 := take_mbs ok hr
  have t2 := take_cut ok hr hj
  have t3 := take_more ok hr
  have hS := HMessage_fs (a := nox m) (b := m) (nox_ok ok)
  rw [msq_nox] at hS
  obtain ⟨X, hX⟩ : ∃ X, mbs m = X := ⟨_, rfl⟩
  rw [hX] at hP l9 l6 hmb hj ej hne t1 t2 t3
  have hT1 : ∀ bw ex, FS Try.prog 13 [.lit (.int .i64 n), .sl bw 1 (X.map bG) ex] [] (.tup [.agg (msG (nox m)), .lit (.int .i64 0)]) [] := fun bw ex => by have := MTake_fs (bw := bw) (b := X) (ex := ex) n (by omega) hmb; rwa [t1] at this
  have hT2 : ∀ bw ex, FS Try.prog 13 [.lit (.int .i64 n), .sl bw 1 ((X.map bG).take j) ex] [] (.tup [.agg (msG msgz), .lit (.int .i64 3)]) [] := fun bw ex => by
    have := MTake_fs (bw := bw) (b := X.take j) (ex := ex) n (by rw [List.length_take]; omega) (fun c hc => hmb c (List.mem_of_mem_take hc))
    rwa [t2, List.map_take] at this
  have hT3 : ∀ bw ex, FS Try.prog 13 [.lit (.int .i64 n), .sl bw 1 (X.map bG ++ [[.lit (.int .u8 0)]]) ex] [] (.tup [.agg (msG msgz), .lit (.int .i64 4)]) [] := fun bw ex => by
    have := MTake_fs (bw := bw) (b := X ++ [0]) (ex := ex) n (by rw [List.length_append]; simp; omega) (byt_app hmb fun c hc => by simp at hc; omega)
    rwa [t3, List.map_append] at this
  simp only [msG, nox, noxR] at hT1 hS
  simp only [msG, msgz, rec0] at hT2 hT3
  have hz : ((X.length : Int) == 0) = false := beq_eq_false_iff_ne.2 (by omega)
  have hI0 : (0 : Int) ≤ (j : Int) := by omega
  have hI1 : (j : Int) ≤ ((X.map bG).length : Int) := by rw [List.length_map]; omega
  have hI2 : (j : Int) ≤ (X.length : Int) := by omega
  have hb1 : (X.map bG).length ≤ 137438953472 := by rw [List.length_map]; omega
  have hb2 : (X.map bG).length + 1 ≤ 137438953472 := by rw [List.length_map]; omega
  rcases hrest with r1 | ⟨r1, r2, r3⟩
  · repeat (first | (refine TW.tw ?_; (first | (refine TW.nil ?_; (first | (refine hK0 _ _ ?_; clear hK0 K0) | (refine hK1 _ _ _ (by kernel_rfl) ?_; clear hK1 K1)); try dsimp only [mk_msgBack_4, thenR, blockR, loopR, mk_t, mk_f, mk_n]; try simp only [f, dg, Bool.not_true, List.length_map, show ((0 : Int) == 0) = true from rfl, d00, hz, ej, List.drop_zero, show ((3 : Int) != 3) = false from rfl, show ((4 : Int) != 4) = false from rfl, r1, Int.toNat_natCast])|(refine TW.ca rfl ?_; (try simp only [f, dg, Bool.not_true, List.length_map, show ((0 : Int) == 0) = true from rfl, d00, hz, ej, List.drop_zero, show ((3 : Int) != 3) = false from rfl, show ((4 : Int) != 4) = false from rfl, r1]); first | refine TW.C0 (hF := hE ) (h := ?_)|refine TW.C0 (hF := hC ) (h := ?_)|refine TW.C0 (hF := hF _ _ _) (h := ?_)|refine TW.C0 (hF := hT ) (h := ?_)|refine TW.C0 (hF := hR ) (h := ?_)|refine TW.C0 (hF := hQ ) (h := ?_)|refine TW.RC (ids := [_]) (hF := hM ) (h := ?_)|refine TW.RC (ids := [_, _]) (hF := hE ) (h := ?_)|refine TW.C0 (hF := hH ) (h := ?_)|refine TW.C0 (hF := hA ) (h := ?_)|refine TW.C0 (hF := hRr ) (h := ?_)|refine TW.C0 (hF := hN ) (h := ?_)|(refine TW.kc 18 rfl ?_; first | refine TW.C0 (hF := hS ) (h := ?_)|refine TW.C0 (hF := HMessage_fs (by assumption)) (h := ?_))|(refine TW.kc 13 rfl ?_; first | refine TW.C0 (hF := hT3 _ _) (h := ?_)|refine TW.C0 (hF := hT2 _ _) (h := ?_)|refine TW.C0 (hF := hT1 _ _) (h := ?_)|refine TW.C0 (hF := hTb _ _) (h := ?_)|refine TW.C0 (hF := MTake_fs _ (by assumption) (by assumption)) (h := ?_))|(refine TW.kc 11 rfl ?_; first | refine TW.C0 (hF := hPq ) (h := ?_)|refine TW.C0 (hF := hP ) (h := ?_)|refine TW.C0 (hF := MPack_fs _ (by assumption)) (h := ?_))|(refine TW.kc 8 rfl ?_; first | refine TW.C0 (hF := hF ) (h := ?_)|refine TW.C0 (hF := few_fs (by assumption)) (h := ?_))|(refine TW.kc 17 rfl ?_; first | refine TW.C0 (hF := HBytes_fs (by first | exact mbs_byt _ | exact packR_byt _ _) (by assumption)) (h := ?_)|refine TW.C0 (hF := HBytes_fs (by first | assumption | exact be_byt _ _ | decide) (by first | assumption | exact be_byt _ _ | decide)) (h := ?_))|(refine TW.kc 9 rfl ?_; first | refine TW.C0 (hF := awake6_fs ) (h := ?_)))|refine TW.gn (h := ?_)|(simp only [f, dg, Bool.not_true, List.length_map, show ((0 : Int) == 0) = true from rfl, d00, hz, ej, List.drop_zero, show ((3 : Int) != 3) = false from rfl, show ((4 : Int) != 4) = false from rfl, r1]; refine TW.nm (h := ?_)))) | refine CS.seq fun K hK => ?_|(refine CS.regl mk_msgBack_4 (fun K0 hK0 => ?_); try dsimp only [mp_s, mp_z])|(refine CS.drawl tab mk_msgBack_4 (fun K1 hK1 => ?_); try dsimp only [mp_s, mp_z])|(refine hK _ _ ?_; clear hK K)|(clear hK K; refine hK _ _ ?_; clear hK K)|(clear hK K; clear hK K; refine hK _ _ ?_; clear hK K)|(clear hK K; clear hK K; clear hK K; refine hK _ _ ?_; clear hK K)|((first | refine CS_ret ?_ | refine CS_skip ?_ | refine CS_exit ?_ | rw [if_pos rfl] | rw [if_neg (by decide)]); try dsimp only [thenR, blockR, loopR])|refine CS.blk ?_|refine CS.yes rfl ?_|refine CS.no rfl ?_|simp only [f, dg, Bool.not_true, List.length_map, show ((0 : Int) == 0) = true from rfl, d00, hz, ej, List.drop_zero, show ((3 : Int) != 3) = false from rfl, show ((4 : Int) != 4) = false from rfl, r1])
    exact hR0 _ _ _ (by exact GS.refl ⟨(by first | exact .inr rfl | exact .inl rfl), _, [], gresT_ok tab rfl, by decide, rfl, rfl, rfl, rfl⟩)
  · repeat (first | (refine TW.tw ?_; (first | (refine TW.nil ?_; (first | (refine hK0 _ _ ?_; clear hK0 K0) | (refine hK1 _ _ _ (by kernel_rfl) ?_; clear hK1 K1)); try dsimp only [mk_msgBack_4, thenR, blockR, loopR, mk_t, mk_f, mk_n]; try simp only [f, dg, Bool.not_true, List.length_map, show ((0 : Int) == 0) = true from rfl, d00, hz, ej, List.drop_zero, show ((3 : Int) != 3) = false from rfl, show ((4 : Int) != 4) = false from rfl, r1, r2, r3, Int.toNat_natCast])|(refine TW.ca rfl ?_; (try simp only [f, dg, Bool.not_true, List.length_map, show ((0 : Int) == 0) = true from rfl, d00, hz, ej, List.drop_zero, show ((3 : Int) != 3) = false from rfl, show ((4 : Int) != 4) = false from rfl, r1, r2, r3]); first | refine TW.C0 (hF := hE ) (h := ?_)|refine TW.C0 (hF := hC ) (h := ?_)|refine TW.C0 (hF := hF _ _ _) (h := ?_)|refine TW.C0 (hF := hT ) (h := ?_)|refine TW.C0 (hF := hR ) (h := ?_)|refine TW.C0 (hF := hQ ) (h := ?_)|refine TW.RC (ids := [_]) (hF := hM ) (h := ?_)|refine TW.RC (ids := [_, _]) (hF := hE ) (h := ?_)|refine TW.C0 (hF := hH ) (h := ?_)|refine TW.C0 (hF := hA ) (h := ?_)|refine TW.C0 (hF := hRr ) (h := ?_)|refine TW.C0 (hF := hN ) (h := ?_)|(refine TW.kc 18 rfl ?_; first | refine TW.C0 (hF := hS ) (h := ?_)|refine TW.C0 (hF := HMessage_fs (by assumption)) (h := ?_))|(refine TW.kc 13 rfl ?_; first | refine TW.C0 (hF := hT3 _ _) (h := ?_)|refine TW.C0 (hF := hT2 _ _) (h := ?_)|refine TW.C0 (hF := hT1 _ _) (h := ?_)|refine TW.C0 (hF := hTb _ _) (h := ?_)|refine TW.C0 (hF := MTake_fs _ (by assumption) (by assumption)) (h := ?_))|(refine TW.kc 11 rfl ?_; first | refine TW.C0 (hF := hPq ) (h := ?_)|refine TW.C0 (hF := hP ) (h := ?_)|refine TW.C0 (hF := MPack_fs _ (by assumption)) (h := ?_))|(refine TW.kc 8 rfl ?_; first | refine TW.C0 (hF := hF ) (h := ?_)|refine TW.C0 (hF := few_fs (by assumption)) (h := ?_))|(refine TW.kc 17 rfl ?_; first | refine TW.C0 (hF := HBytes_fs (by first | exact mbs_byt _ | exact packR_byt _ _) (by assumption)) (h := ?_)|refine TW.C0 (hF := HBytes_fs (by first | assumption | exact be_byt _ _ | decide) (by first | assumption | exact be_byt _ _ | decide)) (h := ?_))|(refine TW.kc 9 rfl ?_; first | refine TW.C0 (hF := awake6_fs ) (h := ?_)))|refine TW.gn (h := ?_)|(simp only [f, dg, Bool.not_true, List.length_map, show ((0 : Int) == 0) = true from rfl, d00, hz, ej, List.drop_zero, show ((3 : Int) != 3) = false from rfl, show ((4 : Int) != 4) = false from rfl, r1, r2, r3]; refine TW.nm (h := ?_)))) | refine CS.seq fun K hK => ?_|(refine CS.regl mk_msgBack_4 (fun K0 hK0 => ?_); try dsimp only [mp_s, mp_z])|(refine CS.drawl tab mk_msgBack_4 (fun K1 hK1 => ?_); try dsimp only [mp_s, mp_z])|(refine hK _ _ ?_; clear hK K)|(clear hK K; refine hK _ _ ?_; clear hK K)|(clear hK K; clear hK K; refine hK _ _ ?_; clear hK K)|(clear hK K; clear hK K; clear hK K; refine hK _ _ ?_; clear hK K)|((first | refine CS_ret ?_ | refine CS_skip ?_ | refine CS_exit ?_ | rw [if_pos rfl] | rw [if_neg (by decide)]); try dsimp only [thenR, blockR, loopR])|refine CS.blk ?_|refine CS.yes rfl ?_|refine CS.no rfl ?_|simp only [f, dg, Bool.not_true, List.length_map, show ((0 : Int) == 0) = true from rfl, d00, hz, ej, List.drop_zero, show ((3 : Int) != 3) = false from rfl, show ((4 : Int) != 4) = false from rfl, r1, r2, r3])
    exact hR0 _ _ _ (by exact GS.refl ⟨(by first | exact .inr rfl | exact .inl rfl), _, [], gresT_ok tab rfl, by decide, rfl, rfl, rfl, rfl⟩)
end Go.Gh

