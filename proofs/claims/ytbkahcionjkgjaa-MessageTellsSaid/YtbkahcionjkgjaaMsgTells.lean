import Derived.Test.YtbkahcionjkgjaaMsgLaw0
import Derived.Test.YtbkahcionjkgjaaMsgSame
import Derived.Test.YtbkahcionjkgjaaMsgTakeR
import Derived.Test.YtbkahcionjkgjaaSameByte

namespace Go.Gh
def mk_msgTells_3 : List Bool := [true, true, true, false, true, false, true, true, true, true, true, true, true, true, true, true, false, false, false, false, false, false, false, true, false, false, false, false, false, false, false, false, false, false, false, false, false, false, false, false, false, false, false, false, false, false, false, false, false, false, false, false, false, false, false, false, false, false, false, false, false, false, false, false, false, false, false, false, false, false, false, false, false, false, false, false, false, false, false, false, false, false, false, false, false, false]
open Go.Proofs
set_option linter.unusedVariables false
set_option linter.unusedSimpArgs false

/-! Layer 6: MessageTells. -/
theorem rcq_refl (r : RecV) : rcq r r = true := by
  unfold rcq
  simp only [beq_self_eq_true, Bool.true_and]
  exact samb_refl eqi_refl _
theorem msq_refl (m : MsgV) : msq m m = true := by
  have h1 : samb rgq m.box m.box = true := samb_refl rgq_refl _
  have h2 : samb rcq m.recs m.recs = true := samb_refl rcq_refl _
  have h3 : enq m m = true := by unfold enq; simp only [beq_self_eq_true, Bool.true_and]; exact rcq_refl m.er
  unfold msq
  rw [h1, h2, h3]
  simp only [beq_self_eq_true, Bool.and_self]
theorem takeM_ok' (n : Int) {b : List Int} (hb : byt b) : MsgOk (takeM n b).1 := by
  have a0 : sok (b, (0 : Int)) := ⟨hb, .inl rfl⟩
  have a1 := a0.nx 1
  have a2 := a1.nx 1
  have a3 := a2.nx 1
  have a4 := a3.nx 2
  have a5 := a4.nx 4
  have rP : u32r (hP (b, 0)) := gt4 a4
  have hz : MsgOk msgz := ⟨u0, u0, u0, u0, rec0_ok, u0, u0, fun r hr => by simp [msgz] at hr, by simp [msgz], fun r hr => by simp [msgz] at hr, by simp [msgz]⟩
  unfold takeM
  split
  · rename_i h
    have hn := wth_t h
    unfold endM
    split
    · exact hz
    · split
      · unfold rdm rdk
        split
        · exact rdA_ok a5 rP hn.2
        · split
          · exact rdQ_ok a5 rP
          · split
            · exact rdW_ok a5 rP hn.2
            · exact rdZ_ok (t := hS (b, 0)) rP
      · exact hz
  · exact hz

set_option maxRecDepth 8000 in
set_option maxHeartbeats 64000000 in
theorem MessageTells_fs {m : MsgV} {n : Int} {b : List Int} {ex : List (List GV)} (h : MsgW m) (hb : byt b) : FS Try.prog 3 [.lit (.int .i64 n), .agg (msG m), .sl false 1 (b.map bG) ex] [] (.lit (.bool true)) [] := by
  refine FS.enterG Try.func3 rfl fun R0 hR0 => ?_
  simp only [Try.ntmps3, List.length_cons, List.length_nil, List.replicate_succ, List.replicate_zero, List.cons_append, List.nil_append, Nat.reduceAdd, Nat.reduceSub]
  have hF := few_fs h
  simp only [msG] at hF ⊢
  cases f : fewB m
  · repeat (first | (refine TW.tw ?_; (first | (refine TW.nil ?_; (first | (refine hK0 _ _ ?_; clear hK0 K0) | (refine hK1 _ _ _ (by kernel_rfl) ?_; clear hK1 K1)); try dsimp only [mk_msgTells_3, thenR, blockR, loopR, mk_t, mk_f, mk_n]; try simp only [f, Bool.not_false, Int.toNat_natCast])|(refine TW.ca rfl ?_; first | refine TW.C0 (hF := hT ) (h := ?_)|refine TW.C0 (hF := hR ) (h := ?_)|refine TW.C0 (hF := hP ) (h := ?_)|refine TW.C0 (hF := hQ ) (h := ?_)|refine TW.RC (ids := [_]) (hF := hM ) (h := ?_)|refine TW.RC (ids := [_, _]) (hF := hE ) (h := ?_)|refine TW.C0 (hF := hH ) (h := ?_)|refine TW.C0 (hF := hA ) (h := ?_)|refine TW.C0 (hF := hRr ) (h := ?_)|refine TW.C0 (hF := hN ) (h := ?_)|refine TW.C0 (hF := hF _ _ _) (h := ?_)|(refine TW.kc 8 rfl ?_; first | refine TW.C0 (hF := hF ) (h := ?_)|refine TW.C0 (hF := few_fs (by assumption)) (h := ?_))|(refine TW.kc 17 rfl ?_; first | refine TW.C0 (hF := HBytes_fs (by assumption) (by assumption)) (h := ?_)|refine TW.C0 (hF := HBytes_fs (by first | assumption | exact be_byt _ _ | decide) (by first | assumption | exact be_byt _ _ | decide)) (h := ?_))|(refine TW.kc 9 rfl ?_; first | refine TW.C0 (hF := awake6_fs ) (h := ?_))|(refine TW.kc 13 rfl ?_; first | refine TW.C0 (hF := MTake_fs _ (by assumption) (by assumption)) (h := ?_))|(refine TW.kc 11 rfl ?_; first | refine TW.C0 (hF := MPack_fs _ (by assumption)) (h := ?_))|(refine TW.kc 15 rfl ?_; first | refine TW.C0 (hF := MRight_fs _ (by assumption)) (h := ?_))|(refine TW.kc 19 rfl ?_; first | refine TW.C0 (hF := KeptByte_fs (by first | assumption | omega)) (h := ?_))|(refine TW.kc 10 rfl ?_; first | refine TW.C0 (hF := OwnByte_fs (by first | assumption | (simp only [List.length_map]; omega))) (h := ?_)))|refine TW.gn (h := ?_)|(simp only [f, Bool.not_false]; refine TW.nm (h := ?_)))) | refine CS.seq fun K hK => ?_|(refine CS.regl mk_msgTells_3 (fun K0 hK0 => ?_); try dsimp only [mp_s, mp_z])|(refine CS.drawl tab mk_msgTells_3 (fun K1 hK1 => ?_); try dsimp only [mp_s, mp_z])|(refine hK _ _ ?_; clear hK K)|(clear hK K; refine hK _ _ ?_; clear hK K)|(clear hK K; clear hK K; refine hK _ _ ?_; clear hK K)|((first | refine CS_ret ?_ | refine CS_skip ?_ | refine CS_exit ?_ | rw [if_pos rfl] | rw [if_neg (by decide)]); try dsimp only [thenR, blockR, loopR])|refine CS.blk ?_|refine CS.yes rfl ?_|refine CS.no rfl ?_|simp only [f, Bool.not_false])
    exact hR0 _ _ _ (TW.fk [])
  have ok := fewB_ok h f
  by_cases g : b.length > 3000
  · have dg : decide ((b.length : Int) > 3000) = true := decide_eq_true (by omega)
    repeat (first | (refine TW.tw ?_; (first | (refine TW.nil ?_; (first | (refine hK0 _ _ ?_; clear hK0 K0) | (refine hK1 _ _ _ (by kernel_rfl) ?_; clear hK1 K1)); try dsimp only [mk_msgTells_3, thenR, blockR, loopR, mk_t, mk_f, mk_n]; try simp only [f, dg, Bool.not_true, List.length_map, Int.toNat_natCast])|(refine TW.ca rfl ?_; first | refine TW.C0 (hF := hT ) (h := ?_)|refine TW.C0 (hF := hR ) (h := ?_)|refine TW.C0 (hF := hP ) (h := ?_)|refine TW.C0 (hF := hQ ) (h := ?_)|refine TW.RC (ids := [_]) (hF := hM ) (h := ?_)|refine TW.RC (ids := [_, _]) (hF := hE ) (h := ?_)|refine TW.C0 (hF := hH ) (h := ?_)|refine TW.C0 (hF := hA ) (h := ?_)|refine TW.C0 (hF := hRr ) (h := ?_)|refine TW.C0 (hF := hN ) (h := ?_)|refine TW.C0 (hF := hF _ _ _) (h := ?_)|(refine TW.kc 8 rfl ?_; first | refine TW.C0 (hF := hF ) (h := ?_)|refine TW.C0 (hF := few_fs (by assumption)) (h := ?_))|(refine TW.kc 17 rfl ?_; first | refine TW.C0 (hF := HBytes_fs (by assumption) (by assumption)) (h := ?_)|refine TW.C0 (hF := HBytes_fs (by first | assumption | exact be_byt _ _ | decide) (by first | assumption | exact be_byt _ _ | decide)) (h := ?_))|(refine TW.kc 9 rfl ?_; first | refine TW.C0 (hF := awake6_fs ) (h := ?_))|(refine TW.kc 13 rfl ?_; first | refine TW.C0 (hF := MTake_fs _ (by assumption) (by assumption)) (h := ?_))|(refine TW.kc 11 rfl ?_; first | refine TW.C0 (hF := MPack_fs _ (by assumption)) (h := ?_))|(refine TW.kc 15 rfl ?_; first | refine TW.C0 (hF := MRight_fs _ (by assumption)) (h := ?_))|(refine TW.kc 19 rfl ?_; first | refine TW.C0 (hF := KeptByte_fs (by first | assumption | omega)) (h := ?_))|(refine TW.kc 10 rfl ?_; first | refine TW.C0 (hF := OwnByte_fs (by first | assumption | (simp only [List.length_map]; omega))) (h := ?_)))|refine TW.gn (h := ?_)|(simp only [f, dg, Bool.not_true, List.length_map]; refine TW.nm (h := ?_)))) | refine CS.seq fun K hK => ?_|(refine CS.regl mk_msgTells_3 (fun K0 hK0 => ?_); try dsimp only [mp_s, mp_z])|(refine CS.drawl tab mk_msgTells_3 (fun K1 hK1 => ?_); try dsimp only [mp_s, mp_z])|(refine hK _ _ ?_; clear hK K)|(clear hK K; refine hK _ _ ?_; clear hK K)|(clear hK K; clear hK K; refine hK _ _ ?_; clear hK K)|((first | refine CS_ret ?_ | refine CS_skip ?_ | refine CS_exit ?_ | rw [if_pos rfl] | rw [if_neg (by decide)]); try dsimp only [thenR, blockR, loopR])|refine CS.blk ?_|refine CS.yes rfl ?_|refine CS.no rfl ?_|simp only [f, dg, Bool.not_true, List.length_map])
    exact hR0 _ _ _ (TW.fk [])
  have dg : decide ((b.length : Int) > 3000) = false := decide_eq_false (by omega)
  have hb6 : b.length ≤ 1000000 := by omega
  have hP := MPack_fs n ok
  have hP2 := R6Pack_fs n ok
  have hR := MRight_fs n ok
  have hR2 := R6Right_fs n ok
  have hX := packR_byt n m
  obtain ⟨X, eX⟩ : ∃ X, packR n m = X := ⟨_, rfl⟩
  obtain ⟨E, eE⟩ : ∃ E, packE n m = E := ⟨_, rfl⟩
  obtain ⟨r, er⟩ : ∃ r, rightM n m = r := ⟨_, rfl⟩
  rw [eX] at hX
  rw [eX, eE] at hP hP2
  rw [er] at hR hR2
  simp only [msG] at hP hP2 hR hR2
  have hT : ∀ ex, FS Try.prog 13 [.lit (.int .i64 n), .sl false 1 (b.map bG) ex] [] (.tup [.agg (msG (takeM n b).1), .lit (.int .i64 (takeM n b).2)]) [] := fun ex => MTake_fs n (by omega) hb
  have hT2 : ∀ ex, FS Try.prog 14 [.lit (.int .i64 n), .sl false 1 (b.map bG) ex] [] (.tup [.agg (msG (takeM n b).1), .lit (.int .i64 (takeM n b).2)]) [] := fun ex => R6Take_fs n (by omega) hb
  have hqo := takeM_ok' n hb
  obtain ⟨q, hq⟩ : ∃ q, takeM n b = q := ⟨_, rfl⟩
  rw [hq] at hqo
  simp only [hq] at hT hT2
  have hS := HMessage_fs (a := q.1) (b := q.1) hqo
  rw [msq_refl] at hS
  simp only [msG] at hT hT2 hS
  have b1 : (r == r) = true := by simp
  have b2 : decide (X = X) = true := decide_eq_true rfl
  have b3 : (E == E) = true := by simp
  have b4 : (q.2 == q.2) = true := by simp
  have b5 : samb eqi b b = true := samb_refl eqi_refl b
  have hO := OwnByte_fs (bw := false) (xs := b.map bG) (ex := ex) (by rw [List.length_map]; exact hb6)
  repeat (first | (refine TW.tw ?_; (first | (refine TW.nil ?_; (first | (refine hK0 _ _ ?_; clear hK0 K0) | (refine hK1 _ _ _ (by kernel_rfl) ?_; clear hK1 K1)); try dsimp only [mk_msgTells_3, thenR, blockR, loopR, mk_t, mk_f, mk_n]; try simp only [f, dg, Bool.not_true, List.length_map, b1, b2, b3, b4, b5, Int.toNat_natCast])|(refine TW.ca rfl ?_; (try simp only [f, dg, Bool.not_true, List.length_map, b1, b2, b3, b4, b5]); first | refine TW.C0 (hF := hT ) (h := ?_)|refine TW.C0 (hF := hQ ) (h := ?_)|refine TW.RC (ids := [_]) (hF := hM ) (h := ?_)|refine TW.RC (ids := [_, _]) (hF := hE ) (h := ?_)|refine TW.C0 (hF := hH ) (h := ?_)|refine TW.C0 (hF := hA ) (h := ?_)|refine TW.C0 (hF := hRr ) (h := ?_)|refine TW.C0 (hF := hN ) (h := ?_)|refine TW.C0 (hF := hF _ _ _) (h := ?_)|(refine TW.kc 10 rfl ?_; first | refine TW.C0 (hF := hO ) (h := ?_)|refine TW.C0 (hF := OwnByte_fs (by first | assumption | (simp only [List.length_map]; omega))) (h := ?_))|(refine TW.kc 18 rfl ?_; first | refine TW.C0 (hF := hS ) (h := ?_))|(refine TW.kc 14 rfl ?_; first | refine TW.C0 (hF := hT2 _) (h := ?_))|(refine TW.kc 13 rfl ?_; first | refine TW.C0 (hF := hT _) (h := ?_)|refine TW.C0 (hF := MTake_fs _ (by assumption) (by assumption)) (h := ?_))|(refine TW.kc 16 rfl ?_; first | refine TW.C0 (hF := hR2 ) (h := ?_))|(refine TW.kc 15 rfl ?_; first | refine TW.C0 (hF := hR ) (h := ?_)|refine TW.C0 (hF := MRight_fs _ (by assumption)) (h := ?_))|(refine TW.kc 12 rfl ?_; first | refine TW.C0 (hF := hP2 ) (h := ?_))|(refine TW.kc 11 rfl ?_; first | refine TW.C0 (hF := hP ) (h := ?_)|refine TW.C0 (hF := MPack_fs _ (by assumption)) (h := ?_))|(refine TW.kc 8 rfl ?_; first | refine TW.C0 (hF := hF ) (h := ?_)|refine TW.C0 (hF := few_fs (by assumption)) (h := ?_))|(refine TW.kc 17 rfl ?_; first | refine TW.C0 (hF := HBytes_fs (by assumption) (by assumption)) (h := ?_)|refine TW.C0 (hF := HBytes_fs (by first | assumption | exact be_byt _ _ | decide) (by first | assumption | exact be_byt _ _ | decide)) (h := ?_))|(refine TW.kc 9 rfl ?_; first | refine TW.C0 (hF := awake6_fs ) (h := ?_))|(refine TW.kc 19 rfl ?_; first | refine TW.C0 (hF := KeptByte_fs (by first | assumption | omega)) (h := ?_)))|refine TW.gn (h := ?_)|(simp only [f, dg, Bool.not_true, List.length_map, b1, b2, b3, b4, b5]; refine TW.nm (h := ?_)))) | refine CS.seq fun K hK => ?_|(refine CS.regl mk_msgTells_3 (fun K0 hK0 => ?_); try dsimp only [mp_s, mp_z])|(refine CS.drawl tab mk_msgTells_3 (fun K1 hK1 => ?_); try dsimp only [mp_s, mp_z])|(refine hK _ _ ?_; clear hK K)|(clear hK K; refine hK _ _ ?_; clear hK K)|(clear hK K; clear hK K; refine hK _ _ ?_; clear hK K)|((first | refine CS_ret ?_ | refine CS_skip ?_ | refine CS_exit ?_ | rw [if_pos rfl] | rw [if_neg (by decide)]); try dsimp only [thenR, blockR, loopR])|refine CS.blk ?_|refine CS.yes rfl ?_|refine CS.no rfl ?_|simp only [f, dg, Bool.not_true, List.length_map, b1, b2, b3, b4, b5])
  exact hR0 _ _ _ (TW.fk [])
end Go.Gh

