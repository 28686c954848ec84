import Derived.Test.YtbkahcionjkgjaaMsgPack

namespace Go.Gh
def mk_msgPack2_11 : List Bool := [true, true, false, true, true, true, true, true, false, true, false, false, false, true, false, false, false, false, false, false, false, false, false, false, false, false, false, false, false, false, false, false, false, false, false, false, false, false, false, false, false, false, false, false, false, false, false, false, false, false, false, false, false, true, false, false, false, false, false, true, false, false, false, false, false, false, false, false, false, true, true, false, false, false, false, false, false, false, false, false, false, false, true, false, false, false, false, false, false, false, false, false, false, false, false, false, false, true, true, true, true, false, false, false, false, false, false, false, false]
open Go.Proofs
set_option linter.unusedVariables false
set_option linter.unusedSimpArgs false

/-! Layer 6: a message as bytes. -/
structure RtF (n : Int) (m : MsgV) : Prop where
  n0 : 1 ≤ n
  n1 : n ≤ 8
  k : wth m.kind 1 6 = true
  k0 : 1 ≤ m.kind
  k1 : m.kind ≤ 6
  h0 : 0 ≤ m.hub
  h1 : m.hub < n
  c0 : 0 ≤ m.client
  c1 : m.client ≤ 15
  o0 : 1 ≤ m.op
  o1 : m.op ≤ 500
  p0 : 0 ≤ m.hops
  p1 : m.hops ≤ 100
  t0 : 0 ≤ m.turn
  t1 : m.turn ≤ 2147483647
  held : heldB n m = true
  ask : askB n m = true
  num : numB m = true
theorem rtF {n : Int} {m : MsgV} (h : rightM n m = true) : RtF n m := by
  have h' := h
  simp only [rightM, hdrB, numB, Bool.and_eq_true] at h
  obtain ⟨⟨a1, a2, a3, a4, a5, a6⟩, ⟨b1, b2, b3, b4⟩, c1, c2⟩ := h
  have w1 := wth_t a1; have w2 := wth_t a2; have w3 := wth_t a3; have w4 := wth_t a4; have w5 := wth_t a5; have w6 := wth_t a6; have w7 := wth_t b3
  refine ⟨w1.1, w1.2, a2, w2.1, w2.2, w3.1, by omega, w4.1, w4.2, w5.1, w5.2, w6.1, w6.2, w7.1, w7.2, c1, c2, ?_⟩
  simp only [numB, Bool.and_eq_true]
  exact ⟨b1, b2, b3, b4⟩
theorem kf' {k : Int} (h : wth k 1 6 = true) : ((k == 1) = true ∧ (k == 2) = false ∧ (k == 3) = false ∧ (k == 4) = false ∧ (k == 5) = false ∧ (k == 6) = false ∧ wth k 1 4 = true ∧ hopk k = true ∧ betk k = false) ∨ ((k == 1) = false ∧ (k == 2) = true ∧ (k == 3) = false ∧ (k == 4) = false ∧ (k == 5) = false ∧ (k == 6) = false ∧ wth k 1 4 = true ∧ hopk k = false ∧ betk k = true) ∨
    ((k == 1) = false ∧ (k == 2) = false ∧ (k == 3) = true ∧ (k == 4) = false ∧ (k == 5) = false ∧ (k == 6) = false ∧ wth k 1 4 = true ∧ hopk k = false ∧ betk k = true) ∨ ((k == 1) = false ∧ (k == 2) = false ∧ (k == 3) = false ∧ (k == 4) = true ∧ (k == 5) = false ∧ (k == 6) = false ∧ wth k 1 4 = true ∧ hopk k = false ∧ betk k = false) ∨
    ((k == 1) = false ∧ (k == 2) = false ∧ (k == 3) = false ∧ (k == 4) = false ∧ (k == 5) = true ∧ (k == 6) = false ∧ wth k 1 4 = false ∧ hopk k = true ∧ betk k = false) ∨ ((k == 1) = false ∧ (k == 2) = false ∧ (k == 3) = false ∧ (k == 4) = false ∧ (k == 5) = false ∧ (k == 6) = true ∧ wth k 1 4 = false ∧ hopk k = false ∧ betk k = false) := by
  have h2 := wth_t h
  rcases (by omega : k = 1 ∨ k = 2 ∨ k = 3 ∨ k = 4 ∨ k = 5 ∨ k = 6) with rfl | rfl | rfl | rfl | rfl | rfl <;> simp [wth, hopk, betk]
theorem RtF.box {n : Int} {m : MsgV} (h : RtF n m) : m.box.length ≤ 8 := by
  have := h.ask
  simp only [askB, boxB, Bool.and_eq_true] at this
  obtain ⟨_, h2, _⟩ := this
  split at h2
  · simp only [rightv, Bool.and_eq_true, decide_eq_true_eq, beq_iff_eq] at h2
    have := h.n1; omega
  · have : (m.box.length : Int) = 0 := by simpa using h2
    omega
theorem RtF.recs {n : Int} {m : MsgV} (h : RtF n m) : m.recs.length ≤ 10000 ∧ ∀ r, r ∈ m.recs → recok n r = true := by
  have := h.ask
  simp only [askB, recB, Bool.and_eq_true] at this
  obtain ⟨_, _, _, h2⟩ := this
  split at h2
  · simp only [Bool.and_eq_true, decide_eq_true_eq, List.all_eq_true] at h2
    exact ⟨by omega, h2.2⟩
  · have : (m.recs.length : Int) = 0 := by simpa using h2
    have e : m.recs = [] := List.length_eq_zero_iff.1 (by omega)
    rw [e]; exact ⟨by simp, fun r hr => by simp at hr⟩
theorem RtF.vs {n : Int} {m : MsgV} (h : RtF n m) : m.er.vs.length ≤ 8 := by
  have := h.held
  unfold heldB at this
  split at this
  · simp only [Bool.and_eq_true] at this
    have h2 := recok_len this.1
    have := h.n1; omega
  · simp only [nonv, Bool.and_eq_true, beq_iff_eq] at this
    omega
theorem RtF.rlen {n : Int} {m : MsgV} (h : RtF n m) : ∀ r, r ∈ m.recs → r.vs.length = n.toNat := fun r hr => by
  have := recok_len (h.recs.2 r hr); omega
def packR (n : Int) (m : MsgV) : List Int := if rightM n m then mbs m else []
def packE (n : Int) (m : MsgV) : Int := if rightM n m then 0 else 4
theorem entb_len {m : MsgV} (h : m.er.vs.length ≤ 8) : (entb m).length ≤ 60 := by
  unfold entb; split <;> simp only [List.length_append, be_len, rcb_len, List.length_nil] <;> omega

set_option maxRecDepth 8000 in
set_option maxHeartbeats 32000000 in
theorem MPack_fs {m : MsgV} (n : Int) (ok : MsgOk m) : FS Try.prog 11 [.lit (.int .i64 n), .agg (msG m)] [] (.tup [.sl false 1 ((packR n m).map bG) [], .lit (.int .i64 (packE n m))]) [] := by
  refine FS.enterG Try.func11 rfl fun R0 hR0 => ?_
  simp only [Try.ntmps11, List.length_cons, List.length_nil, List.replicate_succ, List.replicate_zero, List.cons_append, List.nil_append, Nat.reduceAdd, Nat.reduceSub]
  have hR := MRight_fs n ok
  simp only [msG] at hR ⊢
  unfold packR packE at hR0
  cases hr : rightM n m
  · rw [hr, if_neg (by decide), if_neg (by decide)] at hR0
    repeat (first | (refine TW.tw ?_; (first | (refine TW.nil ?_; (first | (refine hK0 _ _ ?_; clear hK0 K0) | (refine hK1 _ _ _ (by kernel_rfl) ?_; clear hK1 K1)); try dsimp only [mk_msgPack2_11, thenR, blockR, loopR, mk_t, mk_f, mk_n]; try simp only [hr, Bool.not_false, Int.toNat_natCast])|(refine TW.ca rfl ?_; first | refine TW.C0 (hF := hR ) (h := ?_)|refine TW.C0 (hF := hF _ _ _) (h := ?_)|refine TW.C0 (hF := hH ) (h := ?_)|refine TW.C0 (hF := hA ) (h := ?_)|refine TW.C0 (hF := hRr ) (h := ?_)|refine TW.C0 (hF := hN ) (h := ?_)|(refine TW.kc 24 rfl ?_; first | refine TW.RC (ids := [_, _, _]) (hF := MPack1_fs (by first | assumption | (simp only [List.length_append, be_len]; omega))) (h := ?_))|(refine TW.kc 22 rfl ?_; first | refine TW.RC (ids := [_, _]) (hF := MEntW_fs (by first | assumption | (simp only [List.length_append, be_len]; omega)) (by assumption) (by assumption) (by assumption)) (h := ?_))|(refine TW.kc 26 rfl ?_; first | refine TW.RC (ids := [_, _]) (hF := MSpan_fs (by assumption) (by assumption) (by assumption)) (h := ?_))|(refine TW.kc 28 rfl ?_; first | refine TW.RC (ids := [_, _]) (hF := MRec_fs (by assumption) (by assumption)) (h := ?_))|(refine TW.kc 23 rfl ?_; first | refine TW.C0 (hF := Mhops_fs _) (h := ?_))|(refine TW.kc 21 rfl ?_; first | refine TW.C0 (hF := Ment_fs _) (h := ?_))|(refine TW.kc 27 rfl ?_; first | refine TW.C0 (hF := BPack_fs (by assumption) (by assumption)) (h := ?_))|(refine TW.kc 20 rfl ?_; first | refine TW.C0 (hF := OPut0_fs _ _) (h := ?_)|refine TW.O1 (hF := OPutN_fs _ _ (by first | assumption | decide)) (h := ?_)|refine TW.O2 (hF := OPut_fs _ _ (by first | assumption | decide) (by first | assumption | decide | (simp only [List.length_append, be_len]; omega))) (h := ?_))|(refine TW.kc 15 rfl ?_; first | refine TW.C0 (hF := MRight_fs _ (by assumption)) (h := ?_)))|refine TW.gn (h := ?_)|(simp only [hr, Bool.not_false]; refine TW.nm (h := ?_)))) | refine CS.seq fun K hK => ?_|(refine CS.regl mk_msgPack2_11 (fun K0 hK0 => ?_); try dsimp only [mp_s, mp_z])|(refine CS.drawl tab mk_msgPack2_11 (fun K1 hK1 => ?_); try dsimp only [mp_s, mp_z])|(refine hK _ _ ?_; clear hK K)|(clear hK K; refine hK _ _ ?_; clear hK K)|(clear hK K; clear hK K; refine hK _ _ ?_; clear hK K)|(clear hK K; clear hK K; clear hK K; refine hK _ _ ?_; clear hK K)|((first | refine CS_ret ?_ | refine CS_skip ?_ | refine CS_exit ?_ | rw [if_pos rfl] | rw [if_neg (by decide)]); try dsimp only [thenR, blockR, loopR])|refine CS.blk ?_|refine CS.yes rfl ?_|refine CS.no rfl ?_|simp only [hr, Bool.not_false])
    exact hR0 _ _ _ (GS.nilS 4 1 false rfl (by exact GS.refl ⟨(by first | exact .inr rfl | exact .inl rfl), _, [], gresT_ok tab rfl, by decide, rfl, rfl, rfl, rfl⟩))
  rw [hr, if_pos rfl, if_pos rfl] at hR0
  have F := rtF hr
  have f1 := F.n0; have f2 := F.n1; have f3 := F.k0; have f4 := F.k1; have f5 := F.h0; have f6 := F.h1; have f7 := F.c0; have f8 := F.c1; have f9 := F.o0; have g0 := F.o1; have g1 := F.p0; have g2 := F.p1; have g3 := F.t0; have g4 := F.t1
  have w1 : IntKind.u64.wrap m.kind = m.kind := wu (by omega)
  have w2 : IntKind.u64.wrap m.hub = m.hub := wu (by omega)
  have w3 : IntKind.u64.wrap m.client = m.client := wu (by omega)
  have w4 : IntKind.u64.wrap m.op = m.op := wu (by omega)
  have p5 := ok.point
  have w5 : IntKind.u64.wrap m.point = m.point := wu (by unfold u32r at p5; omega)
  have w6 : IntKind.u64.wrap m.hops = m.hops := wu (by omega)
  have z1 : 0 ≤ m.kind := by omega
  have z4 : 0 ≤ m.op := by omega
  have z5 : 0 ≤ m.point := p5.1
  have s1 := ok.sf
  have s2 := ok.st
  have vl := F.vs
  have el := entb_len vl
  have bl := F.box
  have bl6 : m.box.length ≤ 1000000 := by omega
  have bok := ok.box
  have pl := pack_len m.box
  obtain ⟨H, hH⟩ : ∃ H, be m.kind 1 ++ be m.hub 1 ++ be m.client 1 ++ be m.op 2 ++ be m.point 4 = H := ⟨_, rfl⟩
  have hHl : H.length = 9 := by rw [← hH]; simp only [List.length_append, be_len]
  have hH9 : H.length ≤ 1000000000 := by omega
  have hHd : hdb m = H := by rw [← hH]; unfold hdb; simp only [List.append_assoc]
  have hE := @MEntW_fs H m (by omega) ok g3 g4
  simp only [msG] at hE
  repeat (first | (refine TW.tw ?_; (first | (refine TW.nil ?_; (first | (refine hK0 _ _ ?_; clear hK0 K0) | (refine hK1 _ _ _ (by kernel_rfl) ?_; clear hK1 K1)); try dsimp only [mk_msgPack2_11, thenR, blockR, loopR, mk_t, mk_f, mk_n]; try simp only [hr, Bool.not_true, nby1, nby2', nby4, w1, w2, w3, w4, w5, hH, Int.toNat_natCast])|(refine TW.ca rfl ?_; (try simp only [hr, Bool.not_true, nby1, nby2', nby4, w1, w2, w3, w4, w5, hH]); first | refine TW.RC (ids := [_, _]) (hF := hE ) (h := ?_)|refine TW.C0 (hF := hR ) (h := ?_)|refine TW.C0 (hF := hF _ _ _) (h := ?_)|refine TW.C0 (hF := hH ) (h := ?_)|refine TW.C0 (hF := hA ) (h := ?_)|refine TW.C0 (hF := hRr ) (h := ?_)|refine TW.C0 (hF := hN ) (h := ?_)|(refine TW.kc 24 rfl ?_; first | refine TW.RC (ids := [_, _, _]) (hF := MPack1_fs (by first | assumption | (simp only [List.length_append, be_len]; omega))) (h := ?_))|(refine TW.kc 22 rfl ?_; first | refine TW.RC (ids := [_, _]) (hF := MEntW_fs (by first | assumption | (simp only [List.length_append, be_len]; omega)) (by assumption) (by assumption) (by assumption)) (h := ?_))|(refine TW.kc 26 rfl ?_; first | refine TW.RC (ids := [_, _]) (hF := MSpan_fs (by assumption) (by assumption) (by assumption)) (h := ?_))|(refine TW.kc 28 rfl ?_; first | refine TW.RC (ids := [_, _]) (hF := MRec_fs (by assumption) (by assumption)) (h := ?_))|(refine TW.kc 23 rfl ?_; first | refine TW.C0 (hF := Mhops_fs _) (h := ?_))|(refine TW.kc 21 rfl ?_; first | refine TW.C0 (hF := Ment_fs _) (h := ?_))|(refine TW.kc 27 rfl ?_; first | refine TW.C0 (hF := BPack_fs (by assumption) (by assumption)) (h := ?_))|(refine TW.kc 20 rfl ?_; first | refine TW.C0 (hF := OPut0_fs _ _) (h := ?_)|refine TW.O1 (hF := OPutN_fs _ _ (by first | assumption | decide)) (h := ?_)|refine TW.O2 (hF := OPut_fs _ _ (by first | assumption | decide) (by first | assumption | decide | (simp only [List.length_append, be_len]; omega))) (h := ?_))|(refine TW.kc 15 rfl ?_; first | refine TW.C0 (hF := MRight_fs _ (by assumption)) (h := ?_)))|refine TW.gn (h := ?_)|(simp only [hr, Bool.not_true, nby1, nby2', nby4, w1, w2, w3, w4, w5, hH]; refine TW.nm (h := ?_)))) | refine CS.seq fun K hK => ?_|(refine CS.regX 9 rfl mk_msgPack2_11 (fun K0 hK0 => ?_); try dsimp only [mp_s, mp_z])|(refine CS.drawX tab 9 rfl mk_msgPack2_11 (fun K1 hK1 => ?_); try dsimp only [mp_s, mp_z])|(refine hK _ _ ?_; clear hK K)|(clear hK K; refine hK _ _ ?_; clear hK K)|(clear hK K; clear hK K; refine hK _ _ ?_; clear hK K)|(clear hK K; clear hK K; clear hK K; refine hK _ _ ?_; clear hK K)|((first | refine CS_ret ?_ | refine CS_skip ?_ | refine CS_exit ?_ | rw [if_pos rfl] | rw [if_neg (by decide)]); try dsimp only [thenR, blockR, loopR])|refine CS.blk ?_|refine CS.yes rfl ?_|refine CS.no rfl ?_|simp only [hr, Bool.not_true, nby1, nby2', nby4, w1, w2, w3, w4, w5, hH])
  rcases kf' F.k with ⟨a1, a2, a3, a4, a5, a6, a7, a8, a9⟩ | ⟨a1, a2, a3, a4, a5, a6, a7, a8, a9⟩ | ⟨a1, a2, a3, a4, a5, a6, a7, a8, a9⟩ | ⟨a1, a2, a3, a4, a5, a6, a7, a8, a9⟩ | ⟨a1, a2, a3, a4, a5, a6, a7, a8, a9⟩ | ⟨a1, a2, a3, a4, a5, a6, a7, a8, a9⟩
  · have hm : H ++ entb m ++ be m.hops 1 = mbs m := by unfold mbs tlb; rw [hHd, a5, a6, a7, a8]; simp
    have hml : (mbs m).length ≤ 1000000000 := by rw [← hm]; simp only [List.length_append, be_len]; omega
    repeat (first | (refine TW.tw ?_; (first | (refine TW.nil ?_; (first | (refine hK0 _ _ ?_; clear hK0 K0) | (refine hK1 _ _ _ (by kernel_rfl) ?_; clear hK1 K1)); try dsimp only [mk_msgPack2_11, thenR, blockR, loopR, mk_t, mk_f, mk_n]; try simp only [a5, a6, a7, a8, w6, nby1, hm, Int.toNat_natCast])|(refine TW.ca rfl ?_; (try simp only [a5, a6, a7, a8, w6, nby1, hm]); first | refine TW.RC (ids := [_, _]) (hF := hE ) (h := ?_)|refine TW.C0 (hF := hR ) (h := ?_)|refine TW.C0 (hF := hF _ _ _) (h := ?_)|refine TW.C0 (hF := hH ) (h := ?_)|refine TW.C0 (hF := hA ) (h := ?_)|refine TW.C0 (hF := hRr ) (h := ?_)|refine TW.C0 (hF := hN ) (h := ?_)|(refine TW.kc 24 rfl ?_; first | refine TW.RC (ids := [_, _, _]) (hF := MPack1_fs (by first | assumption | (simp only [List.length_append, be_len]; omega))) (h := ?_))|(refine TW.kc 22 rfl ?_; first | refine TW.RC (ids := [_, _]) (hF := MEntW_fs (by first | assumption | (simp only [List.length_append, be_len]; omega)) (by assumption) (by assumption) (by assumption)) (h := ?_))|(refine TW.kc 26 rfl ?_; first | refine TW.RC (ids := [_, _]) (hF := MSpan_fs (by assumption) (by assumption) (by assumption)) (h := ?_))|(refine TW.kc 28 rfl ?_; first | refine TW.RC (ids := [_, _]) (hF := MRec_fs (by assumption) (by assumption)) (h := ?_))|(refine TW.kc 23 rfl ?_; first | refine TW.C0 (hF := Mhops_fs _) (h := ?_))|(refine TW.kc 21 rfl ?_; first | refine TW.C0 (hF := Ment_fs _) (h := ?_))|(refine TW.kc 27 rfl ?_; first | refine TW.C0 (hF := BPack_fs (by assumption) (by assumption)) (h := ?_))|(refine TW.kc 20 rfl ?_; first | refine TW.C0 (hF := OPut0_fs _ _) (h := ?_)|refine TW.O1 (hF := OPutN_fs _ _ (by first | assumption | decide)) (h := ?_)|refine TW.O2 (hF := OPut_fs _ _ (by first | assumption | decide) (by first | assumption | decide | (simp only [List.length_append, be_len]; omega))) (h := ?_))|(refine TW.kc 15 rfl ?_; first | refine TW.C0 (hF := MRight_fs _ (by assumption)) (h := ?_)))|refine TW.gn (h := ?_)|(simp only [a5, a6, a7, a8, w6, nby1, hm]; refine TW.nm (h := ?_)))) | refine CS.seq fun K hK => ?_|(refine CS.regl mk_msgPack2_11 (fun K0 hK0 => ?_); try dsimp only [mp_s, mp_z])|(refine CS.drawl tab mk_msgPack2_11 (fun K1 hK1 => ?_); try dsimp only [mp_s, mp_z])|(refine hK _ _ ?_; clear hK K)|(clear hK K; refine hK _ _ ?_; clear hK K)|(clear hK K; clear hK K; refine hK _ _ ?_; clear hK K)|(clear hK K; clear hK K; clear hK K; refine hK _ _ ?_; clear hK K)|((first | refine CS_ret ?_ | refine CS_skip ?_ | refine CS_exit ?_ | rw [if_pos rfl] | rw [if_neg (by decide)]); try dsimp only [thenR, blockR, loopR])|refine CS.blk ?_|refine CS.yes rfl ?_|refine CS.no rfl ?_|simp only [a5, a6, a7, a8, w6, nby1, hm])
    exact hR0 _ _ _ (GS.frz 4 rfl rfl (by exact GS.refl ⟨(by first | exact .inr rfl | exact .inl rfl), _, [], gresT_ok tab rfl, by decide, rfl, rfl, rfl, rfl⟩))
  iterate 3
    · have hm : H ++ entb m = mbs m := by unfold mbs tlb; rw [hHd, a5, a6, a7, a8]; simp
      have hml : (mbs m).length ≤ 1000000000 := by rw [← hm]; simp only [List.length_append, be_len]; omega
      repeat (first | (refine TW.tw ?_; (first | (refine TW.nil ?_; (first | (refine hK0 _ _ ?_; clear hK0 K0) | (refine hK1 _ _ _ (by kernel_rfl) ?_; clear hK1 K1)); try dsimp only [mk_msgPack2_11, thenR, blockR, loopR, mk_t, mk_f, mk_n]; try simp only [a5, a6, a7, a8, hm, Int.toNat_natCast])|(refine TW.ca rfl ?_; (try simp only [a5, a6, a7, a8, hm]); first | refine TW.RC (ids := [_, _]) (hF := hE ) (h := ?_)|refine TW.C0 (hF := hR ) (h := ?_)|refine TW.C0 (hF := hF _ _ _) (h := ?_)|refine TW.C0 (hF := hH ) (h := ?_)|refine TW.C0 (hF := hA ) (h := ?_)|refine TW.C0 (hF := hRr ) (h := ?_)|refine TW.C0 (hF := hN ) (h := ?_)|(refine TW.kc 24 rfl ?_; first | refine TW.RC (ids := [_, _, _]) (hF := MPack1_fs (by first | assumption | (simp only [List.length_append, be_len]; omega))) (h := ?_))|(refine TW.kc 22 rfl ?_; first | refine TW.RC (ids := [_, _]) (hF := MEntW_fs (by first | assumption | (simp only [List.length_append, be_len]; omega)) (by assumption) (by assumption) (by assumption)) (h := ?_))|(refine TW.kc 26 rfl ?_; first | refine TW.RC (ids := [_, _]) (hF := MSpan_fs (by assumption) (by assumption) (by assumption)) (h := ?_))|(refine TW.kc 28 rfl ?_; first | refine TW.RC (ids := [_, _]) (hF := MRec_fs (by assumption) (by assumption)) (h := ?_))|(refine TW.kc 23 rfl ?_; first | refine TW.C0 (hF := Mhops_fs _) (h := ?_))|(refine TW.kc 21 rfl ?_; first | refine TW.C0 (hF := Ment_fs _) (h := ?_))|(refine TW.kc 27 rfl ?_; first | refine TW.C0 (hF := BPack_fs (by assumption) (by assumption)) (h := ?_))|(refine TW.kc 20 rfl ?_; first | refine TW.C0 (hF := OPut0_fs _ _) (h := ?_)|refine TW.O1 (hF := OPutN_fs _ _ (by first | assumption | decide)) (h := ?_)|refine TW.O2 (hF := OPut_fs _ _ (by first | assumption | decide) (by first | assumption | decide | (simp only [List.length_append, be_len]; omega))) (h := ?_))|(refine TW.kc 15 rfl ?_; first | refine TW.C0 (hF := MRight_fs _ (by assumption)) (h := ?_)))|refine TW.gn (h := ?_)|(simp only [a5, a6, a7, a8, hm]; refine TW.nm (h := ?_)))) | refine CS.seq fun K hK => ?_|(refine CS.regl mk_msgPack2_11 (fun K0 hK0 => ?_); try dsimp only [mp_s, mp_z])|(refine CS.drawl tab mk_msgPack2_11 (fun K1 hK1 => ?_); try dsimp only [mp_s, mp_z])|(refine hK _ _ ?_; clear hK K)|(clear hK K; refine hK _ _ ?_; clear hK K)|(clear hK K; clear hK K; refine hK _ _ ?_; clear hK K)|(clear hK K; clear hK K; clear hK K; refine hK _ _ ?_; clear hK K)|((first | refine CS_ret ?_ | refine CS_skip ?_ | refine CS_exit ?_ | rw [if_pos rfl] | rw [if_neg (by decide)]); try dsimp only [thenR, blockR, loopR])|refine CS.blk ?_|refine CS.yes rfl ?_|refine CS.no rfl ?_|simp only [a5, a6, a7, a8, hm])
      exact hR0 _ _ _ (GS.frz 4 rfl rfl (by exact GS.refl ⟨(by first | exact .inr rfl | exact .inl rfl), _, [], gresT_ok tab rfl, by decide, rfl, rfl, rfl, rfl⟩))
  · have hm : (H ++ be m.hops 1 ++ (be m.sf 4 ++ be m.st 4) ++ pack m.box).map bG = (mbs m).map bG := by unfold mbs tlb; rw [hHd, a5, a7, a8]; simp
    have hq : (H ++ be m.hops 1).length ≤ 400000000 := by simp only [List.length_append, be_len]; omega
    have hb1 : ((H ++ be m.hops 1 ++ (be m.sf 4 ++ be m.st 4)).map bG).length + ((pack m.box).map bG).length ≤ 137438953472 := by simp only [List.length_map, List.length_append, be_len]; omega
    rw [← hm, List.map_append] at hR0
    repeat (first | (refine TW.tw ?_; (first | (refine TW.nil ?_; (first | (refine hK0 _ _ ?_; clear hK0 K0) | (refine hK1 _ _ _ (by kernel_rfl) ?_; clear hK1 K1)); try dsimp only [mk_msgPack2_11, thenR, blockR, loopR, mk_t, mk_f, mk_n]; try simp only [a5, a6, a7, a8, w6, nby1, Int.toNat_natCast])|(refine TW.ca rfl ?_; (try simp only [a5, a6, a7, a8, w6, nby1]); first | refine TW.RC (ids := [_, _]) (hF := hE ) (h := ?_)|refine TW.C0 (hF := hR ) (h := ?_)|refine TW.C0 (hF := hF _ _ _) (h := ?_)|refine TW.C0 (hF := hH ) (h := ?_)|refine TW.C0 (hF := hA ) (h := ?_)|refine TW.C0 (hF := hRr ) (h := ?_)|refine TW.C0 (hF := hN ) (h := ?_)|(refine TW.kc 24 rfl ?_; first | refine TW.RC (ids := [_, _, _]) (hF := MPack1_fs (by first | assumption | (simp only [List.length_append, be_len]; omega))) (h := ?_))|(refine TW.kc 22 rfl ?_; first | refine TW.RC (ids := [_, _]) (hF := MEntW_fs (by first | assumption | (simp only [List.length_append, be_len]; omega)) (by assumption) (by assumption) (by assumption)) (h := ?_))|(refine TW.kc 26 rfl ?_; first | refine TW.RC (ids := [_, _]) (hF := MSpan_fs (by assumption) (by assumption) (by assumption)) (h := ?_))|(refine TW.kc 28 rfl ?_; first | refine TW.RC (ids := [_, _]) (hF := MRec_fs (by assumption) (by assumption)) (h := ?_))|(refine TW.kc 23 rfl ?_; first | refine TW.C0 (hF := Mhops_fs _) (h := ?_))|(refine TW.kc 21 rfl ?_; first | refine TW.C0 (hF := Ment_fs _) (h := ?_))|(refine TW.kc 27 rfl ?_; first | refine TW.C0 (hF := BPack_fs (by assumption) (by assumption)) (h := ?_))|(refine TW.kc 20 rfl ?_; first | refine TW.C0 (hF := OPut0_fs _ _) (h := ?_)|refine TW.O1 (hF := OPutN_fs _ _ (by first | assumption | decide)) (h := ?_)|refine TW.O2 (hF := OPut_fs _ _ (by first | assumption | decide) (by first | assumption | decide | (simp only [List.length_append, be_len]; omega))) (h := ?_))|(refine TW.kc 15 rfl ?_; first | refine TW.C0 (hF := MRight_fs _ (by assumption)) (h := ?_)))|refine TW.gn (h := ?_)|(simp only [a5, a6, a7, a8, w6, nby1]; refine TW.nm (h := ?_)))) | refine CS.seq fun K hK => ?_|(refine CS.regl mk_msgPack2_11 (fun K0 hK0 => ?_); try dsimp only [mp_s, mp_z])|(refine CS.drawl tab mk_msgPack2_11 (fun K1 hK1 => ?_); try dsimp only [mp_s, mp_z])|(refine hK _ _ ?_; clear hK K)|(clear hK K; refine hK _ _ ?_; clear hK K)|(clear hK K; clear hK K; refine hK _ _ ?_; clear hK K)|(clear hK K; clear hK K; clear hK K; refine hK _ _ ?_; clear hK K)|((first | refine CS_ret ?_ | refine CS_skip ?_ | refine CS_exit ?_ | rw [if_pos rfl] | rw [if_neg (by decide)]); try dsimp only [thenR, blockR, loopR])|refine CS.blk ?_|refine CS.yes rfl ?_|refine CS.no rfl ?_|simp only [a5, a6, a7, a8, w6, nby1])
    exact hR0 _ _ _ (GS.frz 4 rfl rfl (by exact GS.refl ⟨(by first | exact .inr rfl | exact .inl rfl), _, [], gresT_ok tab rfl, by decide, rfl, rfl, rfl, rfl⟩))
  · have rl := F.recs.1
    have rle := F.rlen
    have hq : H.length ≤ 400000000 := by omega
    have wr : IntKind.u64.wrap (m.recs.length : Int) = (m.recs.length : Int) := wu (by omega)
    have zr : 0 ≤ (m.recs.length : Int) := by omega
    obtain ⟨B, hB⟩ : ∃ B, H ++ (be m.sf 4 ++ be m.st 4) ++ be (m.recs.length : Int) 2 = B := ⟨_, rfl⟩
    have hBl : B.length = 19 := by rw [← hB]; simp only [List.length_append, be_len]; omega
    have hm : B ++ rcbs m.recs = mbs m := by rw [← hB]; unfold mbs tlb; rw [hHd, a5, a6, a7, a8]; simp
    repeat (first | (refine TW.tw ?_; (first | (refine TW.nil ?_; (first | (refine hK0 _ _ ?_; clear hK0 K0) | (refine hK1 _ _ _ (by kernel_rfl) ?_; clear hK1 K1)); try dsimp only [mk_msgPack2_11, thenR, blockR, loopR, mk_t, mk_f, mk_n]; try simp only [a5, a6, a7, a8, nby2', wr, List.length_map, hB, Int.toNat_natCast])|(refine TW.ca rfl ?_; (try simp only [a5, a6, a7, a8, nby2', wr, List.length_map, hB]); first | refine TW.RC (ids := [_, _]) (hF := hE ) (h := ?_)|refine TW.C0 (hF := hR ) (h := ?_)|refine TW.C0 (hF := hF _ _ _) (h := ?_)|refine TW.C0 (hF := hH ) (h := ?_)|refine TW.C0 (hF := hA ) (h := ?_)|refine TW.C0 (hF := hRr ) (h := ?_)|refine TW.C0 (hF := hN ) (h := ?_)|(refine TW.kc 24 rfl ?_; first | refine TW.RC (ids := [_, _, _]) (hF := MPack1_fs (by first | assumption | (simp only [List.length_append, be_len]; omega))) (h := ?_))|(refine TW.kc 22 rfl ?_; first | refine TW.RC (ids := [_, _]) (hF := MEntW_fs (by first | assumption | (simp only [List.length_append, be_len]; omega)) (by assumption) (by assumption) (by assumption)) (h := ?_))|(refine TW.kc 26 rfl ?_; first | refine TW.RC (ids := [_, _]) (hF := MSpan_fs (by assumption) (by assumption) (by assumption)) (h := ?_))|(refine TW.kc 28 rfl ?_; first | refine TW.RC (ids := [_, _]) (hF := MRec_fs (by assumption) (by assumption)) (h := ?_))|(refine TW.kc 23 rfl ?_; first | refine TW.C0 (hF := Mhops_fs _) (h := ?_))|(refine TW.kc 21 rfl ?_; first | refine TW.C0 (hF := Ment_fs _) (h := ?_))|(refine TW.kc 27 rfl ?_; first | refine TW.C0 (hF := BPack_fs (by assumption) (by assumption)) (h := ?_))|(refine TW.kc 20 rfl ?_; first | refine TW.C0 (hF := OPut0_fs _ _) (h := ?_)|refine TW.O1 (hF := OPutN_fs _ _ (by first | assumption | decide)) (h := ?_)|refine TW.O2 (hF := OPut_fs _ _ (by first | assumption | decide) (by first | assumption | decide | (simp only [List.length_append, be_len]; omega))) (h := ?_))|(refine TW.kc 15 rfl ?_; first | refine TW.C0 (hF := MRight_fs _ (by assumption)) (h := ?_)))|refine TW.gn (h := ?_)|(simp only [a5, a6, a7, a8, nby2', wr, List.length_map, hB]; refine TW.nm (h := ?_)))) | refine CS.seq fun K hK => ?_|(refine CS.regl mk_msgPack2_11 (fun K0 hK0 => ?_); try dsimp only [mp_s, mp_z])|(refine CS.drawl tab mk_msgPack2_11 (fun K1 hK1 => ?_); try dsimp only [mp_s, mp_z])|(refine hK _ _ ?_; clear hK K)|(clear hK K; refine hK _ _ ?_; clear hK K)|(clear hK K; clear hK K; refine hK _ _ ?_; clear hK K)|(clear hK K; clear hK K; clear hK K; refine hK _ _ ?_; clear hK K)|((first | refine CS_ret ?_ | refine CS_skip ?_ | refine CS_exit ?_ | rw [if_pos rfl] | rw [if_neg (by decide)]); try dsimp only [thenR, blockR, loopR])|refine CS.blk ?_|refine CS.yes rfl ?_|refine CS.no rfl ?_|simp only [a5, a6, a7, a8, nby2', wr, List.length_map, hB])
    refine CS.lp (fun i : Nat => i ≤ m.recs.length)
      (fun i => ([.any, .any, .any, .any, .any, .any, .adr 2 0 0, .clo 24 [.adr 2 0 0], .any, .any, .any, .any, .any, .any, .any, .any, .any, .any, .any, .any, .any, .any, .any, .any, .any, .any, .any, .any, .any, .any, .any, .any, .any, .any, .any, .any, .any, .any, .any, .any, .any, .any, .any, .any, .any, .any, .any, .any, .any, .any, .any, .any, .any, .any, .any, .any, .any, .any, .any, .any, .any, .any, .any, .any, .any, .any, .any, .any, .any, .any, .any, .any, .any, .any, .any, .any, .any, .any, .any, .any, .any, .any, .any, .any, .any, .any, .any, .any, .any, .any, .any, .any, .any, .any, .any, .any, .any, .sl false 3 (m.recs.map rcG) m.rx, .lit (.int .i64 m.recs.length), .lit (.int .i64 i)] ++ List.replicate 9 .any))
      (fun i => [.cells (msG m), .cells [.row 3], .cells [.adr 1 0 0], .row 5 1 ((B ++ rcbs (m.recs.take i)).map bG)]) (fun i => m.recs.length - i) 0 [0, 1, 2, 10] [false, false, false, false, false, false, true, true, false, false, false, false, false, false, false, false, false, false, false, false, false, false, false, false, false, false, false, false, false, false, false, false, false, false, false, false, false, false, false, false, false, false, false, false, false, false, false, false, false, false, false, false, false, false, false, false, false, false, false, false, false, false, false, false, false, false, false, false, false, false, false, false, false, false, false, false, false, false, false, false, false, false, false, false, false, false, false, false, false, false, false, false, false, false, false, false, false, true, true, true] (by decide) rfl (Nat.zero_le _) rfl (by rw [List.take_zero, rcbs, List.append_nil]; rfl) ?_
    intro i hi
    simp only [msG, List.replicate_succ, List.replicate_zero, List.cons_append, List.nil_append]
    have hbl : (B ++ rcbs (m.recs.take i)).length ≤ 1000000 := by
      have := rcbs_len (k := n.toNat) (l := m.recs.take i) fun r hr => rle r (List.mem_of_mem_take hr)
      rw [List.length_append, this, List.length_take]
      have h8 : n.toNat ≤ 8 := by omega
      have : min i m.recs.length * (16 + 4 * n.toNat) ≤ 10000 * 48 := Nat.mul_le_mul (by omega) (by omega)
      omega
    by_cases c : i < m.recs.length
    · have d := int_lt c
      have hg := map_at (f := rcG) c
      have hI0 : (0 : Int) ≤ (i : Int) := by omega
      have hI1 : (i : Int) < ((m.recs.map rcG).length : Int) := by simp; omega
      have ew := wrap_nat (n := i) (by omega)
      have ho := ok.recs m.recs[i] (List.getElem_mem c)
      have m1 : m.recs.length - (i + 1) < m.recs.length - i := by omega
      have ht : B ++ rcbs (m.recs.take i) ++ rcb m.recs[i] = B ++ rcbs (m.recs.take (i + 1)) := by rw [List.take_succ_eq_append_getElem c, rcbs_snoc, List.append_assoc]
      generalize B ++ rcbs (m.recs.take i) = X at *
      have hq4 : X.length ≤ 400000000 := by omega
      generalize m.recs[i] = r at *
      simp only [rcG] at hg
      repeat (first | (refine TW.tw ?_; (first | (refine TW.nil ?_; (first | (refine hK0 _ _ ?_; clear hK0 K0) | (refine hK1 _ _ _ (by kernel_rfl) ?_; clear hK1 K1)); try dsimp only [mk_msgPack2_11, thenR, blockR, loopR, mk_t, mk_f, mk_n]; try simp only [d, ew, ht, Int.toNat_natCast])|(refine TW.ca rfl ?_; (try simp only [d, ew, ht]); first | refine TW.RC (ids := [_, _]) (hF := hE ) (h := ?_)|refine TW.C0 (hF := hR ) (h := ?_)|refine TW.C0 (hF := hF _ _ _) (h := ?_)|refine TW.C0 (hF := hH ) (h := ?_)|refine TW.C0 (hF := hA ) (h := ?_)|refine TW.C0 (hF := hRr ) (h := ?_)|refine TW.C0 (hF := hN ) (h := ?_)|(refine TW.kc 24 rfl ?_; first | refine TW.RC (ids := [_, _, _]) (hF := MPack1_fs (by first | assumption | (simp only [List.length_append, be_len]; omega))) (h := ?_))|(refine TW.kc 22 rfl ?_; first | refine TW.RC (ids := [_, _]) (hF := MEntW_fs (by first | assumption | (simp only [List.length_append, be_len]; omega)) (by assumption) (by assumption) (by assumption)) (h := ?_))|(refine TW.kc 26 rfl ?_; first | refine TW.RC (ids := [_, _]) (hF := MSpan_fs (by assumption) (by assumption) (by assumption)) (h := ?_))|(refine TW.kc 28 rfl ?_; first | refine TW.RC (ids := [_, _]) (hF := MRec_fs (by assumption) (by assumption)) (h := ?_))|(refine TW.kc 23 rfl ?_; first | refine TW.C0 (hF := Mhops_fs _) (h := ?_))|(refine TW.kc 21 rfl ?_; first | refine TW.C0 (hF := Ment_fs _) (h := ?_))|(refine TW.kc 27 rfl ?_; first | refine TW.C0 (hF := BPack_fs (by assumption) (by assumption)) (h := ?_))|(refine TW.kc 20 rfl ?_; first | refine TW.C0 (hF := OPut0_fs _ _) (h := ?_)|refine TW.O1 (hF := OPutN_fs _ _ (by first | assumption | decide)) (h := ?_)|refine TW.O2 (hF := OPut_fs _ _ (by first | assumption | decide) (by first | assumption | decide | (simp only [List.length_append, be_len]; omega))) (h := ?_))|(refine TW.kc 15 rfl ?_; first | refine TW.C0 (hF := MRight_fs _ (by assumption)) (h := ?_)))|refine TW.gn (h := ?_)|(simp only [d, ew, ht]; refine TW.nm (h := ?_)))) | refine CS.seq fun K hK => ?_|(refine CS.regl mk_msgPack2_11 (fun K0 hK0 => ?_); try dsimp only [mp_s, mp_z])|(refine CS.drawl tab mk_msgPack2_11 (fun K1 hK1 => ?_); try dsimp only [mp_s, mp_z])|(refine hK _ _ ?_; clear hK K)|(clear hK K; refine hK _ _ ?_; clear hK K)|(clear hK K; clear hK K; refine hK _ _ ?_; clear hK K)|(clear hK K; clear hK K; clear hK K; refine hK _ _ ?_; clear hK K)|((first | refine CS_ret ?_ | refine CS_skip ?_ | refine CS_exit ?_ | rw [if_pos rfl] | rw [if_neg (by decide)]); try dsimp only [thenR, blockR, loopR])|refine CS.blk ?_|refine CS.yes rfl ?_|refine CS.no rfl ?_|simp only [d, ew, ht])
      exact ⟨i + 1, [0, 1, 2, 5], [false, false, false, false, false, false, true, true, false, false, false, false, false, false, false, false, false, false, false, false, false, false, false, false, false, false, false, false, false, false, false, false, false, false, false, false, false, false, false, false, false, false, false, false, false, false, false, false, false, false, false, false, false, false, false, false, false, false, false, false, false, false, false, false, false, false, false, false, false, false, false, false, false, false, false, false, false, false, false, false, false, false, false, false, false, false, false, false, false, false, false, false, false, false, false, false, false, true, true, true], c, m1, by decide, rfl, rfl, rfl⟩
    · have d := int_nlt c
      have e : m.recs.take i = m.recs := List.take_of_length_le (by omega)
      rw [e] at hbl ⊢
      rw [hm] at hbl ⊢
      have hml : (mbs m).length ≤ 1000000000 := by omega
      repeat (first | (refine TW.tw ?_; (first | (refine TW.nil ?_; (first | (refine hK0 _ _ ?_; clear hK0 K0) | (refine hK1 _ _ _ (by kernel_rfl) ?_; clear hK1 K1)); try dsimp only [mk_msgPack2_11, thenR, blockR, loopR, mk_t, mk_f, mk_n]; try simp only [d, Int.toNat_natCast])|(refine TW.ca rfl ?_; (try simp only [d]); first | refine TW.RC (ids := [_, _]) (hF := hE ) (h := ?_)|refine TW.C0 (hF := hR ) (h := ?_)|refine TW.C0 (hF := hF _ _ _) (h := ?_)|refine TW.C0 (hF := hH ) (h := ?_)|refine TW.C0 (hF := hA ) (h := ?_)|refine TW.C0 (hF := hRr ) (h := ?_)|refine TW.C0 (hF := hN ) (h := ?_)|(refine TW.kc 24 rfl ?_; first | refine TW.RC (ids := [_, _, _]) (hF := MPack1_fs (by first | assumption | (simp only [List.length_append, be_len]; omega))) (h := ?_))|(refine TW.kc 22 rfl ?_; first | refine TW.RC (ids := [_, _]) (hF := MEntW_fs (by first | assumption | (simp only [List.length_append, be_len]; omega)) (by assumption) (by assumption) (by assumption)) (h := ?_))|(refine TW.kc 26 rfl ?_; first | refine TW.RC (ids := [_, _]) (hF := MSpan_fs (by assumption) (by assumption) (by assumption)) (h := ?_))|(refine TW.kc 28 rfl ?_; first | refine TW.RC (ids := [_, _]) (hF := MRec_fs (by assumption) (by assumption)) (h := ?_))|(refine TW.kc 23 rfl ?_; first | refine TW.C0 (hF := Mhops_fs _) (h := ?_))|(refine TW.kc 21 rfl ?_; first | refine TW.C0 (hF := Ment_fs _) (h := ?_))|(refine TW.kc 27 rfl ?_; first | refine TW.C0 (hF := BPack_fs (by assumption) (by assumption)) (h := ?_))|(refine TW.kc 20 rfl ?_; first | refine TW.C0 (hF := OPut0_fs _ _) (h := ?_)|refine TW.O1 (hF := OPutN_fs _ _ (by first | assumption | decide)) (h := ?_)|refine TW.O2 (hF := OPut_fs _ _ (by first | assumption | decide) (by first | assumption | decide | (simp only [List.length_append, be_len]; omega))) (h := ?_))|(refine TW.kc 15 rfl ?_; first | refine TW.C0 (hF := MRight_fs _ (by assumption)) (h := ?_)))|refine TW.gn (h := ?_)|(simp only [d]; refine TW.nm (h := ?_)))) | refine CS.seq fun K hK => ?_|(refine CS.regl mk_msgPack2_11 (fun K0 hK0 => ?_); try dsimp only [mp_s, mp_z])|(refine CS.drawl tab mk_msgPack2_11 (fun K1 hK1 => ?_); try dsimp only [mp_s, mp_z])|(refine hK _ _ ?_; clear hK K)|(clear hK K; refine hK _ _ ?_; clear hK K)|(clear hK K; clear hK K; refine hK _ _ ?_; clear hK K)|(clear hK K; clear hK K; clear hK K; refine hK _ _ ?_; clear hK K)|((first | refine CS_ret ?_ | refine CS_skip ?_ | refine CS_exit ?_ | rw [if_pos rfl] | rw [if_neg (by decide)]); try dsimp only [thenR, blockR, loopR])|refine CS.blk ?_|refine CS.yes rfl ?_|refine CS.no rfl ?_|simp only [d])
      exact hR0 _ _ _ (GS.frz 4 rfl rfl (by exact GS.refl ⟨(by first | exact .inr rfl | exact .inl rfl), _, [], gresT_ok tab rfl, by decide, rfl, rfl, rfl, rfl⟩))
end Go.Gh

