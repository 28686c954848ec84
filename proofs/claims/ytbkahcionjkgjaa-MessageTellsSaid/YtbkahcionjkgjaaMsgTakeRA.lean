import Derived.Test.YtbkahcionjkgjaaMsgTakeR0

namespace Go.Gh
open Go.Proofs
set_option linter.unusedVariables false
set_option linter.unusedSimpArgs false

/-! Layer 6: the message that bytes are, by the document. -/

set_option maxRecDepth 8000 in
set_option maxHeartbeats 64000000 in
theorem R6TakeA_fs {b : List Int} {ex : List (List GV)} (n : Int) (hn1 : 1 ≤ n) (hn8 : n ≤ 8) (hl : b.length ≤ 1000000000) (hb : byt b) (hk : wth (gt (b, 0) 1) 1 4 = true) : FS Try.prog 14 [.lit (.int .i64 n), .sl false 1 (b.map bG) ex] [] (.tup [.agg (msG (takeM n b).1), .lit (.int .i64 (takeM n b).2)]) [] := by
  refine FS.enterG Try.func14 rfl fun R0 hR0 => ?_
  simp only [Try.ntmps14, List.length_cons, List.length_nil, List.replicate_succ, List.replicate_zero, List.cons_append, List.nil_append, Nat.reduceAdd, Nat.reduceSub]
  have d1 : decide (n < 1) = false := decide_eq_false (by omega)
  have d2 : decide (n > 8) = false := decide_eq_false (by omega)
  have hn0 : 0 ≤ n := by omega
  rw [take_yes (by simp [wth]; omega)] at hR0
  obtain ⟨Z, hZ⟩ : ∃ Z : Nat × Int, Z = (0, 0) := ⟨_, rfl⟩
  have hs : (b, (0 : Int)) = ast b Z := by rw [hZ]; rfl
  have z0 : aok b Z := by rw [hZ]; exact ⟨Nat.zero_le _, .inl rfl, hb⟩
  rw [hs] at hR0 hk
  have hG0 : ∀ k, FS Try.prog 43 [.adr 0 0 0, .lit (.int .i64 k)] [.cells [.sl false 1 (b.map bG) ex, .lit (.int .i64 0), .lit (.int .i64 0)]] (.lit (.int .u64 (gt (ast b Z) (nby k)))) [rro b ex (anx b Z (nby k))] := fun k => by
    have := RGetS_fs (B := b) (ex := ex) (A := Z) k z0 hl
    rw [hZ] at this ⊢
    exact this
  have z1 := z0.nx 1
  have z2 := z1.nx 1
  have z3 := z2.nx 1
  have z4 := z3.nx 2
  have z5 := z4.nx 4
  have a0 := z0.sok
  have a1 := a0.nx 1
  have a2 := a1.nx 1
  have a3 := a2.nx 1
  have a4 := a3.nx 2
  have a5 := a4.nx 4
  have rK := gt1 a0; have rH := gt1 a1; have rC := gt1 a2; have rO := gt2 a3; have rP := gt4 a4
  unfold rdm at hR0
  obtain ⟨s, es⟩ : ∃ s, ast b Z = s := ⟨_, rfl⟩
  simp only [es] at a0 a1 a2 a3 a4 a5 rK rH rC rO rP hR0 hG0 hk
  obtain ⟨kk, ek⟩ : ∃ K, gt s 1 = K := ⟨_, rfl⟩
  obtain ⟨hh, eh⟩ : ∃ H, gt (nx s 1) 1 = H := ⟨_, rfl⟩
  obtain ⟨cc, ec⟩ : ∃ C, gt (nx (nx s 1) 1) 1 = C := ⟨_, rfl⟩
  obtain ⟨oo, eo⟩ : ∃ O, gt (nx (nx (nx s 1) 1) 1) 2 = O := ⟨_, rfl⟩
  obtain ⟨pp, ep⟩ : ∃ P, gt (nx (nx (nx (nx s 1) 1) 1) 2) 4 = P := ⟨_, rfl⟩
  obtain ⟨t, et⟩ : ∃ t, nx (nx (nx (nx (nx s 1) 1) 1) 2) 4 = t := ⟨_, rfl⟩
  obtain ⟨T, eT'⟩ : ∃ T, anx b (anx b (anx b (anx b (anx b Z 1) 1) 1) 2) 4 = T := ⟨_, rfl⟩
  have hTt : ast b T = t := by rw [← eT', ← et, ← es]; simp only [ast_nx]
  rw [et] at a5
  rw [eT'] at z5
  rw [ek] at rK hk
  rw [eh] at rH
  rw [ec] at rC
  rw [eo] at rO
  rw [ep] at rP
  have rH0 := rH.1
  have wK : IntKind.i64.wrap kk = kk := wrap_i64 _ (by omega) (by omega)
  have wH : IntKind.i64.wrap hh = hh := wrap_i64 _ (by omega) (by omega)
  have wC : IntKind.i64.wrap cc = cc := wrap_i64 _ (by omega) (by omega)
  have wO : IntKind.i64.wrap oo = oo := wrap_i64 _ (by omega) (by omega)
  have wP : IntKind.u32.wrap pp = pp := by rw [wrap_u32]; omega
  simp only [Go.Gh.hK, Go.Gh.hH, Go.Gh.hC, Go.Gh.hO, Go.Gh.hP, Go.Gh.hS] at hR0
  rw [ek, eh, ec, eo, ep, et] at hR0
  have ht2 : t.2 = T.2 := by rw [← hTt]; rfl
  have hT3 := z5.2.1
  have hF1 : FS Try.prog 30 [.agg [.lit (.int .i64 kk), .lit (.int .i64 hh), .lit (.int .u32 pp), .lit (.int .i64 cc), .lit (.int .i64 oo), .lit (.int .u32 0), .lit (.int .i64 0), .lit (.int .u32 0), .lit (.int .i64 0), .lit (.int .u32 0), .lit (.int .u64 0), .lit (.int .u64 0), .lit (.slice none 0 0), .lit (.bool false), .lit (.int .u32 0), .lit (.int .u32 0), .lit (.slice none 0 0), .lit (.slice none 0 0)]] [] (.lit (.bool (wth kk 1 4))) [] := (R6first_fs ⟨kk, hh, pp, cc, oo, 0, 0, 0, 0, 0, rec0, false, 0, 0, [], [], [], []⟩).le (.cons (.agg (.cons (.refl _) (.cons (.refl _) (.cons (.refl _) (.cons (.refl _) (.cons (.refl _) (.cons (.refl _) (.cons (.refl _) (.cons (.refl _) (.cons (.refl _) (.cons (.refl _) (.cons (.refl _) (.cons (.refl _) (.cons (.nilS false 1) (.cons (.refl _) (.cons (.refl _) (.cons (.refl _) (.cons (.nilS false 3) (.cons (.nilS false 3) .nil))))))))))))))))))) .nil)
  repeat (first | (refine TW.tw ?_; (first | (refine TW.nil ?_; (first | (refine hK0 _ _ ?_; clear hK0 K0) | (refine hK1 _ _ _ (by kernel_rfl) ?_; clear hK1 K1)); try dsimp only [mk_msgTakeR0_14, thenR, blockR, loopR, mk_t, mk_f, mk_n]; try simp only [d1, d2, Bool.not_true, rro, nby1, nby2', nby4, ast_nx, es, ek, eh, ec, eo, ep, eT', wK, wH, wC, wO, wP, Int.toNat_natCast])|(refine TW.ca rfl ?_; first | refine TW.C0 (hF := hF1 ) (h := ?_)|refine TW.RC (ids := [_]) (hF := hG0 _) (h := ?_)|refine TW.C0 (hF := hF _ _ _) (h := ?_)|(refine TW.kc 44 rfl ?_; first | refine TW.RC (ids := [_]) (hF := R6readRec_fs (by repeat (first | assumption | refine aok.nx ?_ _ | refine arec_ok ?_ _)) (by assumption) (by assumption) (by assumption)) (h := ?_)|refine TW.RC (ids := [_]) (hF := R6readRec_fs (by assumption) (by assumption) (by assumption) (by assumption)) (h := ?_))|(refine TW.kc 43 rfl ?_; first | refine TW.RC (ids := [_]) (hF := RGetS_fs _ (by repeat (first | assumption | refine aok.nx ?_ _ | refine arec_ok ?_ _)) (by assumption)) (h := ?_)|refine TW.RC (ids := [_]) (hF := RGetS_fs _ (by first | assumption | exact aok.nx (by assumption) _) (by assumption)) (h := ?_))|(refine TW.kc 17 rfl ?_; first | refine TW.C0 (hF := HBytes_fs (by first | exact mbs_byt _ | exact packR_byt _ _) (by assumption)) (h := ?_)))|refine TW.gn (h := ?_)|(simp only [d1, d2, Bool.not_true, rro, nby1, nby2', nby4, ast_nx, es, ek, eh, ec, eo, ep, eT', wK, wH, wC, wO, wP]; refine TW.nm (h := ?_)))) | refine CS.seq fun K hK => ?_|(refine CS.regX 5 rfl mk_msgTakeR0_14 (fun K0 hK0 => ?_); try dsimp only [mp_s, mp_z])|(refine CS.drawX tab 5 rfl mk_msgTakeR0_14 (fun K1 hK1 => ?_); try dsimp only [mp_s, mp_z])|(refine hK _ _ ?_; clear hK K)|(clear hK K; refine hK _ _ ?_; clear hK K)|(clear hK K; clear hK K; refine hK _ _ ?_; clear hK K)|((first | refine CS_ret ?_ | refine CS_skip ?_ | refine CS_exit ?_ | rw [if_pos rfl] | rw [if_neg (by decide)]); try dsimp only [thenR, blockR, loopR])|refine CS.blk ?_|refine CS.yes rfl ?_|refine CS.no rfl ?_|simp only [d1, d2, Bool.not_true, rro, nby1, nby2', nby4, ast_nx, es, ek, eh, ec, eo, ep, eT', wK, wH, wC, wO, wP])
  clear a1 a2 a3 a4 a0 z0 z1 z2 z3 z4 hG0 hZ hs eT' ek eh ec eo ep et es rC rO rK
  have b1 := a5.nx 1
  cases dT : (T.2 != 0)
  case true =>
    have e3 : T.2 = 3 := by
      rcases hT3 with e | e
      · rw [e] at dT; cases dT
      · exact e
    have hne : t.2 ≠ 0 := by rw [ht2, e3]; decide
    rw [rdk_err hne, ht2] at hR0
    simp only [endM, dT, if_true] at hR0
    rw [e3] at hR0
    repeat (first | (refine TW.tw ?_; (first | (refine TW.nil ?_; (first | (refine hK0 _ _ ?_; clear hK0 K0) | (refine hK1 _ _ _ (by kernel_rfl) ?_; clear hK1 K1)); try dsimp only [mk_msgTakeR0_14, thenR, blockR, loopR, mk_t, mk_f, mk_n]; try simp only [dT, Int.toNat_natCast])|(refine TW.ca rfl ?_; first | refine TW.C0 (hF := hF1 ) (h := ?_)|refine TW.RC (ids := [_]) (hF := hG0 _) (h := ?_)|refine TW.C0 (hF := hF _ _ _) (h := ?_)|(refine TW.kc 44 rfl ?_; first | refine TW.RC (ids := [_]) (hF := R6readRec_fs (by repeat (first | assumption | refine aok.nx ?_ _ | refine arec_ok ?_ _)) (by assumption) (by assumption) (by assumption)) (h := ?_)|refine TW.RC (ids := [_]) (hF := R6readRec_fs (by assumption) (by assumption) (by assumption) (by assumption)) (h := ?_))|(refine TW.kc 43 rfl ?_; first | refine TW.RC (ids := [_]) (hF := RGetS_fs _ (by repeat (first | assumption | refine aok.nx ?_ _ | refine arec_ok ?_ _)) (by assumption)) (h := ?_)|refine TW.RC (ids := [_]) (hF := RGetS_fs _ (by first | assumption | exact aok.nx (by assumption) _) (by assumption)) (h := ?_))|(refine TW.kc 17 rfl ?_; first | refine TW.C0 (hF := HBytes_fs (by first | exact mbs_byt _ | exact packR_byt _ _) (by assumption)) (h := ?_)))|refine TW.gn (h := ?_)|(simp only [dT]; refine TW.nm (h := ?_)))) | refine CS.seq fun K hK => ?_|(refine CS.regl mk_msgTakeR0_14 (fun K0 hK0 => ?_); try dsimp only [mp_s, mp_z])|(refine CS.drawl tab mk_msgTakeR0_14 (fun K1 hK1 => ?_); try dsimp only [mp_s, mp_z])|(refine hK _ _ ?_; clear hK K)|(clear hK K; refine hK _ _ ?_; clear hK K)|(clear hK K; clear hK K; refine hK _ _ ?_; clear hK K)|((first | refine CS_ret ?_ | refine CS_skip ?_ | refine CS_exit ?_ | rw [if_pos rfl] | rw [if_neg (by decide)]); try dsimp only [thenR, blockR, loopR])|refine CS.blk ?_|refine CS.yes rfl ?_|refine CS.no rfl ?_|simp only [dT])
    exact hR0 _ _ _ (GS.nilO 0 12 1 rfl rfl (GS.nilO 0 16 3 rfl rfl (GS.nilO 0 17 3 rfl rfl (TW.fk []))))
  repeat (first | (refine TW.tw ?_; (first | (refine TW.nil ?_; (first | (refine hK0 _ _ ?_; clear hK0 K0) | (refine hK1 _ _ _ (by kernel_rfl) ?_; clear hK1 K1)); try dsimp only [mk_msgTakeR0_14, thenR, blockR, loopR, mk_t, mk_f, mk_n]; try simp only [dT, Int.toNat_natCast])|(refine TW.ca rfl ?_; first | refine TW.C0 (hF := hF1 ) (h := ?_)|refine TW.RC (ids := [_]) (hF := hG0 _) (h := ?_)|refine TW.C0 (hF := hF _ _ _) (h := ?_)|(refine TW.kc 44 rfl ?_; first | refine TW.RC (ids := [_]) (hF := R6readRec_fs (by repeat (first | assumption | refine aok.nx ?_ _ | refine arec_ok ?_ _)) (by assumption) (by assumption) (by assumption)) (h := ?_)|refine TW.RC (ids := [_]) (hF := R6readRec_fs (by assumption) (by assumption) (by assumption) (by assumption)) (h := ?_))|(refine TW.kc 43 rfl ?_; first | refine TW.RC (ids := [_]) (hF := RGetS_fs _ (by repeat (first | assumption | refine aok.nx ?_ _ | refine arec_ok ?_ _)) (by assumption)) (h := ?_)|refine TW.RC (ids := [_]) (hF := RGetS_fs _ (by first | assumption | exact aok.nx (by assumption) _) (by assumption)) (h := ?_))|(refine TW.kc 17 rfl ?_; first | refine TW.C0 (hF := HBytes_fs (by first | exact mbs_byt _ | exact packR_byt _ _) (by assumption)) (h := ?_)))|refine TW.gn (h := ?_)|(simp only [dT]; refine TW.nm (h := ?_)))) | refine CS.seq fun K hK => ?_|(refine CS.regX 9 rfl mk_msgTakeR0_14 (fun K0 hK0 => ?_); try dsimp only [mp_s, mp_z])|(refine CS.drawX tab 9 rfl mk_msgTakeR0_14 (fun K1 hK1 => ?_); try dsimp only [mp_s, mp_z])|(refine hK _ _ ?_; clear hK K)|(clear hK K; refine hK _ _ ?_; clear hK K)|(clear hK K; clear hK K; refine hK _ _ ?_; clear hK K)|((first | refine CS_ret ?_ | refine CS_skip ?_ | refine CS_exit ?_ | rw [if_pos rfl] | rw [if_neg (by decide)]); try dsimp only [thenR, blockR, loopR])|refine CS.blk ?_|refine CS.yes rfl ?_|refine CS.no rfl ?_|simp only [dT])
  have z6 := z5.nx 1
  have c4 := hk
  simp only [rdk, c4, if_true] at hR0
  have hk4 := wth_t c4
  have c5 : (kk == 5) = false := by simp; omega
  have c6 : (kk == 6) = false := by simp; omega
  have b2 := rrecS_ok b1 n.toNat
  have g4a := gt4 b2
  have g4b := gt4 (b2.nx 4)
  have g1a := gt1 b2
  have wo : IntKind.u32.wrap (gt (rrecS n.toNat (nx t 1)) 4) = gt (rrecS n.toNat (nx t 1)) 4 := by rw [wrap_u32]; omega
  have wt : IntKind.i64.wrap (gt (nx (rrecS n.toNat (nx t 1)) 4) 4) = gt (nx (rrecS n.toNat (nx t 1)) 4) 4 := wrap_i64 _ (by omega) (by omega)
  have wh : IntKind.i64.wrap (gt (rrecS n.toNat (nx t 1)) 1) = gt (rrecS n.toNat (nx t 1)) 1 := wrap_i64 _ (by omega) (by omega)
  have hvl : (rrec n.toNat (nx t 1)).vs.length = n.toNat := vls_len _ _
  have hdis : (decide (hh < n) = true ∧ hh < (((rrec n.toNat (nx t 1)).vs.map uuG).length : Int) ∧ ((rrec n.toNat (nx t 1)).vs.map uuG)[hh.toNat]? = some [.lit (.int .u32 ((rrec n.toNat (nx t 1)).vs.getD hh.toNat 0))] ∧ (eVal n hh (rrec n.toNat (nx t 1))) = (rrec n.toNat (nx t 1)).vs.getD hh.toNat 0) ∨ (decide (hh < n) = false ∧ True ∧ True ∧ (eVal n hh (rrec n.toNat (nx t 1))) = 0) := by
    by_cases c1 : hh < n
    · have hlt : hh.toNat < (rrec n.toNat (nx t 1)).vs.length := by omega
      exact .inl ⟨decide_eq_true c1, by rw [List.length_map, hvl]; omega, by rw [List.getElem?_map, List.getElem?_eq_getElem hlt, List.getD_eq_getElem?_getD, List.getElem?_eq_getElem hlt]; rfl, if_pos c1⟩
    · exact .inr ⟨decide_eq_false c1, trivial, trivial, if_neg c1⟩
  obtain ⟨w, hw⟩ : ∃ w, rdA n kk hh pp cc oo t = w := ⟨_, rfl⟩
  refine CS.ghost (GS.nilO 2 16 3 rfl rfl (GS.nilO 2 17 3 rfl rfl (GS.refl ?_)))
  rcases hdis with ⟨dh, hI1, hg, hev⟩ | ⟨dh, hI1, hg, hev⟩
  iterate 2
    · rcases (by omega : kk = 1 ∨ kk = 4 ∨ kk = 2 ∨ kk = 3) with e | e | e | e
      · have ho : hopk kk = true := by rw [e]; rfl
        have hbt : betk kk = false := by rw [e]; rfl
        have k1 : (kk == 1) = true := by rw [e]; rfl
        have k2 : (kk == 2) = false := by rw [e]; rfl
        have k3 : (kk == 3) = false := by rw [e]; rfl
        have hu : w.2 = nx (rrecS n.toNat (nx t 1)) 1 := by rw [← hw]; simp [rdA, ho, hbt, rdAS, eS]
        have hc : msG w.1 = [.lit (.int .i64 kk), .lit (.int .i64 hh), .lit (.int .u32 pp), .lit (.int .i64 cc), .lit (.int .i64 oo), .lit (.int .u32 (eVal n hh (rrec n.toNat (nx t 1)))), .lit (.int .i64 (gt (rrecS n.toNat (nx t 1)) 1)), .lit (.int .u32 0), .lit (.int .i64 0), .lit (.int .u32 (eVal n hh (rrec n.toNat (nx t 1)))), .lit (.int .u64 (rrec n.toNat (nx t 1)).id), .lit (.int .u64 (rrec n.toNat (nx t 1)).ver), .sl false 1 ((rrec n.toNat (nx t 1)).vs.map uuG) (rrec n.toNat (nx t 1)).ex, .lit (.bool (gt t 1 == 1)), .lit (.int .u32 0), .lit (.int .u32 0), .sl false 3 [] [], .sl false 3 [] []] := by
          rw [← hw]; simp [msG, rdA, ho, hbt, rdAS, eS, eO, eT]
        rw [hev] at hc
        have hQ := R6Pack_fs n (rdA_ok (n := n) (k := kk) (h := hh) (c := cc) (o := oo) a5 rP hn8)
        rw [hw, hc] at hQ
        have hV : ast b (anx b (arec b n.toNat (anx b T 1)) 1) = w.2 := by rw [hu]; simp only [ast_nx, ast_arec, hTt]
        have hV3 : ((anx b (arec b n.toNat (anx b T 1)) 1)).2 = 0 ∨ ((anx b (arec b n.toNat (anx b T 1)) 1)).2 = 3 := by
          have : aok b (anx b (arec b n.toNat (anx b T 1)) 1) := by repeat (first | assumption | refine aok.nx ?_ _ | refine arec_ok ?_ _)
          exact this.2.1
        rw [hw, ← hV, ast_2] at hR0
        cases de : (((anx b (arec b n.toNat (anx b T 1)) 1)).2 != 0)
        · cases hr : rightM n w.1 <;> cases hd : decide (mbs w.1 = b)
          all_goals simp only [endM, de, hr, hd, hc, Bool.and_true, Bool.and_false, Bool.and_self, Bool.false_eq_true, if_true, if_false] at hR0
          all_goals repeat (first | (refine TW.tw ?_; (first | (refine TW.nil ?_; (first | (refine hK0 _ _ ?_; clear hK0 K0) | (refine hK1 _ _ _ (by kernel_rfl) ?_; clear hK1 K1)); try dsimp only [mk_msgTakeR0_14, thenR, blockR, loopR, mk_t, mk_f, mk_n]; try simp only [rro, ast_nx, ast_arec, hTt, c4, c5, c6, k1, k2, k3, dh, rcG, wh, nby1, de, packE_if, packR_if, hr, hd, d40, d00, if_true, Bool.false_eq_true, if_false, Bool.not_true, Bool.not_false, Int.toNat_natCast])|(refine TW.ca rfl ?_; (try simp only [rro, ast_nx, ast_arec, hTt, c4, c5, c6, k1, k2, k3, dh, rcG, wh, nby1, de, packE_if, packR_if, hr, hd, d40, d00, if_true, Bool.false_eq_true, if_false, Bool.not_true, Bool.not_false]); first | refine TW.C0 (hF := hQ ) (h := ?_)|refine TW.C0 (hF := hF1 ) (h := ?_)|refine TW.RC (ids := [_]) (hF := hG0 _) (h := ?_)|refine TW.C0 (hF := hF _ _ _) (h := ?_)|(refine TW.kc 44 rfl ?_; first | refine TW.RC (ids := [_]) (hF := R6readRec_fs (by repeat (first | assumption | refine aok.nx ?_ _ | refine arec_ok ?_ _)) (by assumption) (by assumption) (by assumption)) (h := ?_)|refine TW.RC (ids := [_]) (hF := R6readRec_fs (by assumption) (by assumption) (by assumption) (by assumption)) (h := ?_))|(refine TW.kc 43 rfl ?_; first | refine TW.RC (ids := [_]) (hF := RGetS_fs _ (by repeat (first | assumption | refine aok.nx ?_ _ | refine arec_ok ?_ _)) (by assumption)) (h := ?_)|refine TW.RC (ids := [_]) (hF := RGetS_fs _ (by first | assumption | exact aok.nx (by assumption) _) (by assumption)) (h := ?_))|(refine TW.kc 17 rfl ?_; first | refine TW.C0 (hF := HBytes_fs (by first | exact mbs_byt _ | exact packR_byt _ _) (by assumption)) (h := ?_)))|refine TW.gn (h := ?_)|(simp only [rro, ast_nx, ast_arec, hTt, c4, c5, c6, k1, k2, k3, dh, rcG, wh, nby1, de, packE_if, packR_if, hr, hd, d40, d00, if_true, Bool.false_eq_true, if_false, Bool.not_true, Bool.not_false]; refine TW.nm (h := ?_)))) | refine CS.seq fun K hK => ?_|(refine CS.regl mk_msgTakeR0_14 (fun K0 hK0 => ?_); try dsimp only [mp_s, mp_z])|(refine CS.drawl tab mk_msgTakeR0_14 (fun K1 hK1 => ?_); try dsimp only [mp_s, mp_z])|(refine hK _ _ ?_; clear hK K)|(clear hK K; refine hK _ _ ?_; clear hK K)|(clear hK K; clear hK K; refine hK _ _ ?_; clear hK K)|((first | refine CS_ret ?_ | refine CS_skip ?_ | refine CS_exit ?_ | rw [if_pos rfl] | rw [if_neg (by decide)]); try dsimp only [thenR, blockR, loopR])|refine CS.blk ?_|refine CS.yes rfl ?_|refine CS.no rfl ?_|simp only [rro, ast_nx, ast_arec, hTt, c4, c5, c6, k1, k2, k3, dh, rcG, wh, nby1, de, packE_if, packR_if, hr, hd, d40, d00, if_true, Bool.false_eq_true, if_false, Bool.not_true, Bool.not_false])
          all_goals first | exact hR0 _ _ _ (TW.fk []) | exact hR0 _ _ _ (GS.nilO 0 12 1 rfl rfl (GS.nilO 0 16 3 rfl rfl (GS.nilO 0 17 3 rfl rfl (TW.fk []))))
        · have e3 : ((anx b (arec b n.toNat (anx b T 1)) 1)).2 = 3 := by
            rcases hV3 with e | e
            · rw [e] at de; cases de
            · exact e
          simp only [endM, de, if_true] at hR0
          rw [e3] at hR0
          repeat (first | (refine TW.tw ?_; (first | (refine TW.nil ?_; (first | (refine hK0 _ _ ?_; clear hK0 K0) | (refine hK1 _ _ _ (by kernel_rfl) ?_; clear hK1 K1)); try dsimp only [mk_msgTakeR0_14, thenR, blockR, loopR, mk_t, mk_f, mk_n]; try simp only [rro, ast_nx, ast_arec, hTt, c4, c5, c6, k1, k2, k3, dh, rcG, wh, nby1, de, Bool.not_true, Bool.not_false, Int.toNat_natCast])|(refine TW.ca rfl ?_; (try simp only [rro, ast_nx, ast_arec, hTt, c4, c5, c6, k1, k2, k3, dh, rcG, wh, nby1, de, Bool.not_true, Bool.not_false]); first | refine TW.C0 (hF := hQ ) (h := ?_)|refine TW.C0 (hF := hF1 ) (h := ?_)|refine TW.RC (ids := [_]) (hF := hG0 _) (h := ?_)|refine TW.C0 (hF := hF _ _ _) (h := ?_)|(refine TW.kc 44 rfl ?_; first | refine TW.RC (ids := [_]) (hF := R6readRec_fs (by repeat (first | assumption | refine aok.nx ?_ _ | refine arec_ok ?_ _)) (by assumption) (by assumption) (by assumption)) (h := ?_)|refine TW.RC (ids := [_]) (hF := R6readRec_fs (by assumption) (by assumption) (by assumption) (by assumption)) (h := ?_))|(refine TW.kc 43 rfl ?_; first | refine TW.RC (ids := [_]) (hF := RGetS_fs _ (by repeat (first | assumption | refine aok.nx ?_ _ | refine arec_ok ?_ _)) (by assumption)) (h := ?_)|refine TW.RC (ids := [_]) (hF := RGetS_fs _ (by first | assumption | exact aok.nx (by assumption) _) (by assumption)) (h := ?_))|(refine TW.kc 17 rfl ?_; first | refine TW.C0 (hF := HBytes_fs (by first | exact mbs_byt _ | exact packR_byt _ _) (by assumption)) (h := ?_)))|refine TW.gn (h := ?_)|(simp only [rro, ast_nx, ast_arec, hTt, c4, c5, c6, k1, k2, k3, dh, rcG, wh, nby1, de, Bool.not_true, Bool.not_false]; refine TW.nm (h := ?_)))) | refine CS.seq fun K hK => ?_|(refine CS.regl mk_msgTakeR0_14 (fun K0 hK0 => ?_); try dsimp only [mp_s, mp_z])|(refine CS.drawl tab mk_msgTakeR0_14 (fun K1 hK1 => ?_); try dsimp only [mp_s, mp_z])|(refine hK _ _ ?_; clear hK K)|(clear hK K; refine hK _ _ ?_; clear hK K)|(clear hK K; clear hK K; refine hK _ _ ?_; clear hK K)|((first | refine CS_ret ?_ | refine CS_skip ?_ | refine CS_exit ?_ | rw [if_pos rfl] | rw [if_neg (by decide)]); try dsimp only [thenR, blockR, loopR])|refine CS.blk ?_|refine CS.yes rfl ?_|refine CS.no rfl ?_|simp only [rro, ast_nx, ast_arec, hTt, c4, c5, c6, k1, k2, k3, dh, rcG, wh, nby1, de, Bool.not_true, Bool.not_false])
          exact hR0 _ _ _ (GS.nilO 0 12 1 rfl rfl (GS.nilO 0 16 3 rfl rfl (GS.nilO 0 17 3 rfl rfl (TW.fk []))))
      · have ho : hopk kk = false := by rw [e]; rfl
        have hbt : betk kk = false := by rw [e]; rfl
        have k1 : (kk == 1) = false := by rw [e]; rfl
        have k2 : (kk == 2) = false := by rw [e]; rfl
        have k3 : (kk == 3) = false := by rw [e]; rfl
        have hu : w.2 = (rrecS n.toNat (nx t 1)) := by rw [← hw]; simp [rdA, ho, hbt, rdAS, eS]
        have hc : msG w.1 = [.lit (.int .i64 kk), .lit (.int .i64 hh), .lit (.int .u32 pp), .lit (.int .i64 cc), .lit (.int .i64 oo), .lit (.int .u32 (eVal n hh (rrec n.toNat (nx t 1)))), .lit (.int .i64 0), .lit (.int .u32 0), .lit (.int .i64 0), .lit (.int .u32 (eVal n hh (rrec n.toNat (nx t 1)))), .lit (.int .u64 (rrec n.toNat (nx t 1)).id), .lit (.int .u64 (rrec n.toNat (nx t 1)).ver), .sl false 1 ((rrec n.toNat (nx t 1)).vs.map uuG) (rrec n.toNat (nx t 1)).ex, .lit (.bool (gt t 1 == 1)), .lit (.int .u32 0), .lit (.int .u32 0), .sl false 3 [] [], .sl false 3 [] []] := by
          rw [← hw]; simp [msG, rdA, ho, hbt, rdAS, eS, eO, eT]
        rw [hev] at hc
        have hQ := R6Pack_fs n (rdA_ok (n := n) (k := kk) (h := hh) (c := cc) (o := oo) a5 rP hn8)
        rw [hw, hc] at hQ
        have hV : ast b (arec b n.toNat (anx b T 1)) = w.2 := by rw [hu]; simp only [ast_nx, ast_arec, hTt]
        have hV3 : ((arec b n.toNat (anx b T 1))).2 = 0 ∨ ((arec b n.toNat (anx b T 1))).2 = 3 := by
          have : aok b (arec b n.toNat (anx b T 1)) := by repeat (first | assumption | refine aok.nx ?_ _ | refine arec_ok ?_ _)
          exact this.2.1
        rw [hw, ← hV, ast_2] at hR0
        cases de : (((arec b n.toNat (anx b T 1))).2 != 0)
        · cases hr : rightM n w.1 <;> cases hd : decide (mbs w.1 = b)
          all_goals simp only [endM, de, hr, hd, hc, Bool.and_true, Bool.and_false, Bool.and_self, Bool.false_eq_true, if_true, if_false] at hR0
          all_goals repeat (first | (refine TW.tw ?_; (first | (refine TW.nil ?_; (first | (refine hK0 _ _ ?_; clear hK0 K0) | (refine hK1 _ _ _ (by kernel_rfl) ?_; clear hK1 K1)); try dsimp only [mk_msgTakeR0_14, thenR, blockR, loopR, mk_t, mk_f, mk_n]; try simp only [rro, ast_nx, ast_arec, hTt, c4, c5, c6, k1, k2, k3, dh, rcG, nby1, de, packE_if, packR_if, hr, hd, d40, d00, if_true, Bool.false_eq_true, if_false, Bool.not_true, Bool.not_false, Int.toNat_natCast])|(refine TW.ca rfl ?_; (try simp only [rro, ast_nx, ast_arec, hTt, c4, c5, c6, k1, k2, k3, dh, rcG, nby1, de, packE_if, packR_if, hr, hd, d40, d00, if_true, Bool.false_eq_true, if_false, Bool.not_true, Bool.not_false]); first | refine TW.C0 (hF := hQ ) (h := ?_)|refine TW.C0 (hF := hF1 ) (h := ?_)|refine TW.RC (ids := [_]) (hF := hG0 _) (h := ?_)|refine TW.C0 (hF := hF _ _ _) (h := ?_)|(refine TW.kc 44 rfl ?_; first | refine TW.RC (ids := [_]) (hF := R6readRec_fs (by repeat (first | assumption | refine aok.nx ?_ _ | refine arec_ok ?_ _)) (by assumption) (by assumption) (by assumption)) (h := ?_)|refine TW.RC (ids := [_]) (hF := R6readRec_fs (by assumption) (by assumption) (by assumption) (by assumption)) (h := ?_))|(refine TW.kc 43 rfl ?_; first | refine TW.RC (ids := [_]) (hF := RGetS_fs _ (by repeat (first | assumption | refine aok.nx ?_ _ | refine arec_ok ?_ _)) (by assumption)) (h := ?_)|refine TW.RC (ids := [_]) (hF := RGetS_fs _ (by first | assumption | exact aok.nx (by assumption) _) (by assumption)) (h := ?_))|(refine TW.kc 17 rfl ?_; first | refine TW.C0 (hF := HBytes_fs (by first | exact mbs_byt _ | exact packR_byt _ _) (by assumption)) (h := ?_)))|refine TW.gn (h := ?_)|(simp only [rro, ast_nx, ast_arec, hTt, c4, c5, c6, k1, k2, k3, dh, rcG, nby1, de, packE_if, packR_if, hr, hd, d40, d00, if_true, Bool.false_eq_true, if_false, Bool.not_true, Bool.not_false]; refine TW.nm (h := ?_)))) | refine CS.seq fun K hK => ?_|(refine CS.regl mk_msgTakeR0_14 (fun K0 hK0 => ?_); try dsimp only [mp_s, mp_z])|(refine CS.drawl tab mk_msgTakeR0_14 (fun K1 hK1 => ?_); try dsimp only [mp_s, mp_z])|(refine hK _ _ ?_; clear hK K)|(clear hK K; refine hK _ _ ?_; clear hK K)|(clear hK K; clear hK K; refine hK _ _ ?_; clear hK K)|((first | refine CS_ret ?_ | refine CS_skip ?_ | refine CS_exit ?_ | rw [if_pos rfl] | rw [if_neg (by decide)]); try dsimp only [thenR, blockR, loopR])|refine CS.blk ?_|refine CS.yes rfl ?_|refine CS.no rfl ?_|simp only [rro, ast_nx, ast_arec, hTt, c4, c5, c6, k1, k2, k3, dh, rcG, nby1, de, packE_if, packR_if, hr, hd, d40, d00, if_true, Bool.false_eq_true, if_false, Bool.not_true, Bool.not_false])
          all_goals first | exact hR0 _ _ _ (TW.fk []) | exact hR0 _ _ _ (GS.nilO 0 12 1 rfl rfl (GS.nilO 0 16 3 rfl rfl (GS.nilO 0 17 3 rfl rfl (TW.fk []))))
        · have e3 : ((arec b n.toNat (anx b T 1))).2 = 3 := by
            rcases hV3 with e | e
            · rw [e] at de; cases de
            · exact e
          simp only [endM, de, if_true] at hR0
          rw [e3] at hR0
          repeat (first | (refine TW.tw ?_; (first | (refine TW.nil ?_; (first | (refine hK0 _ _ ?_; clear hK0 K0) | (refine hK1 _ _ _ (by kernel_rfl) ?_; clear hK1 K1)); try dsimp only [mk_msgTakeR0_14, thenR, blockR, loopR, mk_t, mk_f, mk_n]; try simp only [rro, ast_nx, ast_arec, hTt, c4, c5, c6, k1, k2, k3, dh, rcG, nby1, de, Bool.not_true, Bool.not_false, Int.toNat_natCast])|(refine TW.ca rfl ?_; (try simp only [rro, ast_nx, ast_arec, hTt, c4, c5, c6, k1, k2, k3, dh, rcG, nby1, de, Bool.not_true, Bool.not_false]); first | refine TW.C0 (hF := hQ ) (h := ?_)|refine TW.C0 (hF := hF1 ) (h := ?_)|refine TW.RC (ids := [_]) (hF := hG0 _) (h := ?_)|refine TW.C0 (hF := hF _ _ _) (h := ?_)|(refine TW.kc 44 rfl ?_; first | refine TW.RC (ids := [_]) (hF := R6readRec_fs (by repeat (first | assumption | refine aok.nx ?_ _ | refine arec_ok ?_ _)) (by assumption) (by assumption) (by assumption)) (h := ?_)|refine TW.RC (ids := [_]) (hF := R6readRec_fs (by assumption) (by assumption) (by assumption) (by assumption)) (h := ?_))|(refine TW.kc 43 rfl ?_; first | refine TW.RC (ids := [_]) (hF := RGetS_fs _ (by repeat (first | assumption | refine aok.nx ?_ _ | refine arec_ok ?_ _)) (by assumption)) (h := ?_)|refine TW.RC (ids := [_]) (hF := RGetS_fs _ (by first | assumption | exact aok.nx (by assumption) _) (by assumption)) (h := ?_))|(refine TW.kc 17 rfl ?_; first | refine TW.C0 (hF := HBytes_fs (by first | exact mbs_byt _ | exact packR_byt _ _) (by assumption)) (h := ?_)))|refine TW.gn (h := ?_)|(simp only [rro, ast_nx, ast_arec, hTt, c4, c5, c6, k1, k2, k3, dh, rcG, nby1, de, Bool.not_true, Bool.not_false]; refine TW.nm (h := ?_)))) | refine CS.seq fun K hK => ?_|(refine CS.regl mk_msgTakeR0_14 (fun K0 hK0 => ?_); try dsimp only [mp_s, mp_z])|(refine CS.drawl tab mk_msgTakeR0_14 (fun K1 hK1 => ?_); try dsimp only [mp_s, mp_z])|(refine hK _ _ ?_; clear hK K)|(clear hK K; refine hK _ _ ?_; clear hK K)|(clear hK K; clear hK K; refine hK _ _ ?_; clear hK K)|((first | refine CS_ret ?_ | refine CS_skip ?_ | refine CS_exit ?_ | rw [if_pos rfl] | rw [if_neg (by decide)]); try dsimp only [thenR, blockR, loopR])|refine CS.blk ?_|refine CS.yes rfl ?_|refine CS.no rfl ?_|simp only [rro, ast_nx, ast_arec, hTt, c4, c5, c6, k1, k2, k3, dh, rcG, nby1, de, Bool.not_true, Bool.not_false])
          exact hR0 _ _ _ (GS.nilO 0 12 1 rfl rfl (GS.nilO 0 16 3 rfl rfl (GS.nilO 0 17 3 rfl rfl (TW.fk []))))
      · have ho : hopk kk = false := by rw [e]; rfl
        have hbt : betk kk = true := by rw [e]; rfl
        have k1 : (kk == 1) = false := by rw [e]; rfl
        have k2 : (kk == 2) = true := by rw [e]; rfl
        have k3 : (kk == 3) = false := by rw [e]; rfl
        have hu : w.2 = nx (nx (rrecS n.toNat (nx t 1)) 4) 4 := by rw [← hw]; simp [rdA, ho, hbt, rdAS, eS]
        have hc : msG w.1 = [.lit (.int .i64 kk), .lit (.int .i64 hh), .lit (.int .u32 pp), .lit (.int .i64 cc), .lit (.int .i64 oo), .lit (.int .u32 (eVal n hh (rrec n.toNat (nx t 1)))), .lit (.int .i64 0), .lit (.int .u32 (gt (rrecS n.toNat (nx t 1)) 4)), .lit (.int .i64 (gt (nx (rrecS n.toNat (nx t 1)) 4) 4)), .lit (.int .u32 (eVal n hh (rrec n.toNat (nx t 1)))), .lit (.int .u64 (rrec n.toNat (nx t 1)).id), .lit (.int .u64 (rrec n.toNat (nx t 1)).ver), .sl false 1 ((rrec n.toNat (nx t 1)).vs.map uuG) (rrec n.toNat (nx t 1)).ex, .lit (.bool (gt t 1 == 1)), .lit (.int .u32 0), .lit (.int .u32 0), .sl false 3 [] [], .sl false 3 [] []] := by
          rw [← hw]; simp [msG, rdA, ho, hbt, rdAS, eS, eO, eT]
        rw [hev] at hc
        have hQ := R6Pack_fs n (rdA_ok (n := n) (k := kk) (h := hh) (c := cc) (o := oo) a5 rP hn8)
        rw [hw, hc] at hQ
        have hV : ast b (anx b (anx b (arec b n.toNat (anx b T 1)) 4) 4) = w.2 := by rw [hu]; simp only [ast_nx, ast_arec, hTt]
        have hV3 : ((anx b (anx b (arec b n.toNat (anx b T 1)) 4) 4)).2 = 0 ∨ ((anx b (anx b (arec b n.toNat (anx b T 1)) 4) 4)).2 = 3 := by
          have : aok b (anx b (anx b (arec b n.toNat (anx b T 1)) 4) 4) := by repeat (first | assumption | refine aok.nx ?_ _ | refine arec_ok ?_ _)
          exact this.2.1
        rw [hw, ← hV, ast_2] at hR0
        cases de : (((anx b (anx b (arec b n.toNat (anx b T 1)) 4) 4)).2 != 0)
        · cases hr : rightM n w.1 <;> cases hd : decide (mbs w.1 = b)
          all_goals simp only [endM, de, hr, hd, hc, Bool.and_true, Bool.and_false, Bool.and_self, Bool.false_eq_true, if_true, if_false] at hR0
          all_goals repeat (first | (refine TW.tw ?_; (first | (refine TW.nil ?_; (first | (refine hK0 _ _ ?_; clear hK0 K0) | (refine hK1 _ _ _ (by kernel_rfl) ?_; clear hK1 K1)); try dsimp only [mk_msgTakeR0_14, thenR, blockR, loopR, mk_t, mk_f, mk_n]; try simp only [rro, ast_nx, ast_arec, hTt, c4, c5, c6, k1, k2, k3, dh, rcG, wo, wt, nby4, nby1, de, packE_if, packR_if, hr, hd, d40, d00, if_true, Bool.false_eq_true, if_false, Bool.not_true, Bool.not_false, Int.toNat_natCast])|(refine TW.ca rfl ?_; (try simp only [rro, ast_nx, ast_arec, hTt, c4, c5, c6, k1, k2, k3, dh, rcG, wo, wt, nby4, nby1, de, packE_if, packR_if, hr, hd, d40, d00, if_true, Bool.false_eq_true, if_false, Bool.not_true, Bool.not_false]); first | refine TW.C0 (hF := hQ ) (h := ?_)|refine TW.C0 (hF := hF1 ) (h := ?_)|refine TW.RC (ids := [_]) (hF := hG0 _) (h := ?_)|refine TW.C0 (hF := hF _ _ _) (h := ?_)|(refine TW.kc 44 rfl ?_; first | refine TW.RC (ids := [_]) (hF := R6readRec_fs (by repeat (first | assumption | refine aok.nx ?_ _ | refine arec_ok ?_ _)) (by assumption) (by assumption) (by assumption)) (h := ?_)|refine TW.RC (ids := [_]) (hF := R6readRec_fs (by assumption) (by assumption) (by assumption) (by assumption)) (h := ?_))|(refine TW.kc 43 rfl ?_; first | refine TW.RC (ids := [_]) (hF := RGetS_fs _ (by repeat (first | assumption | refine aok.nx ?_ _ | refine arec_ok ?_ _)) (by assumption)) (h := ?_)|refine TW.RC (ids := [_]) (hF := RGetS_fs _ (by first | assumption | exact aok.nx (by assumption) _) (by assumption)) (h := ?_))|(refine TW.kc 17 rfl ?_; first | refine TW.C0 (hF := HBytes_fs (by first | exact mbs_byt _ | exact packR_byt _ _) (by assumption)) (h := ?_)))|refine TW.gn (h := ?_)|(simp only [rro, ast_nx, ast_arec, hTt, c4, c5, c6, k1, k2, k3, dh, rcG, wo, wt, nby4, nby1, de, packE_if, packR_if, hr, hd, d40, d00, if_true, Bool.false_eq_true, if_false, Bool.not_true, Bool.not_false]; refine TW.nm (h := ?_)))) | refine CS.seq fun K hK => ?_|(refine CS.regl mk_msgTakeR0_14 (fun K0 hK0 => ?_); try dsimp only [mp_s, mp_z])|(refine CS.drawl tab mk_msgTakeR0_14 (fun K1 hK1 => ?_); try dsimp only [mp_s, mp_z])|(refine hK _ _ ?_; clear hK K)|(clear hK K; refine hK _ _ ?_; clear hK K)|(clear hK K; clear hK K; refine hK _ _ ?_; clear hK K)|((first | refine CS_ret ?_ | refine CS_skip ?_ | refine CS_exit ?_ | rw [if_pos rfl] | rw [if_neg (by decide)]); try dsimp only [thenR, blockR, loopR])|refine CS.blk ?_|refine CS.yes rfl ?_|refine CS.no rfl ?_|simp only [rro, ast_nx, ast_arec, hTt, c4, c5, c6, k1, k2, k3, dh, rcG, wo, wt, nby4, nby1, de, packE_if, packR_if, hr, hd, d40, d00, if_true, Bool.false_eq_true, if_false, Bool.not_true, Bool.not_false])
          all_goals first | exact hR0 _ _ _ (TW.fk []) | exact hR0 _ _ _ (GS.nilO 0 12 1 rfl rfl (GS.nilO 0 16 3 rfl rfl (GS.nilO 0 17 3 rfl rfl (TW.fk []))))
        · have e3 : ((anx b (anx b (arec b n.toNat (anx b T 1)) 4) 4)).2 = 3 := by
            rcases hV3 with e | e
            · rw [e] at de; cases de
            · exact e
          simp only [endM, de, if_true] at hR0
          rw [e3] at hR0
          repeat (first | (refine TW.tw ?_; (first | (refine TW.nil ?_; (first | (refine hK0 _ _ ?_; clear hK0 K0) | (refine hK1 _ _ _ (by kernel_rfl) ?_; clear hK1 K1)); try dsimp only [mk_msgTakeR0_14, thenR, blockR, loopR, mk_t, mk_f, mk_n]; try simp only [rro, ast_nx, ast_arec, hTt, c4, c5, c6, k1, k2, k3, dh, rcG, wo, wt, nby4, nby1, de, Bool.not_true, Bool.not_false, Int.toNat_natCast])|(refine TW.ca rfl ?_; (try simp only [rro, ast_nx, ast_arec, hTt, c4, c5, c6, k1, k2, k3, dh, rcG, wo, wt, nby4, nby1, de, Bool.not_true, Bool.not_false]); first | refine TW.C0 (hF := hQ ) (h := ?_)|refine TW.C0 (hF := hF1 ) (h := ?_)|refine TW.RC (ids := [_]) (hF := hG0 _) (h := ?_)|refine TW.C0 (hF := hF _ _ _) (h := ?_)|(refine TW.kc 44 rfl ?_; first | refine TW.RC (ids := [_]) (hF := R6readRec_fs (by repeat (first | assumption | refine aok.nx ?_ _ | refine arec_ok ?_ _)) (by assumption) (by assumption) (by assumption)) (h := ?_)|refine TW.RC (ids := [_]) (hF := R6readRec_fs (by assumption) (by assumption) (by assumption) (by assumption)) (h := ?_))|(refine TW.kc 43 rfl ?_; first | refine TW.RC (ids := [_]) (hF := RGetS_fs _ (by repeat (first | assumption | refine aok.nx ?_ _ | refine arec_ok ?_ _)) (by assumption)) (h := ?_)|refine TW.RC (ids := [_]) (hF := RGetS_fs _ (by first | assumption | exact aok.nx (by assumption) _) (by assumption)) (h := ?_))|(refine TW.kc 17 rfl ?_; first | refine TW.C0 (hF := HBytes_fs (by first | exact mbs_byt _ | exact packR_byt _ _) (by assumption)) (h := ?_)))|refine TW.gn (h := ?_)|(simp only [rro, ast_nx, ast_arec, hTt, c4, c5, c6, k1, k2, k3, dh, rcG, wo, wt, nby4, nby1, de, Bool.not_true, Bool.not_false]; refine TW.nm (h := ?_)))) | refine CS.seq fun K hK => ?_|(refine CS.regl mk_msgTakeR0_14 (fun K0 hK0 => ?_); try dsimp only [mp_s, mp_z])|(refine CS.drawl tab mk_msgTakeR0_14 (fun K1 hK1 => ?_); try dsimp only [mp_s, mp_z])|(refine hK _ _ ?_; clear hK K)|(clear hK K; refine hK _ _ ?_; clear hK K)|(clear hK K; clear hK K; refine hK _ _ ?_; clear hK K)|((first | refine CS_ret ?_ | refine CS_skip ?_ | refine CS_exit ?_ | rw [if_pos rfl] | rw [if_neg (by decide)]); try dsimp only [thenR, blockR, loopR])|refine CS.blk ?_|refine CS.yes rfl ?_|refine CS.no rfl ?_|simp only [rro, ast_nx, ast_arec, hTt, c4, c5, c6, k1, k2, k3, dh, rcG, wo, wt, nby4, nby1, de, Bool.not_true, Bool.not_false])
          exact hR0 _ _ _ (GS.nilO 0 12 1 rfl rfl (GS.nilO 0 16 3 rfl rfl (GS.nilO 0 17 3 rfl rfl (TW.fk []))))
      · have ho : hopk kk = false := by rw [e]; rfl
        have hbt : betk kk = true := by rw [e]; rfl
        have k1 : (kk == 1) = false := by rw [e]; rfl
        have k2 : (kk == 2) = false := by rw [e]; rfl
        have k3 : (kk == 3) = true := by rw [e]; rfl
        have hu : w.2 = nx (nx (rrecS n.toNat (nx t 1)) 4) 4 := by rw [← hw]; simp [rdA, ho, hbt, rdAS, eS]
        have hc : msG w.1 = [.lit (.int .i64 kk), .lit (.int .i64 hh), .lit (.int .u32 pp), .lit (.int .i64 cc), .lit (.int .i64 oo), .lit (.int .u32 (eVal n hh (rrec n.toNat (nx t 1)))), .lit (.int .i64 0), .lit (.int .u32 (gt (rrecS n.toNat (nx t 1)) 4)), .lit (.int .i64 (gt (nx (rrecS n.toNat (nx t 1)) 4) 4)), .lit (.int .u32 (eVal n hh (rrec n.toNat (nx t 1)))), .lit (.int .u64 (rrec n.toNat (nx t 1)).id), .lit (.int .u64 (rrec n.toNat (nx t 1)).ver), .sl false 1 ((rrec n.toNat (nx t 1)).vs.map uuG) (rrec n.toNat (nx t 1)).ex, .lit (.bool (gt t 1 == 1)), .lit (.int .u32 0), .lit (.int .u32 0), .sl false 3 [] [], .sl false 3 [] []] := by
          rw [← hw]; simp [msG, rdA, ho, hbt, rdAS, eS, eO, eT]
        rw [hev] at hc
        have hQ := R6Pack_fs n (rdA_ok (n := n) (k := kk) (h := hh) (c := cc) (o := oo) a5 rP hn8)
        rw [hw, hc] at hQ
        have hV : ast b (anx b (anx b (arec b n.toNat (anx b T 1)) 4) 4) = w.2 := by rw [hu]; simp only [ast_nx, ast_arec, hTt]
        have hV3 : ((anx b (anx b (arec b n.toNat (anx b T 1)) 4) 4)).2 = 0 ∨ ((anx b (anx b (arec b n.toNat (anx b T 1)) 4) 4)).2 = 3 := by
          have : aok b (anx b (anx b (arec b n.toNat (anx b T 1)) 4) 4) := by repeat (first | assumption | refine aok.nx ?_ _ | refine arec_ok ?_ _)
          exact this.2.1
        rw [hw, ← hV, ast_2] at hR0
        cases de : (((anx b (anx b (arec b n.toNat (anx b T 1)) 4) 4)).2 != 0)
        · cases hr : rightM n w.1 <;> cases hd : decide (mbs w.1 = b)
          all_goals simp only [endM, de, hr, hd, hc, Bool.and_true, Bool.and_false, Bool.and_self, Bool.false_eq_true, if_true, if_false] at hR0
          all_goals repeat (first | (refine TW.tw ?_; (first | (refine TW.nil ?_; (first | (refine hK0 _ _ ?_; clear hK0 K0) | (refine hK1 _ _ _ (by kernel_rfl) ?_; clear hK1 K1)); try dsimp only [mk_msgTakeR0_14, thenR, blockR, loopR, mk_t, mk_f, mk_n]; try simp only [rro, ast_nx, ast_arec, hTt, c4, c5, c6, k1, k2, k3, dh, rcG, wo, wt, nby4, nby1, de, packE_if, packR_if, hr, hd, d40, d00, if_true, Bool.false_eq_true, if_false, Bool.not_true, Bool.not_false, Int.toNat_natCast])|(refine TW.ca rfl ?_; (try simp only [rro, ast_nx, ast_arec, hTt, c4, c5, c6, k1, k2, k3, dh, rcG, wo, wt, nby4, nby1, de, packE_if, packR_if, hr, hd, d40, d00, if_true, Bool.false_eq_true, if_false, Bool.not_true, Bool.not_false]); first | refine TW.C0 (hF := hQ ) (h := ?_)|refine TW.C0 (hF := hF1 ) (h := ?_)|refine TW.RC (ids := [_]) (hF := hG0 _) (h := ?_)|refine TW.C0 (hF := hF _ _ _) (h := ?_)|(refine TW.kc 44 rfl ?_; first | refine TW.RC (ids := [_]) (hF := R6readRec_fs (by repeat (first | assumption | refine aok.nx ?_ _ | refine arec_ok ?_ _)) (by assumption) (by assumption) (by assumption)) (h := ?_)|refine TW.RC (ids := [_]) (hF := R6readRec_fs (by assumption) (by assumption) (by assumption) (by assumption)) (h := ?_))|(refine TW.kc 43 rfl ?_; first | refine TW.RC (ids := [_]) (hF := RGetS_fs _ (by repeat (first | assumption | refine aok.nx ?_ _ | refine arec_ok ?_ _)) (by assumption)) (h := ?_)|refine TW.RC (ids := [_]) (hF := RGetS_fs _ (by first | assumption | exact aok.nx (by assumption) _) (by assumption)) (h := ?_))|(refine TW.kc 17 rfl ?_; first | refine TW.C0 (hF := HBytes_fs (by first | exact mbs_byt _ | exact packR_byt _ _) (by assumption)) (h := ?_)))|refine TW.gn (h := ?_)|(simp only [rro, ast_nx, ast_arec, hTt, c4, c5, c6, k1, k2, k3, dh, rcG, wo, wt, nby4, nby1, de, packE_if, packR_if, hr, hd, d40, d00, if_true, Bool.false_eq_true, if_false, Bool.not_true, Bool.not_false]; refine TW.nm (h := ?_)))) | refine CS.seq fun K hK => ?_|(refine CS.regl mk_msgTakeR0_14 (fun K0 hK0 => ?_); try dsimp only [mp_s, mp_z])|(refine CS.drawl tab mk_msgTakeR0_14 (fun K1 hK1 => ?_); try dsimp only [mp_s, mp_z])|(refine hK _ _ ?_; clear hK K)|(clear hK K; refine hK _ _ ?_; clear hK K)|(clear hK K; clear hK K; refine hK _ _ ?_; clear hK K)|((first | refine CS_ret ?_ | refine CS_skip ?_ | refine CS_exit ?_ | rw [if_pos rfl] | rw [if_neg (by decide)]); try dsimp only [thenR, blockR, loopR])|refine CS.blk ?_|refine CS.yes rfl ?_|refine CS.no rfl ?_|simp only [rro, ast_nx, ast_arec, hTt, c4, c5, c6, k1, k2, k3, dh, rcG, wo, wt, nby4, nby1, de, packE_if, packR_if, hr, hd, d40, d00, if_true, Bool.false_eq_true, if_false, Bool.not_true, Bool.not_false])
          all_goals first | exact hR0 _ _ _ (TW.fk []) | exact hR0 _ _ _ (GS.nilO 0 12 1 rfl rfl (GS.nilO 0 16 3 rfl rfl (GS.nilO 0 17 3 rfl rfl (TW.fk []))))
        · have e3 : ((anx b (anx b (arec b n.toNat (anx b T 1)) 4) 4)).2 = 3 := by
            rcases hV3 with e | e
            · rw [e] at de; cases de
            · exact e
          simp only [endM, de, if_true] at hR0
          rw [e3] at hR0
          repeat (first | (refine TW.tw ?_; (first | (refine TW.nil ?_; (first | (refine hK0 _ _ ?_; clear hK0 K0) | (refine hK1 _ _ _ (by kernel_rfl) ?_; clear hK1 K1)); try dsimp only [mk_msgTakeR0_14, thenR, blockR, loopR, mk_t, mk_f, mk_n]; try simp only [rro, ast_nx, ast_arec, hTt, c4, c5, c6, k1, k2, k3, dh, rcG, wo, wt, nby4, nby1, de, Bool.not_true, Bool.not_false, Int.toNat_natCast])|(refine TW.ca rfl ?_; (try simp only [rro, ast_nx, ast_arec, hTt, c4, c5, c6, k1, k2, k3, dh, rcG, wo, wt, nby4, nby1, de, Bool.not_true, Bool.not_false]); first | refine TW.C0 (hF := hQ ) (h := ?_)|refine TW.C0 (hF := hF1 ) (h := ?_)|refine TW.RC (ids := [_]) (hF := hG0 _) (h := ?_)|refine TW.C0 (hF := hF _ _ _) (h := ?_)|(refine TW.kc 44 rfl ?_; first | refine TW.RC (ids := [_]) (hF := R6readRec_fs (by repeat (first | assumption | refine aok.nx ?_ _ | refine arec_ok ?_ _)) (by assumption) (by assumption) (by assumption)) (h := ?_)|refine TW.RC (ids := [_]) (hF := R6readRec_fs (by assumption) (by assumption) (by assumption) (by assumption)) (h := ?_))|(refine TW.kc 43 rfl ?_; first | refine TW.RC (ids := [_]) (hF := RGetS_fs _ (by repeat (first | assumption | refine aok.nx ?_ _ | refine arec_ok ?_ _)) (by assumption)) (h := ?_)|refine TW.RC (ids := [_]) (hF := RGetS_fs _ (by first | assumption | exact aok.nx (by assumption) _) (by assumption)) (h := ?_))|(refine TW.kc 17 rfl ?_; first | refine TW.C0 (hF := HBytes_fs (by first | exact mbs_byt _ | exact packR_byt _ _) (by assumption)) (h := ?_)))|refine TW.gn (h := ?_)|(simp only [rro, ast_nx, ast_arec, hTt, c4, c5, c6, k1, k2, k3, dh, rcG, wo, wt, nby4, nby1, de, Bool.not_true, Bool.not_false]; refine TW.nm (h := ?_)))) | refine CS.seq fun K hK => ?_|(refine CS.regl mk_msgTakeR0_14 (fun K0 hK0 => ?_); try dsimp only [mp_s, mp_z])|(refine CS.drawl tab mk_msgTakeR0_14 (fun K1 hK1 => ?_); try dsimp only [mp_s, mp_z])|(refine hK _ _ ?_; clear hK K)|(clear hK K; refine hK _ _ ?_; clear hK K)|(clear hK K; clear hK K; refine hK _ _ ?_; clear hK K)|((first | refine CS_ret ?_ | refine CS_skip ?_ | refine CS_exit ?_ | rw [if_pos rfl] | rw [if_neg (by decide)]); try dsimp only [thenR, blockR, loopR])|refine CS.blk ?_|refine CS.yes rfl ?_|refine CS.no rfl ?_|simp only [rro, ast_nx, ast_arec, hTt, c4, c5, c6, k1, k2, k3, dh, rcG, wo, wt, nby4, nby1, de, Bool.not_true, Bool.not_false])
          exact hR0 _ _ _ (GS.nilO 0 12 1 rfl rfl (GS.nilO 0 16 3 rfl rfl (GS.nilO 0 17 3 rfl rfl (TW.fk []))))
end Go.Gh

