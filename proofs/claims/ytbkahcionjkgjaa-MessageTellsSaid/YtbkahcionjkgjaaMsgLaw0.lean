import Derived.Test.YtbkahcionjkgjaaMsgTake

namespace Go.Gh
def mk_msgLaw0_8 : List Bool := [true, true, true, true, false, false, false, false, true, false, false, false, false, false, false, false, false, false, true, false, false, false, false, false, false, false, false, false, false, false, false, false, false, false, false, false, false]
def mk_msgLaw0_9 : List Bool := [true, true, true, true, false, true, false, false, false, false, false, false, false, false, false, false, false, false, false, false, false, false, false, false, false, false, false, false, false, false, false, false, false]
open Go.Proofs
set_option linter.unusedVariables false
set_option linter.unusedSimpArgs false

/-! Layer 6: what the laws share. -/
/-- A message that is handed in. -/
structure RcW (r : RecV) : Prop where
  id : u64r r.id
  ver : u64r r.ver
  vs : ∀ v, v ∈ r.vs → u32r v
structure MsgW (m : MsgV) : Prop where
  point : u32r m.point
  target : u32r m.target
  owner : u32r m.owner
  ev : u32r m.ev
  er : RcW m.er
  sf : u32r m.sf
  st : u32r m.st
  box : ∀ r, r ∈ m.box → rgok r
  recs : ∀ r, r ∈ m.recs → RcW r
  rl : m.recs.length ≤ 9223372036854775807
def fewB (m : MsgV) : Bool := m.recs.all (fun r => decide ((r.vs.length : Int) ≤ 20)) && (decide ((m.recs.length : Int) ≤ 40) && (decide ((m.box.length : Int) ≤ 300) && decide ((m.er.vs.length : Int) ≤ 20)))
theorem fewB_ok {m : MsgV} (h : MsgW m) (hf : fewB m = true) : MsgOk m := by
  simp only [fewB, Bool.and_eq_true, decide_eq_true_eq, List.all_eq_true] at hf
  obtain ⟨f1, f2, f3, f4⟩ := hf
  exact ⟨h.point, h.target, h.owner, h.ev, ⟨h.er.id, h.er.ver, h.er.vs, by omega⟩, h.sf, h.st, h.box, by omega,
    fun r hr => ⟨(h.recs r hr).id, (h.recs r hr).ver, (h.recs r hr).vs, by have := f1 r hr; omega⟩, by omega⟩

set_option maxRecDepth 8000 in
set_option maxHeartbeats 16000000 in
theorem few_fs {m : MsgV} (h : MsgW m) : FS Try.prog 8 [.agg (msG m)] [] (.lit (.bool (fewB m))) [] := by
  refine FS.enterG Try.func8 rfl fun R0 hR0 => ?_
  simp only [Try.ntmps8, List.length_cons, List.length_nil, List.replicate_succ, List.replicate_zero, List.cons_append, List.nil_append, Nat.reduceAdd, Nat.reduceSub]
  have rl := h.rl
  unfold fewB at hR0
  obtain ⟨p, hp⟩ : ∃ p : RecV → Bool, p = fun r => decide ((r.vs.length : Int) ≤ 20) := ⟨_, rfl⟩
  have hpv : ∀ r, p r = decide ((r.vs.length : Int) ≤ 20) := fun r => by rw [hp]
  rw [← hp] at hR0
  simp only [msG]
  repeat (first | (refine TW.tw ?_; (first | (refine TW.nil ?_; (first | (refine hK0 _ _ ?_; clear hK0 K0) | (refine hK1 _ _ _ (by kernel_rfl) ?_; clear hK1 K1)); try dsimp only [mk_msgLaw0_8, thenR, blockR, loopR, mk_t, mk_f, mk_n])|(refine TW.ca rfl ?_; first | refine TW.C0 (hF := hQ ) (h := ?_)|refine TW.RC (ids := [_]) (hF := hM ) (h := ?_)|refine TW.C0 (hF := hF _ _ _) (h := ?_)|refine TW.RC (ids := [_, _]) (hF := hE ) (h := ?_)|refine TW.C0 (hF := hR ) (h := ?_)|refine TW.C0 (hF := hH ) (h := ?_)|refine TW.C0 (hF := hA ) (h := ?_)|refine TW.C0 (hF := hRr ) (h := ?_)|refine TW.C0 (hF := hN ) (h := ?_))|refine TW.gn (h := ?_))) | refine CS.seq fun K hK => ?_|(refine CS.regl mk_msgLaw0_8 (fun K0 hK0 => ?_); try dsimp only [mp_s, mp_z])|(refine CS.drawl tab mk_msgLaw0_8 (fun K1 hK1 => ?_); try dsimp only [mp_s, mp_z])|(refine hK _ _ ?_; clear hK K)|(clear hK K; refine hK _ _ ?_; clear hK K)|(clear hK K; clear hK K; refine hK _ _ ?_; clear hK K)|(clear hK K; clear hK K; clear hK K; refine hK _ _ ?_; clear hK K)|((first | refine CS_ret ?_ | refine CS_skip ?_ | refine CS_exit ?_ | rw [if_pos rfl] | rw [if_neg (by decide)]); try dsimp only [thenR, blockR, loopR])|refine CS.blk ?_|refine CS.yes rfl ?_|refine CS.no rfl ?_)
  refine CS.lp (fun i : Nat => i ≤ m.recs.length ∧ (m.recs.drop i).all p = m.recs.all p)
    (fun i => ([.any, .adr 0 0 0, .lit (.bool false), .lit (.int .i64 i)] ++ List.replicate 33 .any))
    (fun i => [.cells (msG m)]) (fun i => m.recs.length - i) 0 [0] [false, true, true, true] (by decide) rfl ⟨Nat.zero_le _, rfl⟩ rfl rfl ?_
  rintro i ⟨hi1, hi2⟩
  simp only [msG, List.replicate_succ, List.replicate_zero, List.cons_append, List.nil_append]
  by_cases c : i < m.recs.length
  · have d := int_lt c
    have hg := map_at (f := rcG) c
    have hI0 : (0 : Int) ≤ (i : Int) := by omega
    have hI1 : (i : Int) < ((m.recs.map rcG).length : Int) := by simp; omega
    have ew := wrap_nat (n := i) (by omega)
    have m1 : m.recs.length - (i + 1) < m.recs.length - i := by omega
    rw [all_at c] at hi2
    simp only [rcG] at hg
    generalize m.recs[i] = r at *
    cases hk : p r
    · rw [hk, Bool.false_and] at hi2
      rw [← hi2, Bool.false_and] at hR0
      have d2 : decide ((r.vs.length : Int) > 20) = true := by rw [hpv] at hk; exact decide_eq_true (by have := of_decide_eq_false hk; omega)
      repeat (first | (refine TW.tw ?_; (first | (refine TW.nil ?_; (first | (refine hK0 _ _ ?_; clear hK0 K0) | (refine hK1 _ _ _ (by kernel_rfl) ?_; clear hK1 K1)); try dsimp only [mk_msgLaw0_8, thenR, blockR, loopR, mk_t, mk_f, mk_n]; try simp only [List.length_map, d, d2, Int.toNat_natCast])|(refine TW.ca rfl ?_; first | refine TW.C0 (hF := hQ ) (h := ?_)|refine TW.RC (ids := [_]) (hF := hM ) (h := ?_)|refine TW.C0 (hF := hF _ _ _) (h := ?_)|refine TW.RC (ids := [_, _]) (hF := hE ) (h := ?_)|refine TW.C0 (hF := hR ) (h := ?_)|refine TW.C0 (hF := hH ) (h := ?_)|refine TW.C0 (hF := hA ) (h := ?_)|refine TW.C0 (hF := hRr ) (h := ?_)|refine TW.C0 (hF := hN ) (h := ?_))|refine TW.gn (h := ?_)|(simp only [List.length_map, d, d2]; refine TW.nm (h := ?_)))) | refine CS.seq fun K hK => ?_|(refine CS.regl mk_msgLaw0_8 (fun K0 hK0 => ?_); try dsimp only [mp_s, mp_z])|(refine CS.drawl tab mk_msgLaw0_8 (fun K1 hK1 => ?_); try dsimp only [mp_s, mp_z])|(refine hK _ _ ?_; clear hK K)|(clear hK K; refine hK _ _ ?_; clear hK K)|(clear hK K; clear hK K; refine hK _ _ ?_; clear hK K)|(clear hK K; clear hK K; clear hK K; refine hK _ _ ?_; clear hK K)|((first | refine CS_ret ?_ | refine CS_skip ?_ | refine CS_exit ?_ | rw [if_pos rfl] | rw [if_neg (by decide)]); try dsimp only [thenR, blockR, loopR])|refine CS.blk ?_|refine CS.yes rfl ?_|refine CS.no rfl ?_|simp only [List.length_map, d, d2])
      exact hR0 _ _ _ (by exact GS.refl ⟨(by first | exact .inr rfl | exact .inl rfl), _, [], gresT_ok tab rfl, by decide, rfl, rfl, rfl, rfl⟩)
    · rw [hk, Bool.true_and] at hi2
      have d2 : decide ((r.vs.length : Int) > 20) = false := by rw [hpv] at hk; exact decide_eq_false (by have := of_decide_eq_true hk; omega)
      repeat (first | (refine TW.tw ?_; (first | (refine TW.nil ?_; (first | (refine hK0 _ _ ?_; clear hK0 K0) | (refine hK1 _ _ _ (by kernel_rfl) ?_; clear hK1 K1)); try dsimp only [mk_msgLaw0_8, thenR, blockR, loopR, mk_t, mk_f, mk_n]; try simp only [List.length_map, d, d2, ew, Int.toNat_natCast])|(refine TW.ca rfl ?_; first | refine TW.C0 (hF := hQ ) (h := ?_)|refine TW.RC (ids := [_]) (hF := hM ) (h := ?_)|refine TW.C0 (hF := hF _ _ _) (h := ?_)|refine TW.RC (ids := [_, _]) (hF := hE ) (h := ?_)|refine TW.C0 (hF := hR ) (h := ?_)|refine TW.C0 (hF := hH ) (h := ?_)|refine TW.C0 (hF := hA ) (h := ?_)|refine TW.C0 (hF := hRr ) (h := ?_)|refine TW.C0 (hF := hN ) (h := ?_))|refine TW.gn (h := ?_)|(simp only [List.length_map, d, d2, ew]; refine TW.nm (h := ?_)))) | refine CS.seq fun K hK => ?_|(refine CS.regl mk_msgLaw0_8 (fun K0 hK0 => ?_); try dsimp only [mp_s, mp_z])|(refine CS.drawl tab mk_msgLaw0_8 (fun K1 hK1 => ?_); try dsimp only [mp_s, mp_z])|(refine hK _ _ ?_; clear hK K)|(clear hK K; refine hK _ _ ?_; clear hK K)|(clear hK K; clear hK K; refine hK _ _ ?_; clear hK K)|(clear hK K; clear hK K; clear hK K; refine hK _ _ ?_; clear hK K)|((first | refine CS_ret ?_ | refine CS_skip ?_ | refine CS_exit ?_ | rw [if_pos rfl] | rw [if_neg (by decide)]); try dsimp only [thenR, blockR, loopR])|refine CS.blk ?_|refine CS.yes rfl ?_|refine CS.no rfl ?_|simp only [List.length_map, d, d2, ew])
      exact ⟨i + 1, [0], [false, true, true, true], ⟨c, hi2⟩, m1, by decide, rfl, rfl, rfl⟩
  · have d := int_nlt c
    rw [drop_end c, List.all_nil] at hi2
    rw [← hi2, Bool.true_and] at hR0
    cases f2 : decide ((m.recs.length : Int) ≤ 40)
    · rw [f2, Bool.false_and] at hR0
      repeat (first | (refine TW.tw ?_; (first | (refine TW.nil ?_; (first | (refine hK0 _ _ ?_; clear hK0 K0) | (refine hK1 _ _ _ (by kernel_rfl) ?_; clear hK1 K1)); try dsimp only [mk_msgLaw0_8, thenR, blockR, loopR, mk_t, mk_f, mk_n]; try simp only [List.length_map, d, f2, Int.toNat_natCast])|(refine TW.ca rfl ?_; first | refine TW.C0 (hF := hQ ) (h := ?_)|refine TW.RC (ids := [_]) (hF := hM ) (h := ?_)|refine TW.C0 (hF := hF _ _ _) (h := ?_)|refine TW.RC (ids := [_, _]) (hF := hE ) (h := ?_)|refine TW.C0 (hF := hR ) (h := ?_)|refine TW.C0 (hF := hH ) (h := ?_)|refine TW.C0 (hF := hA ) (h := ?_)|refine TW.C0 (hF := hRr ) (h := ?_)|refine TW.C0 (hF := hN ) (h := ?_))|refine TW.gn (h := ?_)|(simp only [List.length_map, d, f2]; refine TW.nm (h := ?_)))) | refine CS.seq fun K hK => ?_|(refine CS.regl mk_msgLaw0_8 (fun K0 hK0 => ?_); try dsimp only [mp_s, mp_z])|(refine CS.drawl tab mk_msgLaw0_8 (fun K1 hK1 => ?_); try dsimp only [mp_s, mp_z])|(refine hK _ _ ?_; clear hK K)|(clear hK K; refine hK _ _ ?_; clear hK K)|(clear hK K; clear hK K; refine hK _ _ ?_; clear hK K)|(clear hK K; clear hK K; clear hK K; refine hK _ _ ?_; clear hK K)|((first | refine CS_ret ?_ | refine CS_skip ?_ | refine CS_exit ?_ | rw [if_pos rfl] | rw [if_neg (by decide)]); try dsimp only [thenR, blockR, loopR])|refine CS.blk ?_|refine CS.yes rfl ?_|refine CS.no rfl ?_|simp only [List.length_map, d, f2])
      exact hR0 _ _ _ (by exact GS.refl ⟨(by first | exact .inr rfl | exact .inl rfl), _, [], gresT_ok tab rfl, by decide, rfl, rfl, rfl, rfl⟩)
    · rw [f2, Bool.true_and] at hR0
      cases f3 : decide ((m.box.length : Int) ≤ 300)
      · rw [f3, Bool.false_and] at hR0
        repeat (first | (refine TW.tw ?_; (first | (refine TW.nil ?_; (first | (refine hK0 _ _ ?_; clear hK0 K0) | (refine hK1 _ _ _ (by kernel_rfl) ?_; clear hK1 K1)); try dsimp only [mk_msgLaw0_8, thenR, blockR, loopR, mk_t, mk_f, mk_n]; try simp only [List.length_map, d, f2, f3, Int.toNat_natCast])|(refine TW.ca rfl ?_; first | refine TW.C0 (hF := hQ ) (h := ?_)|refine TW.RC (ids := [_]) (hF := hM ) (h := ?_)|refine TW.C0 (hF := hF _ _ _) (h := ?_)|refine TW.RC (ids := [_, _]) (hF := hE ) (h := ?_)|refine TW.C0 (hF := hR ) (h := ?_)|refine TW.C0 (hF := hH ) (h := ?_)|refine TW.C0 (hF := hA ) (h := ?_)|refine TW.C0 (hF := hRr ) (h := ?_)|refine TW.C0 (hF := hN ) (h := ?_))|refine TW.gn (h := ?_)|(simp only [List.length_map, d, f2, f3]; refine TW.nm (h := ?_)))) | refine CS.seq fun K hK => ?_|(refine CS.regl mk_msgLaw0_8 (fun K0 hK0 => ?_); try dsimp only [mp_s, mp_z])|(refine CS.drawl tab mk_msgLaw0_8 (fun K1 hK1 => ?_); try dsimp only [mp_s, mp_z])|(refine hK _ _ ?_; clear hK K)|(clear hK K; refine hK _ _ ?_; clear hK K)|(clear hK K; clear hK K; refine hK _ _ ?_; clear hK K)|(clear hK K; clear hK K; clear hK K; refine hK _ _ ?_; clear hK K)|((first | refine CS_ret ?_ | refine CS_skip ?_ | refine CS_exit ?_ | rw [if_pos rfl] | rw [if_neg (by decide)]); try dsimp only [thenR, blockR, loopR])|refine CS.blk ?_|refine CS.yes rfl ?_|refine CS.no rfl ?_|simp only [List.length_map, d, f2, f3])
        exact hR0 _ _ _ (by exact GS.refl ⟨(by first | exact .inr rfl | exact .inl rfl), _, [], gresT_ok tab rfl, by decide, rfl, rfl, rfl, rfl⟩)
      · rw [f3, Bool.true_and] at hR0
        repeat (first | (refine TW.tw ?_; (first | (refine TW.nil ?_; (first | (refine hK0 _ _ ?_; clear hK0 K0) | (refine hK1 _ _ _ (by kernel_rfl) ?_; clear hK1 K1)); try dsimp only [mk_msgLaw0_8, thenR, blockR, loopR, mk_t, mk_f, mk_n]; try simp only [List.length_map, d, f2, f3, Int.toNat_natCast])|(refine TW.ca rfl ?_; first | refine TW.C0 (hF := hQ ) (h := ?_)|refine TW.RC (ids := [_]) (hF := hM ) (h := ?_)|refine TW.C0 (hF := hF _ _ _) (h := ?_)|refine TW.RC (ids := [_, _]) (hF := hE ) (h := ?_)|refine TW.C0 (hF := hR ) (h := ?_)|refine TW.C0 (hF := hH ) (h := ?_)|refine TW.C0 (hF := hA ) (h := ?_)|refine TW.C0 (hF := hRr ) (h := ?_)|refine TW.C0 (hF := hN ) (h := ?_))|refine TW.gn (h := ?_)|(simp only [List.length_map, d, f2, f3]; refine TW.nm (h := ?_)))) | refine CS.seq fun K hK => ?_|(refine CS.regl mk_msgLaw0_8 (fun K0 hK0 => ?_); try dsimp only [mp_s, mp_z])|(refine CS.drawl tab mk_msgLaw0_8 (fun K1 hK1 => ?_); try dsimp only [mp_s, mp_z])|(refine hK _ _ ?_; clear hK K)|(clear hK K; refine hK _ _ ?_; clear hK K)|(clear hK K; clear hK K; refine hK _ _ ?_; clear hK K)|(clear hK K; clear hK K; clear hK K; refine hK _ _ ?_; clear hK K)|((first | refine CS_ret ?_ | refine CS_skip ?_ | refine CS_exit ?_ | rw [if_pos rfl] | rw [if_neg (by decide)]); try dsimp only [thenR, blockR, loopR])|refine CS.blk ?_|refine CS.yes rfl ?_|refine CS.no rfl ?_|simp only [List.length_map, d, f2, f3])
        exact hR0 _ _ _ (by exact GS.refl ⟨(by first | exact .inr rfl | exact .inl rfl), _, [], gresT_ok tab rfl, by decide, rfl, rfl, rfl, rfl⟩)

def mA : MsgV := ⟨5, 0, 0, 0, 1, 0, 0, 0, 0, 0, rec0, false, 0, 0, [(1, 0, 0)], [], [], []⟩
theorem mA_ok : MsgOk mA := ⟨u0, u0, u0, u0, rec0_ok, u0, u0, fun r hr => by simp [mA] at hr; subst hr; exact ⟨u0, u0⟩, by simp [mA], fun r hr => by simp [mA] at hr, by simp [mA]⟩
theorem takeNil : takeM 1 [] = (msgz, 3) := by rfl
theorem TakeNil_fs : FS Try.prog 13 [.lit (.int .i64 1), .lit (.slice none 0 0)] [] (.tup [.agg (msG msgz), .lit (.int .i64 3)]) [] := by
  have := (MTake_fs (bw := false) (b := []) (ex := []) 1 (Nat.zero_le _) (fun c h => by simp at h)).le (args := [.lit (.int .i64 1), .lit (.slice none 0 0)]) (.cons (.refl _) (.cons (.nilS false 1) .nil))
  rwa [takeNil] at this
set_option maxRecDepth 8000 in
set_option maxHeartbeats 16000000 in
theorem awake6_fs : FS Try.prog 9 [] [] (.lit (.bool true)) [] := by
  refine FS.enterG Try.func9 rfl fun R0 hR0 => ?_
  simp only [Try.ntmps9, List.length_cons, List.length_nil, List.replicate_succ, List.replicate_zero, List.cons_append, List.nil_append, Nat.reduceAdd, Nat.reduceSub]
  have hP := MPack_fs 1 mA_ok
  have hR := MRight_fs 1 mA_ok
  have hr : rightM 1 mA = true := by decide
  have e1 : packR 1 mA = mbs mA := if_pos hr
  have e2 : packE 1 mA = 0 := if_pos hr
  have e3 : decide (((mbs mA).length : Int) > 15) = true := by decide
  rw [e1, e2] at hP
  rw [hr] at hR
  have hT := TakeNil_fs
  obtain ⟨X, hX⟩ : ∃ X, mbs mA = X := ⟨_, rfl⟩
  rw [hX] at hP e3
  simp only [msG, msgz, rec0] at hT
  repeat (first | (refine TW.tw ?_; (first | (refine TW.nil ?_; (first | (refine hK0 _ _ ?_; clear hK0 K0) | (refine hK1 _ _ _ (by kernel_rfl) ?_; clear hK1 K1)); try dsimp only [mk_msgLaw0_9, thenR, blockR, loopR, mk_t, mk_f, mk_n])|(refine TW.ca rfl ?_; first | refine TW.C0 (hF := hT ) (h := ?_)|refine TW.C0 (hF := hR ) (h := ?_)|refine TW.C0 (hF := hP ) (h := ?_)|refine TW.C0 (hF := hQ ) (h := ?_)|refine TW.RC (ids := [_]) (hF := hM ) (h := ?_)|refine TW.C0 (hF := hF _ _ _) (h := ?_)|refine TW.RC (ids := [_, _]) (hF := hE ) (h := ?_)|refine TW.C0 (hF := hH ) (h := ?_)|refine TW.C0 (hF := hA ) (h := ?_)|refine TW.C0 (hF := hRr ) (h := ?_)|refine TW.C0 (hF := hN ) (h := ?_)|(refine TW.kc 13 rfl ?_; first | refine TW.C0 (hF := MTake_fs _ (by assumption) (by assumption)) (h := ?_))|(refine TW.kc 11 rfl ?_; first | refine TW.C0 (hF := MPack_fs _ (by assumption)) (h := ?_))|(refine TW.kc 15 rfl ?_; first | refine TW.C0 (hF := MRight_fs _ (by assumption)) (h := ?_)))|refine TW.gn (h := ?_))) | refine CS.seq fun K hK => ?_|(refine CS.regX 2 rfl mk_msgLaw0_9 (fun K0 hK0 => ?_); try dsimp only [mp_s, mp_z])|(refine CS.drawX tab 2 rfl mk_msgLaw0_9 (fun K1 hK1 => ?_); try dsimp only [mp_s, mp_z])|(refine hK _ _ ?_; clear hK K)|(clear hK K; refine hK _ _ ?_; clear hK K)|(clear hK K; clear hK K; refine hK _ _ ?_; clear hK K)|(clear hK K; clear hK K; clear hK K; refine hK _ _ ?_; clear hK K)|((first | refine CS_ret ?_ | refine CS_skip ?_ | refine CS_exit ?_ | rw [if_pos rfl] | rw [if_neg (by decide)]); try dsimp only [thenR, blockR, loopR])|refine CS.blk ?_|refine CS.yes rfl ?_|refine CS.no rfl ?_)
  refine CS.ghost (GS.nilO 1 12 1 rfl rfl (GS.nilO 1 17 3 rfl rfl (GS.frzO 1 16 rfl rfl rfl (GS.refl ?_))))
  repeat (first | (refine TW.tw ?_; (first | (refine TW.nil ?_; (first | (refine hK0 _ _ ?_; clear hK0 K0) | (refine hK1 _ _ _ (by kernel_rfl) ?_; clear hK1 K1)); try dsimp only [mk_msgLaw0_9, thenR, blockR, loopR, mk_t, mk_f, mk_n]; try simp only [List.length_map, e3, show ((0 : Int) == 0) = true from rfl, show ((3 : Int) == 3) = true from rfl, Int.toNat_natCast])|(refine TW.ca rfl ?_; first | refine TW.C0 (hF := hT ) (h := ?_)|refine TW.C0 (hF := hR ) (h := ?_)|refine TW.C0 (hF := hP ) (h := ?_)|refine TW.C0 (hF := hQ ) (h := ?_)|refine TW.RC (ids := [_]) (hF := hM ) (h := ?_)|refine TW.C0 (hF := hF _ _ _) (h := ?_)|refine TW.RC (ids := [_, _]) (hF := hE ) (h := ?_)|refine TW.C0 (hF := hH ) (h := ?_)|refine TW.C0 (hF := hA ) (h := ?_)|refine TW.C0 (hF := hRr ) (h := ?_)|refine TW.C0 (hF := hN ) (h := ?_)|(refine TW.kc 13 rfl ?_; first | refine TW.C0 (hF := MTake_fs _ (by assumption) (by assumption)) (h := ?_))|(refine TW.kc 11 rfl ?_; first | refine TW.C0 (hF := MPack_fs _ (by assumption)) (h := ?_))|(refine TW.kc 15 rfl ?_; first | refine TW.C0 (hF := MRight_fs _ (by assumption)) (h := ?_)))|refine TW.gn (h := ?_)|(simp only [List.length_map, e3, show ((0 : Int) == 0) = true from rfl, show ((3 : Int) == 3) = true from rfl]; refine TW.nm (h := ?_)))) | refine CS.seq fun K hK => ?_|(refine CS.regl mk_msgLaw0_9 (fun K0 hK0 => ?_); try dsimp only [mp_s, mp_z])|(refine CS.drawl tab mk_msgLaw0_9 (fun K1 hK1 => ?_); try dsimp only [mp_s, mp_z])|(refine hK _ _ ?_; clear hK K)|(clear hK K; refine hK _ _ ?_; clear hK K)|(clear hK K; clear hK K; refine hK _ _ ?_; clear hK K)|(clear hK K; clear hK K; clear hK K; refine hK _ _ ?_; clear hK K)|((first | refine CS_ret ?_ | refine CS_skip ?_ | refine CS_exit ?_ | rw [if_pos rfl] | rw [if_neg (by decide)]); try dsimp only [thenR, blockR, loopR])|refine CS.blk ?_|refine CS.yes rfl ?_|refine CS.no rfl ?_|simp only [List.length_map, e3, show ((0 : Int) == 0) = true from rfl, show ((3 : Int) == 3) = true from rfl])
  exact hR0 _ _ _ (by exact GS.refl ⟨(by first | exact .inr rfl | exact .inl rfl), _, [], gresT_ok tab rfl, by decide, rfl, rfl, rfl, rfl⟩)
end Go.Gh

