import Derived.Test.YtbkahcionjkgjaaMsgLaw0

namespace Go.Gh
def mk_msgSizes_7 : List Bool := [true, true, false, true, true, true, true, true, false, false, true, false, false, false, false, false, false, false, false, true, false, false, false, false, false, false, false, false, false, false, false, true, false, false, false, false, false, false, false, false, false, false, true, false, false, false, false, false, false, true, false, false, false, false, false, false, false, true, false, false, false, false, false, false, true, false, false, false, false, false, false, false, false, false, false, false, false, false, false, false, false, false, false, false, false, false, false]
open Go.Proofs
set_option linter.unusedVariables false
set_option linter.unusedSimpArgs false

/-! Layer 6: MessageSizes. -/
theorem mbs_at {m : MsgV} (h : 0 ≤ m.kind ∧ m.kind < 256) : ((mbs m).map bG)[0]? = some [.lit (.int .u8 m.kind)] := by
  have e : mbs m = (m.kind / 2 ^ (8 * 0)) % 256 :: (mbs m).tail := rfl
  rw [e]
  show some [GV.lit (.int .u8 ((m.kind / 2 ^ (8 * 0)) % 256))] = _
  rw [show m.kind / 2 ^ (8 * 0) % 256 = m.kind by simp; omega]
theorem hdb_len (m : MsgV) : (hdb m).length = 9 := by unfold hdb; simp only [List.length_append, be_len]
theorem entb_len' {n : Int} {m : MsgV} (F : RtF n m) (h : wth m.kind 1 4 = true) : ((entb m).length : Int) = 17 + 4 * n + if betk m.kind then 8 else 0 := by
  have := F.held
  simp only [heldB, h, if_true, Bool.and_eq_true] at this
  have hl := recok_len this.1
  unfold entb
  split <;> simp only [List.length_append, be_len, rcb_len, List.length_nil] <;> omega
theorem tlb_len {n : Int} {m : MsgV} (F : RtF n m) : ((tlb m).length : Int) = if m.kind == 5 then 9 + 9 * n else if m.kind == 6 then 10 + (m.recs.length : Int) * (16 + 4 * n) else 0 := by
  unfold tlb
  split
  · rename_i h
    have := F.ask
    simp only [askB, boxB, h, if_true, Bool.and_eq_true, rightv, decide_eq_true_eq, beq_iff_eq] at this
    obtain ⟨_, ⟨⟨_, hb⟩, _⟩, _⟩ := this
    simp only [List.length_append, be_len, pack_len]; omega
  · split
    · have hr := rcbs_len (k := n.toNat) F.rlen
      simp only [List.length_append, be_len, hr]
      have h0 := F.n0
      have e : ((n.toNat : Nat) : Int) = n := by omega
      have : ((m.recs.length * (16 + 4 * n.toNat) : Nat) : Int) = (m.recs.length : Int) * (16 + 4 * n) := by rw [Int.natCast_mul, Int.natCast_add, Int.natCast_mul, e]; rfl
      omega
    · rfl

set_option maxRecDepth 8000 in
set_option maxHeartbeats 32000000 in
theorem MessageSizes_fs {m : MsgV} {n : Int} (h : MsgW m) : FS Try.prog 7 [.lit (.int .i64 n), .agg (msG m)] [] (.lit (.bool true)) [] := by
  refine FS.enterG Try.func7 rfl fun R0 hR0 => ?_
  simp only [Try.ntmps7, List.length_cons, List.length_nil, List.replicate_succ, List.replicate_zero, List.cons_append, List.nil_append, Nat.reduceAdd, Nat.reduceSub]
  have hF := few_fs h
  simp only [msG] at hF ⊢
  cases f : fewB m
  · repeat (first | (refine TW.tw ?_; (first | (refine TW.nil ?_; (first | (refine hK0 _ _ ?_; clear hK0 K0) | (refine hK1 _ _ _ (by kernel_rfl) ?_; clear hK1 K1)); try dsimp only [mk_msgSizes_7, thenR, blockR, loopR, mk_t, mk_f, mk_n]; try simp only [f, Bool.not_false, Int.toNat_natCast])|(refine TW.ca rfl ?_; first | refine TW.C0 (hF := hF ) (h := ?_)|refine TW.C0 (hF := hT ) (h := ?_)|refine TW.C0 (hF := hR ) (h := ?_)|refine TW.C0 (hF := hP ) (h := ?_)|refine TW.C0 (hF := hQ ) (h := ?_)|refine TW.RC (ids := [_]) (hF := hM ) (h := ?_)|refine TW.RC (ids := [_, _]) (hF := hE ) (h := ?_)|refine TW.C0 (hF := hH ) (h := ?_)|refine TW.C0 (hF := hA ) (h := ?_)|refine TW.C0 (hF := hRr ) (h := ?_)|refine TW.C0 (hF := hN ) (h := ?_)|refine TW.C0 (hF := hF _ _ _) (h := ?_)|(refine TW.kc 9 rfl ?_; first | refine TW.C0 (hF := awake6_fs ) (h := ?_))|(refine TW.kc 8 rfl ?_; first | refine TW.C0 (hF := few_fs (by assumption)) (h := ?_))|(refine TW.kc 11 rfl ?_; first | refine TW.C0 (hF := MPack_fs _ (by assumption)) (h := ?_)))|refine TW.gn (h := ?_)|(simp only [f, Bool.not_false]; refine TW.nm (h := ?_)))) | refine CS.seq fun K hK => ?_|(refine CS.regl mk_msgSizes_7 (fun K0 hK0 => ?_); try dsimp only [mp_s, mp_z])|(refine CS.drawl tab mk_msgSizes_7 (fun K1 hK1 => ?_); try dsimp only [mp_s, mp_z])|(refine hK _ _ ?_; clear hK K)|(clear hK K; refine hK _ _ ?_; clear hK K)|(clear hK K; clear hK K; refine hK _ _ ?_; clear hK K)|(clear hK K; clear hK K; clear hK K; refine hK _ _ ?_; clear hK K)|((first | refine CS_ret ?_ | refine CS_skip ?_ | refine CS_exit ?_ | rw [if_pos rfl] | rw [if_neg (by decide)]); try dsimp only [thenR, blockR, loopR])|refine CS.blk ?_|refine CS.yes rfl ?_|refine CS.no rfl ?_|simp only [f, Bool.not_false])
    exact hR0 _ _ _ (by exact GS.refl ⟨(by first | exact .inr rfl | exact .inl rfl), _, [], gresT_ok tab rfl, by decide, rfl, rfl, rfl, rfl⟩)
  have ok := fewB_ok h f
  have hP := MPack_fs n ok
  simp only [msG] at hP
  cases hr : rightM n m
  · have e1 : packR n m = [] := by unfold packR; rw [hr]; rfl
    have e2 : packE n m = 4 := by unfold packE; rw [hr]; rfl
    rw [e1, e2] at hP
    repeat (first | (refine TW.tw ?_; (first | (refine TW.nil ?_; (first | (refine hK0 _ _ ?_; clear hK0 K0) | (refine hK1 _ _ _ (by kernel_rfl) ?_; clear hK1 K1)); try dsimp only [mk_msgSizes_7, thenR, blockR, loopR, mk_t, mk_f, mk_n]; try simp only [f, Bool.not_true, List.map_nil, List.length_nil, d40, show ((((0 : Nat)) : Int) == 0) = true from rfl, show ((0 : Int) == 0) = true from rfl, show ((4 : Int) == 4) = true from rfl, Int.toNat_natCast])|(refine TW.ca rfl ?_; first | refine TW.C0 (hF := hP ) (h := ?_)|refine TW.C0 (hF := hF ) (h := ?_)|refine TW.C0 (hF := hT ) (h := ?_)|refine TW.C0 (hF := hR ) (h := ?_)|refine TW.C0 (hF := hQ ) (h := ?_)|refine TW.RC (ids := [_]) (hF := hM ) (h := ?_)|refine TW.RC (ids := [_, _]) (hF := hE ) (h := ?_)|refine TW.C0 (hF := hH ) (h := ?_)|refine TW.C0 (hF := hA ) (h := ?_)|refine TW.C0 (hF := hRr ) (h := ?_)|refine TW.C0 (hF := hN ) (h := ?_)|refine TW.C0 (hF := hF _ _ _) (h := ?_)|(refine TW.kc 9 rfl ?_; first | refine TW.C0 (hF := awake6_fs ) (h := ?_))|(refine TW.kc 8 rfl ?_; first | refine TW.C0 (hF := few_fs (by assumption)) (h := ?_))|(refine TW.kc 11 rfl ?_; first | refine TW.C0 (hF := MPack_fs _ (by assumption)) (h := ?_)))|refine TW.gn (h := ?_)|(simp only [f, Bool.not_true, List.map_nil, List.length_nil, d40, show ((((0 : Nat)) : Int) == 0) = true from rfl, show ((0 : Int) == 0) = true from rfl, show ((4 : Int) == 4) = true from rfl]; refine TW.nm (h := ?_)))) | refine CS.seq fun K hK => ?_|(refine CS.regl mk_msgSizes_7 (fun K0 hK0 => ?_); try dsimp only [mp_s, mp_z])|(refine CS.drawl tab mk_msgSizes_7 (fun K1 hK1 => ?_); try dsimp only [mp_s, mp_z])|(refine hK _ _ ?_; clear hK K)|(clear hK K; refine hK _ _ ?_; clear hK K)|(clear hK K; clear hK K; refine hK _ _ ?_; clear hK K)|(clear hK K; clear hK K; clear hK K; refine hK _ _ ?_; clear hK K)|((first | refine CS_ret ?_ | refine CS_skip ?_ | refine CS_exit ?_ | rw [if_pos rfl] | rw [if_neg (by decide)]); try dsimp only [thenR, blockR, loopR])|refine CS.blk ?_|refine CS.yes rfl ?_|refine CS.no rfl ?_|simp only [f, Bool.not_true, List.map_nil, List.length_nil, d40, show ((((0 : Nat)) : Int) == 0) = true from rfl, show ((0 : Int) == 0) = true from rfl, show ((4 : Int) == 4) = true from rfl])
    exact hR0 _ _ _ (by exact GS.refl ⟨(by first | exact .inr rfl | exact .inl rfl), _, [], gresT_ok tab rfl, by decide, rfl, rfl, rfl, rfl⟩)
  have e1 : packR n m = mbs m := by unfold packR; rw [hr]; rfl
  have e2 : packE n m = 0 := by unfold packE; rw [hr]; rfl
  rw [e1, e2] at hP
  have F := rtF hr
  have n0 := F.n0
  have n1 := F.n1
  have rl := F.recs.1
  have hL : ((mbs m).length : Int) = 9 + ((if wth m.kind 1 4 then (entb m).length else 0 : Nat) : Int) + (if hopk m.kind then 1 else 0) + ((tlb m).length : Int) := by
    unfold mbs
    simp only [List.length_append, hdb_len]
    split <;> split <;> simp only [List.length_nil, be_len] <;> omega
  rw [tlb_len F] at hL
  have hA := fun hw => entb_len' F hw
  have hg := mbs_at (m := m) ⟨by have := F.k0; omega, by have := F.k1; omega⟩
  have wk : IntKind.i64.wrap m.kind = m.kind := wrap_i64 _ (by have := F.k0; omega) (by have := F.k1; omega)
  have hpos : (0 : Int) < (((mbs m).map bG).length : Int) := by rw [List.length_map, hL]; split <;> split <;> (try split) <;> (try split) <;> (try split) <;> first | omega | (have : 0 ≤ (m.recs.length : Int) * (16 + 4 * n) := Int.mul_nonneg (by omega) (by omega); omega)
  have v18 : IntKind.i64.wrap (9 + 18) = 27 := by decide
  have v25 : IntKind.i64.wrap (9 + 25) = 34 := by decide
  have v17 : IntKind.i64.wrap (9 + 17) = 26 := by decide
  have v10 : IntKind.i64.wrap (9 + 10) = 19 := by decide
  have u4 : IntKind.i64.wrap (4 * n) = 4 * n := wrap_i64 _ (by omega) (by omega)
  have u9 : IntKind.i64.wrap (9 * n) = 9 * n := wrap_i64 _ (by omega) (by omega)
  have x1 : IntKind.i64.wrap (27 + 4 * n) = 27 + 4 * n := wrap_i64 _ (by omega) (by omega)
  have x2 : IntKind.i64.wrap (34 + 4 * n) = 34 + 4 * n := wrap_i64 _ (by omega) (by omega)
  have x4 : IntKind.i64.wrap (26 + 4 * n) = 26 + 4 * n := wrap_i64 _ (by omega) (by omega)
  have x5 : IntKind.i64.wrap (19 + 9 * n) = 19 + 9 * n := wrap_i64 _ (by omega) (by omega)
  have x6 : IntKind.i64.wrap (16 + 4 * n) = 16 + 4 * n := wrap_i64 _ (by omega) (by omega)
  obtain ⟨r, hrr⟩ : ∃ r, (m.recs.length : Int) * (16 + 4 * n) = r := ⟨_, rfl⟩
  have hrb : 0 ≤ r ∧ r ≤ 10000 * 48 := by
    rw [← hrr]
    exact ⟨Int.mul_nonneg (by omega) (by omega), Int.mul_le_mul (by omega) (by omega) (by omega) (by omega)⟩
  rw [hrr] at hL
  have x7 : IntKind.i64.wrap r = r := wrap_i64 _ (by omega) (by omega)
  have x8 : IntKind.i64.wrap (19 + r) = 19 + r := wrap_i64 _ (by omega) (by omega)
  have bb : (m.kind == m.kind) = true := by simp
  rcases kf' F.k with ⟨a1, a2, a3, a4, a5, a6, a7, a8, a9⟩ | ⟨a1, a2, a3, a4, a5, a6, a7, a8, a9⟩ | ⟨a1, a2, a3, a4, a5, a6, a7, a8, a9⟩ | ⟨a1, a2, a3, a4, a5, a6, a7, a8, a9⟩ | ⟨a1, a2, a3, a4, a5, a6, a7, a8, a9⟩ | ⟨a1, a2, a3, a4, a5, a6, a7, a8, a9⟩
  all_goals simp only [a5, a6, a7, a8, a9, hA, if_true, Bool.false_eq_true, if_false] at hL
  all_goals try simp only [hA a7, a9, if_true, Bool.false_eq_true, if_false] at hL
  · have hq : (((mbs m).length : Int) == 27 + 4 * n) = true := beq_iff_eq.2 (by omega)
    repeat (first | (refine TW.tw ?_; (first | (refine TW.nil ?_; (first | (refine hK0 _ _ ?_; clear hK0 K0) | (refine hK1 _ _ _ (by kernel_rfl) ?_; clear hK1 K1)); try dsimp only [mk_msgSizes_7, thenR, blockR, loopR, mk_t, mk_f, mk_n]; try simp only [List.length_map, f, Bool.not_true, d00, a1, a2, a3, a4, a5, v18, u4, x1, hq, wk, bb, Int.toNat_natCast])|(refine TW.ca rfl ?_; first | refine TW.C0 (hF := hP ) (h := ?_)|refine TW.C0 (hF := hF ) (h := ?_)|refine TW.C0 (hF := hT ) (h := ?_)|refine TW.C0 (hF := hR ) (h := ?_)|refine TW.C0 (hF := hQ ) (h := ?_)|refine TW.RC (ids := [_]) (hF := hM ) (h := ?_)|refine TW.RC (ids := [_, _]) (hF := hE ) (h := ?_)|refine TW.C0 (hF := hH ) (h := ?_)|refine TW.C0 (hF := hA ) (h := ?_)|refine TW.C0 (hF := hRr ) (h := ?_)|refine TW.C0 (hF := hN ) (h := ?_)|refine TW.C0 (hF := hF _ _ _) (h := ?_)|(refine TW.kc 9 rfl ?_; first | refine TW.C0 (hF := awake6_fs ) (h := ?_))|(refine TW.kc 8 rfl ?_; first | refine TW.C0 (hF := few_fs (by assumption)) (h := ?_))|(refine TW.kc 11 rfl ?_; first | refine TW.C0 (hF := MPack_fs _ (by assumption)) (h := ?_)))|refine TW.gn (h := ?_)|(simp only [List.length_map, f, Bool.not_true, d00, a1, a2, a3, a4, a5, v18, u4, x1, hq, wk, bb]; refine TW.nm (h := ?_)))) | refine CS.seq fun K hK => ?_|(refine CS.regl mk_msgSizes_7 (fun K0 hK0 => ?_); try dsimp only [mp_s, mp_z])|(refine CS.drawl tab mk_msgSizes_7 (fun K1 hK1 => ?_); try dsimp only [mp_s, mp_z])|(refine hK _ _ ?_; clear hK K)|(clear hK K; refine hK _ _ ?_; clear hK K)|(clear hK K; clear hK K; refine hK _ _ ?_; clear hK K)|(clear hK K; clear hK K; clear hK K; refine hK _ _ ?_; clear hK K)|((first | refine CS_ret ?_ | refine CS_skip ?_ | refine CS_exit ?_ | rw [if_pos rfl] | rw [if_neg (by decide)]); try dsimp only [thenR, blockR, loopR])|refine CS.blk ?_|refine CS.yes rfl ?_|refine CS.no rfl ?_|simp only [List.length_map, f, Bool.not_true, d00, a1, a2, a3, a4, a5, v18, u4, x1, hq, wk, bb])
    exact hR0 _ _ _ (by exact GS.refl ⟨(by first | exact .inr rfl | exact .inl rfl), _, [], gresT_ok tab rfl, by decide, rfl, rfl, rfl, rfl⟩)
  iterate 2
    · have hq : (((mbs m).length : Int) == 34 + 4 * n) = true := beq_iff_eq.2 (by omega)
      repeat (first | (refine TW.tw ?_; (first | (refine TW.nil ?_; (first | (refine hK0 _ _ ?_; clear hK0 K0) | (refine hK1 _ _ _ (by kernel_rfl) ?_; clear hK1 K1)); try dsimp only [mk_msgSizes_7, thenR, blockR, loopR, mk_t, mk_f, mk_n]; try simp only [List.length_map, f, Bool.not_true, d00, a1, a2, a3, a4, a5, v25, u4, x2, hq, wk, bb, Int.toNat_natCast])|(refine TW.ca rfl ?_; first | refine TW.C0 (hF := hP ) (h := ?_)|refine TW.C0 (hF := hF ) (h := ?_)|refine TW.C0 (hF := hT ) (h := ?_)|refine TW.C0 (hF := hR ) (h := ?_)|refine TW.C0 (hF := hQ ) (h := ?_)|refine TW.RC (ids := [_]) (hF := hM ) (h := ?_)|refine TW.RC (ids := [_, _]) (hF := hE ) (h := ?_)|refine TW.C0 (hF := hH ) (h := ?_)|refine TW.C0 (hF := hA ) (h := ?_)|refine TW.C0 (hF := hRr ) (h := ?_)|refine TW.C0 (hF := hN ) (h := ?_)|refine TW.C0 (hF := hF _ _ _) (h := ?_)|(refine TW.kc 9 rfl ?_; first | refine TW.C0 (hF := awake6_fs ) (h := ?_))|(refine TW.kc 8 rfl ?_; first | refine TW.C0 (hF := few_fs (by assumption)) (h := ?_))|(refine TW.kc 11 rfl ?_; first | refine TW.C0 (hF := MPack_fs _ (by assumption)) (h := ?_)))|refine TW.gn (h := ?_)|(simp only [List.length_map, f, Bool.not_true, d00, a1, a2, a3, a4, a5, v25, u4, x2, hq, wk, bb]; refine TW.nm (h := ?_)))) | refine CS.seq fun K hK => ?_|(refine CS.regl mk_msgSizes_7 (fun K0 hK0 => ?_); try dsimp only [mp_s, mp_z])|(refine CS.drawl tab mk_msgSizes_7 (fun K1 hK1 => ?_); try dsimp only [mp_s, mp_z])|(refine hK _ _ ?_; clear hK K)|(clear hK K; refine hK _ _ ?_; clear hK K)|(clear hK K; clear hK K; refine hK _ _ ?_; clear hK K)|(clear hK K; clear hK K; clear hK K; refine hK _ _ ?_; clear hK K)|((first | refine CS_ret ?_ | refine CS_skip ?_ | refine CS_exit ?_ | rw [if_pos rfl] | rw [if_neg (by decide)]); try dsimp only [thenR, blockR, loopR])|refine CS.blk ?_|refine CS.yes rfl ?_|refine CS.no rfl ?_|simp only [List.length_map, f, Bool.not_true, d00, a1, a2, a3, a4, a5, v25, u4, x2, hq, wk, bb])
      exact hR0 _ _ _ (by exact GS.refl ⟨(by first | exact .inr rfl | exact .inl rfl), _, [], gresT_ok tab rfl, by decide, rfl, rfl, rfl, rfl⟩)
  · have hq : (((mbs m).length : Int) == 26 + 4 * n) = true := beq_iff_eq.2 (by omega)
    repeat (first | (refine TW.tw ?_; (first | (refine TW.nil ?_; (first | (refine hK0 _ _ ?_; clear hK0 K0) | (refine hK1 _ _ _ (by kernel_rfl) ?_; clear hK1 K1)); try dsimp only [mk_msgSizes_7, thenR, blockR, loopR, mk_t, mk_f, mk_n]; try simp only [List.length_map, f, Bool.not_true, d00, a1, a2, a3, a4, a5, v17, u4, x4, hq, wk, bb, Int.toNat_natCast])|(refine TW.ca rfl ?_; first | refine TW.C0 (hF := hP ) (h := ?_)|refine TW.C0 (hF := hF ) (h := ?_)|refine TW.C0 (hF := hT ) (h := ?_)|refine TW.C0 (hF := hR ) (h := ?_)|refine TW.C0 (hF := hQ ) (h := ?_)|refine TW.RC (ids := [_]) (hF := hM ) (h := ?_)|refine TW.RC (ids := [_, _]) (hF := hE ) (h := ?_)|refine TW.C0 (hF := hH ) (h := ?_)|refine TW.C0 (hF := hA ) (h := ?_)|refine TW.C0 (hF := hRr ) (h := ?_)|refine TW.C0 (hF := hN ) (h := ?_)|refine TW.C0 (hF := hF _ _ _) (h := ?_)|(refine TW.kc 9 rfl ?_; first | refine TW.C0 (hF := awake6_fs ) (h := ?_))|(refine TW.kc 8 rfl ?_; first | refine TW.C0 (hF := few_fs (by assumption)) (h := ?_))|(refine TW.kc 11 rfl ?_; first | refine TW.C0 (hF := MPack_fs _ (by assumption)) (h := ?_)))|refine TW.gn (h := ?_)|(simp only [List.length_map, f, Bool.not_true, d00, a1, a2, a3, a4, a5, v17, u4, x4, hq, wk, bb]; refine TW.nm (h := ?_)))) | refine CS.seq fun K hK => ?_|(refine CS.regl mk_msgSizes_7 (fun K0 hK0 => ?_); try dsimp only [mp_s, mp_z])|(refine CS.drawl tab mk_msgSizes_7 (fun K1 hK1 => ?_); try dsimp only [mp_s, mp_z])|(refine hK _ _ ?_; clear hK K)|(clear hK K; refine hK _ _ ?_; clear hK K)|(clear hK K; clear hK K; refine hK _ _ ?_; clear hK K)|(clear hK K; clear hK K; clear hK K; refine hK _ _ ?_; clear hK K)|((first | refine CS_ret ?_ | refine CS_skip ?_ | refine CS_exit ?_ | rw [if_pos rfl] | rw [if_neg (by decide)]); try dsimp only [thenR, blockR, loopR])|refine CS.blk ?_|refine CS.yes rfl ?_|refine CS.no rfl ?_|simp only [List.length_map, f, Bool.not_true, d00, a1, a2, a3, a4, a5, v17, u4, x4, hq, wk, bb])
    exact hR0 _ _ _ (by exact GS.refl ⟨(by first | exact .inr rfl | exact .inl rfl), _, [], gresT_ok tab rfl, by decide, rfl, rfl, rfl, rfl⟩)
  · have hq : (((mbs m).length : Int) == 19 + 9 * n) = true := beq_iff_eq.2 (by omega)
    repeat (first | (refine TW.tw ?_; (first | (refine TW.nil ?_; (first | (refine hK0 _ _ ?_; clear hK0 K0) | (refine hK1 _ _ _ (by kernel_rfl) ?_; clear hK1 K1)); try dsimp only [mk_msgSizes_7, thenR, blockR, loopR, mk_t, mk_f, mk_n]; try simp only [List.length_map, f, Bool.not_true, d00, a1, a2, a3, a4, a5, v10, u9, x5, hq, wk, bb, Int.toNat_natCast])|(refine TW.ca rfl ?_; first | refine TW.C0 (hF := hP ) (h := ?_)|refine TW.C0 (hF := hF ) (h := ?_)|refine TW.C0 (hF := hT ) (h := ?_)|refine TW.C0 (hF := hR ) (h := ?_)|refine TW.C0 (hF := hQ ) (h := ?_)|refine TW.RC (ids := [_]) (hF := hM ) (h := ?_)|refine TW.RC (ids := [_, _]) (hF := hE ) (h := ?_)|refine TW.C0 (hF := hH ) (h := ?_)|refine TW.C0 (hF := hA ) (h := ?_)|refine TW.C0 (hF := hRr ) (h := ?_)|refine TW.C0 (hF := hN ) (h := ?_)|refine TW.C0 (hF := hF _ _ _) (h := ?_)|(refine TW.kc 9 rfl ?_; first | refine TW.C0 (hF := awake6_fs ) (h := ?_))|(refine TW.kc 8 rfl ?_; first | refine TW.C0 (hF := few_fs (by assumption)) (h := ?_))|(refine TW.kc 11 rfl ?_; first | refine TW.C0 (hF := MPack_fs _ (by assumption)) (h := ?_)))|refine TW.gn (h := ?_)|(simp only [List.length_map, f, Bool.not_true, d00, a1, a2, a3, a4, a5, v10, u9, x5, hq, wk, bb]; refine TW.nm (h := ?_)))) | refine CS.seq fun K hK => ?_|(refine CS.regl mk_msgSizes_7 (fun K0 hK0 => ?_); try dsimp only [mp_s, mp_z])|(refine CS.drawl tab mk_msgSizes_7 (fun K1 hK1 => ?_); try dsimp only [mp_s, mp_z])|(refine hK _ _ ?_; clear hK K)|(clear hK K; refine hK _ _ ?_; clear hK K)|(clear hK K; clear hK K; refine hK _ _ ?_; clear hK K)|(clear hK K; clear hK K; clear hK K; refine hK _ _ ?_; clear hK K)|((first | refine CS_ret ?_ | refine CS_skip ?_ | refine CS_exit ?_ | rw [if_pos rfl] | rw [if_neg (by decide)]); try dsimp only [thenR, blockR, loopR])|refine CS.blk ?_|refine CS.yes rfl ?_|refine CS.no rfl ?_|simp only [List.length_map, f, Bool.not_true, d00, a1, a2, a3, a4, a5, v10, u9, x5, hq, wk, bb])
    exact hR0 _ _ _ (by exact GS.refl ⟨(by first | exact .inr rfl | exact .inl rfl), _, [], gresT_ok tab rfl, by decide, rfl, rfl, rfl, rfl⟩)
  · have hq : (((mbs m).length : Int) == 19 + r) = true := beq_iff_eq.2 (by omega)
    repeat (first | (refine TW.tw ?_; (first | (refine TW.nil ?_; (first | (refine hK0 _ _ ?_; clear hK0 K0) | (refine hK1 _ _ _ (by kernel_rfl) ?_; clear hK1 K1)); try dsimp only [mk_msgSizes_7, thenR, blockR, loopR, mk_t, mk_f, mk_n]; try simp only [List.length_map, f, Bool.not_true, d00, a1, a2, a3, a4, a5, v10, u4, x6, hrr, x7, x8, hq, wk, bb, Int.toNat_natCast])|(refine TW.ca rfl ?_; first | refine TW.C0 (hF := hP ) (h := ?_)|refine TW.C0 (hF := hF ) (h := ?_)|refine TW.C0 (hF := hT ) (h := ?_)|refine TW.C0 (hF := hR ) (h := ?_)|refine TW.C0 (hF := hQ ) (h := ?_)|refine TW.RC (ids := [_]) (hF := hM ) (h := ?_)|refine TW.RC (ids := [_, _]) (hF := hE ) (h := ?_)|refine TW.C0 (hF := hH ) (h := ?_)|refine TW.C0 (hF := hA ) (h := ?_)|refine TW.C0 (hF := hRr ) (h := ?_)|refine TW.C0 (hF := hN ) (h := ?_)|refine TW.C0 (hF := hF _ _ _) (h := ?_)|(refine TW.kc 9 rfl ?_; first | refine TW.C0 (hF := awake6_fs ) (h := ?_))|(refine TW.kc 8 rfl ?_; first | refine TW.C0 (hF := few_fs (by assumption)) (h := ?_))|(refine TW.kc 11 rfl ?_; first | refine TW.C0 (hF := MPack_fs _ (by assumption)) (h := ?_)))|refine TW.gn (h := ?_)|(simp only [List.length_map, f, Bool.not_true, d00, a1, a2, a3, a4, a5, v10, u4, x6, hrr, x7, x8, hq, wk, bb]; refine TW.nm (h := ?_)))) | refine CS.seq fun K hK => ?_|(refine CS.regl mk_msgSizes_7 (fun K0 hK0 => ?_); try dsimp only [mp_s, mp_z])|(refine CS.drawl tab mk_msgSizes_7 (fun K1 hK1 => ?_); try dsimp only [mp_s, mp_z])|(refine hK _ _ ?_; clear hK K)|(clear hK K; refine hK _ _ ?_; clear hK K)|(clear hK K; clear hK K; refine hK _ _ ?_; clear hK K)|(clear hK K; clear hK K; clear hK K; refine hK _ _ ?_; clear hK K)|((first | refine CS_ret ?_ | refine CS_skip ?_ | refine CS_exit ?_ | rw [if_pos rfl] | rw [if_neg (by decide)]); try dsimp only [thenR, blockR, loopR])|refine CS.blk ?_|refine CS.yes rfl ?_|refine CS.no rfl ?_|simp only [List.length_map, f, Bool.not_true, d00, a1, a2, a3, a4, a5, v10, u4, x6, hrr, x7, x8, hq, wk, bb])
    exact hR0 _ _ _ (by exact GS.refl ⟨(by first | exact .inr rfl | exact .inl rfl), _, [], gresT_ok tab rfl, by decide, rfl, rfl, rfl, rfl⟩)
end Go.Gh

