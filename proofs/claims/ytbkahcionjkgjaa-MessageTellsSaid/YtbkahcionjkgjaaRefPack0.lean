import Derived.Test.YtbkahcionjkgjaaPackBox

namespace Go.Gh
def mk_refPack0_32 : List Bool := [true, false, true, true, true, true, true, false, false, false, false, false, false, false, true, false, false, false, false, false, false, false, false, false, false, false, false, false, false, false, false, false, true, false, false, false, false, false, false, false, false, false, false, false, false, false, false, false]
open Go.Proofs
set_option linter.unusedVariables false
set_option linter.unusedSimpArgs false


/-! Layer 5: the document's bytes of a box. -/

set_option maxHeartbeats 8000000 in
theorem RBPack_fs {bw : Bool} {l : List (Int × Int × Int)} {ex : List (List GV)} (hl : l.length ≤ 1000000) (hr : ∀ r, r ∈ l → rgok r) : FS Try.prog 32 [.sl bw 3 (l.map rgc) ex] [] (.sl false 1 ((pack l).map bG) []) [] := by
  refine FS.enterG Try.func32 rfl fun R0 hR0 => ?_
  simp only [Try.ntmps32, List.length_cons, List.length_nil, List.replicate_succ, List.replicate_zero, List.cons_append, List.nil_append, Nat.reduceAdd, Nat.reduceSub]
  have w1 : IntKind.u64.wrap (l.length : Int) = (l.length : Int) := by rw [wrap_u64]; omega
  have h0 : 0 ≤ (l.length : Int) := by omega
  repeat (first | (refine TW.tw ?_; (first | (refine TW.nil ?_; (first | (refine hK0 _ _ ?_; clear hK0 K0) | (refine hK1 _ _ _ (by kernel_rfl) ?_; clear hK1 K1)); try dsimp only [mk_refPack0_32, thenR, blockR, loopR, mk_t, mk_f, mk_n]; try simp only [List.length_map, w1, nby1, Int.toNat_natCast])|(refine TW.ca rfl ?_; (try simp only [List.length_map, w1, nby1]); first | refine TW.C0 (hF := hF _ _ _) (h := ?_)|(refine TW.kc 29 rfl ?_; first | refine TW.C0 (hF := RPutN_fs _ _ (by first | assumption | decide)) (h := ?_)|refine TW.C0 (hF := RPut_fs _ _ (by first | assumption | decide) (by first | assumption | (simp only [List.length_append, be_len]; omega))) (h := ?_)))|refine TW.gn (h := ?_)|(simp only [List.length_map, w1, nby1]; refine TW.nm (h := ?_)))) | refine CS.seq fun K hK => ?_|(refine CS.regl mk_refPack0_32 (fun K0 hK0 => ?_); try dsimp only [mp_s, mp_z])|(refine CS.drawl tab mk_refPack0_32 (fun K1 hK1 => ?_); try dsimp only [mp_s, mp_z])|(refine hK _ _ ?_; clear hK K)|(clear hK K; refine hK _ _ ?_; clear hK K)|(clear hK K; clear hK K; refine hK _ _ ?_; clear hK K)|(clear hK K; clear hK K; clear hK K; refine hK _ _ ?_; clear hK K)|((first | refine CS_ret ?_ | refine CS_skip ?_ | refine CS_exit ?_ | rw [if_pos rfl] | rw [if_neg (by decide)]); try dsimp only [thenR, blockR, loopR])|refine CS.blk ?_|refine CS.yes rfl ?_|refine CS.no rfl ?_|simp only [List.length_map, w1, nby1])
  refine CS.lp (fun i : Nat => i ≤ l.length)
    (fun i => ([.sl bw 3 (l.map rgc) ex, .any, .any, .sl false 1 ((be (l.length : Int) 1 ++ pkbs (l.take i)).map bG) [], .lit (.int .i64 i)] ++ List.replicate 43 .any))
    (fun i => []) (fun i => l.length - i) 0 [] [true, false, false, true, true] (by decide) rfl (Nat.zero_le _) (by rw [List.take_zero, pkbs, List.append_nil]; rfl) rfl ?_
  intro i hi
  simp only [List.replicate_succ, List.replicate_zero, List.cons_append, List.nil_append]
  by_cases c : i < l.length
  · have d := int_lt c
    have hg := map_at (f := rgc) c
    have hI0 : (0 : Int) ≤ (i : Int) := by omega
    have hI1 : (i : Int) < ((l.map rgc).length : Int) := by simp; omega
    have ew := wrap_nat (n := i) (by omega)
    have hok := hr _ (List.getElem_mem c)
    have pr := pkl_rng hok
    have ht : pkbs (l.take (i + 1)) = pkbs (l.take i) ++ pkb l[i] := by rw [List.take_succ_eq_append_getElem c, pkbs_snoc]
    have hbl : (be (l.length : Int) 1 ++ pkbs (l.take i)).length ≤ 10000000 := by
      rw [List.length_append, be_len, pkbs_len, List.length_take]; omega
    have e4 : be (l.length : Int) 1 ++ pkbs (l.take i) ++ be (l[i].1 % 18446744073709551616) 1 ++ be (pkl l[i]) 4 ++ be (pkh l[i]) 4 = be (l.length : Int) 1 ++ pkbs (l.take (i + 1)) := by
      rw [ht, pkb]; simp only [List.append_assoc]
    obtain ⟨X, hX⟩ : ∃ X, X = be (l.length : Int) 1 ++ pkbs (l.take i) := ⟨_, rfl⟩
    rw [← hX] at hbl e4 ⊢
    have hq1 : X.length ≤ 1000000000 := by omega
    have hq2 : (X ++ be (l[i].1 % 18446744073709551616) 1).length ≤ 1000000000 := by rw [List.length_append, be_len]; omega
    have hq3 : (X ++ be (l[i].1 % 18446744073709551616) 1 ++ be (pkl l[i]) 4).length ≤ 1000000000 := by rw [List.length_append, List.length_append, be_len, be_len]; omega
    have k0 : 0 ≤ l[i].1 % 18446744073709551616 := by omega
    have k1 : 0 ≤ pkl l[i] := pr.1.1
    have k2 : 0 ≤ pkh l[i] := pr.2.1
    have wk : IntKind.u64.wrap l[i].1 = l[i].1 % 18446744073709551616 := wrap_u64 _
    by_cases c2 : l[i].1 = 2
    · have d2 : (l[i].1 != 2) = false := by simpa using c2
      have wl : IntKind.u64.wrap l[i].2.1 = pkl l[i] := by have := hok.1; unfold u32r at this; unfold pkl; rw [if_pos c2, wrap_u64]; omega
      have wh : IntKind.u64.wrap l[i].2.2 = pkh l[i] := by have := hok.2; unfold u32r at this; unfold pkh; rw [if_pos c2, wrap_u64]; omega
      repeat (first | (refine TW.tw ?_; (first | (refine TW.nil ?_; (first | (refine hK0 _ _ ?_; clear hK0 K0) | (refine hK1 _ _ _ (by kernel_rfl) ?_; clear hK1 K1)); try dsimp only [mk_refPack0_32, thenR, blockR, loopR, mk_t, mk_f, mk_n]; try simp only [List.length_map, d, rgc, d2, wk, wl, wh, nby1, nby4, ew, e4, Int.toNat_natCast])|(refine TW.ca rfl ?_; (try simp only [List.length_map, d, rgc, d2, wk, wl, wh, nby1, nby4, ew, e4]); first | refine TW.C0 (hF := hF _ _ _) (h := ?_)|(refine TW.kc 29 rfl ?_; first | refine TW.C0 (hF := RPutN_fs _ _ (by first | assumption | decide)) (h := ?_)|refine TW.C0 (hF := RPut_fs _ _ (by first | assumption | decide) (by first | assumption | (simp only [List.length_append, be_len]; omega))) (h := ?_)))|refine TW.gn (h := ?_)|(simp only [List.length_map, d, rgc, d2, wk, wl, wh, nby1, nby4, ew, e4]; refine TW.nm (h := ?_)))) | refine CS.seq fun K hK => ?_|(refine CS.regl mk_refPack0_32 (fun K0 hK0 => ?_); try dsimp only [mp_s, mp_z])|(refine CS.drawl tab mk_refPack0_32 (fun K1 hK1 => ?_); try dsimp only [mp_s, mp_z])|(refine hK _ _ ?_; clear hK K)|(clear hK K; refine hK _ _ ?_; clear hK K)|(clear hK K; clear hK K; refine hK _ _ ?_; clear hK K)|(clear hK K; clear hK K; clear hK K; refine hK _ _ ?_; clear hK K)|((first | refine CS_ret ?_ | refine CS_skip ?_ | refine CS_exit ?_ | rw [if_pos rfl] | rw [if_neg (by decide)]); try dsimp only [thenR, blockR, loopR])|refine CS.blk ?_|refine CS.yes rfl ?_|refine CS.no rfl ?_|simp only [List.length_map, d, rgc, d2, wk, wl, wh, nby1, nby4, ew, e4])
      exact ⟨i + 1, [], [true, false, false, true, true], c, by show l.length - (i + 1) < l.length - i; omega, by decide, rfl, rfl, rfl⟩
    · have d2 : (l[i].1 != 2) = true := by simpa using c2
      have wz : IntKind.u64.wrap 0 = pkl l[i] := by unfold pkl; rw [if_neg c2]; decide
      have ez : pkl l[i] = pkh l[i] := by unfold pkl pkh; rw [if_neg c2, if_neg c2]
      rw [ez] at e4 hq3 wz
      repeat (first | (refine TW.tw ?_; (first | (refine TW.nil ?_; (first | (refine hK0 _ _ ?_; clear hK0 K0) | (refine hK1 _ _ _ (by kernel_rfl) ?_; clear hK1 K1)); try dsimp only [mk_refPack0_32, thenR, blockR, loopR, mk_t, mk_f, mk_n]; try simp only [List.length_map, d, rgc, d2, wk, wz, nby1, nby4, ew, e4, Int.toNat_natCast])|(refine TW.ca rfl ?_; (try simp only [List.length_map, d, rgc, d2, wk, wz, nby1, nby4, ew, e4]); first | refine TW.C0 (hF := hF _ _ _) (h := ?_)|(refine TW.kc 29 rfl ?_; first | refine TW.C0 (hF := RPutN_fs _ _ (by first | assumption | decide)) (h := ?_)|refine TW.C0 (hF := RPut_fs _ _ (by first | assumption | decide) (by first | assumption | (simp only [List.length_append, be_len]; omega))) (h := ?_)))|refine TW.gn (h := ?_)|(simp only [List.length_map, d, rgc, d2, wk, wz, nby1, nby4, ew, e4]; refine TW.nm (h := ?_)))) | refine CS.seq fun K hK => ?_|(refine CS.regl mk_refPack0_32 (fun K0 hK0 => ?_); try dsimp only [mp_s, mp_z])|(refine CS.drawl tab mk_refPack0_32 (fun K1 hK1 => ?_); try dsimp only [mp_s, mp_z])|(refine hK _ _ ?_; clear hK K)|(clear hK K; refine hK _ _ ?_; clear hK K)|(clear hK K; clear hK K; refine hK _ _ ?_; clear hK K)|(clear hK K; clear hK K; clear hK K; refine hK _ _ ?_; clear hK K)|((first | refine CS_ret ?_ | refine CS_skip ?_ | refine CS_exit ?_ | rw [if_pos rfl] | rw [if_neg (by decide)]); try dsimp only [thenR, blockR, loopR])|refine CS.blk ?_|refine CS.yes rfl ?_|refine CS.no rfl ?_|simp only [List.length_map, d, rgc, d2, wk, wz, nby1, nby4, ew, e4])
      exact ⟨i + 1, [], [true, false, false, true, true], c, by show l.length - (i + 1) < l.length - i; omega, by decide, rfl, rfl, rfl⟩
  · have d := int_nlt c
    have ht : l.take i = l := List.take_of_length_le (by omega)
    rw [ht]
    unfold pack at hR0
    repeat (first | (refine TW.tw ?_; (first | (refine TW.nil ?_; (first | (refine hK0 _ _ ?_; clear hK0 K0) | (refine hK1 _ _ _ (by kernel_rfl) ?_; clear hK1 K1)); try dsimp only [mk_refPack0_32, thenR, blockR, loopR, mk_t, mk_f, mk_n]; try simp only [List.length_map, d, Int.toNat_natCast])|(refine TW.ca rfl ?_; first | refine TW.C0 (hF := hF _ _ _) (h := ?_)|(refine TW.kc 29 rfl ?_; first | refine TW.C0 (hF := RPutN_fs _ _ (by first | assumption | decide)) (h := ?_)|refine TW.C0 (hF := RPut_fs _ _ (by first | assumption | decide) (by first | assumption | (simp only [List.length_append, be_len]; omega))) (h := ?_)))|refine TW.gn (h := ?_)|(simp only [List.length_map, d]; refine TW.nm (h := ?_)))) | refine CS.seq fun K hK => ?_|(refine CS.regl mk_refPack0_32 (fun K0 hK0 => ?_); try dsimp only [mp_s, mp_z])|(refine CS.drawl tab mk_refPack0_32 (fun K1 hK1 => ?_); try dsimp only [mp_s, mp_z])|(refine hK _ _ ?_; clear hK K)|(clear hK K; refine hK _ _ ?_; clear hK K)|(clear hK K; clear hK K; refine hK _ _ ?_; clear hK K)|(clear hK K; clear hK K; clear hK K; refine hK _ _ ?_; clear hK K)|((first | refine CS_ret ?_ | refine CS_skip ?_ | refine CS_exit ?_ | rw [if_pos rfl] | rw [if_neg (by decide)]); try dsimp only [thenR, blockR, loopR])|refine CS.blk ?_|refine CS.yes rfl ?_|refine CS.no rfl ?_|simp only [List.length_map, d])
    exact hR0 _ _ _ (by exact GS.refl ⟨(by first | exact .inr rfl | exact .inl rfl), _, [], gresT_ok tab rfl, by decide, rfl, rfl, rfl, rfl⟩)
end Go.Gh

