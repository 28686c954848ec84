import Derived.Test.YtbkahcionjkgjaaMsgTake
import Derived.Test.YtbkahcionjkgjaaMsgPackR

namespace Go.Gh
def mk_msgReadR_44 : List Bool := [true, true, false, false, true, true, true, false, false, false, false, false, false, false, true, false, false, false, false, false, false, false, false, false, false, false]
open Go.Proofs
set_option linter.unusedVariables false
set_option linter.unusedSimpArgs false

/-! Layer 6: what the document reads. -/
def ast (B : List Int) (A : Nat × Int) : List Int × Int := (rst B A.1 A.2, A.2)
def anx (B : List Int) (A : Nat × Int) (n : Nat) : Nat × Int := (atN B A.1 A.2 n, tkE (rst B A.1 A.2) A.2 n)
theorem ast_nx (B : List Int) (A : Nat × Int) (n : Nat) : ast B (anx B A n) = nx (ast B A) n := by
  show (rst B _ _, _) = (tkL _ _ _, tkE _ _ _)
  rw [show (ast B A).1 = rst B A.1 A.2 from rfl, show (ast B A).2 = A.2 from rfl, rst_L]
  rfl
theorem ast_2 (B : List Int) (A : Nat × Int) : (ast B A).2 = A.2 := rfl
def aok (B : List Int) (A : Nat × Int) : Prop := A.1 ≤ B.length ∧ (A.2 = 0 ∨ A.2 = 3) ∧ byt B
theorem aok.sok {B : List Int} {A : Nat × Int} (h : aok B A) : sok (ast B A) := ⟨rst_byt h.2.2 _ _, h.2.1⟩
theorem aok.nx {B : List Int} {A : Nat × Int} (h : aok B A) (n : Nat) : aok B (anx B A n) := by
  refine ⟨atN_le h.1 _ _, ?_, h.2.2⟩
  have := (h.sok.nx n).2
  rw [← ast_nx] at this
  exact this
def rro (B : List Int) (ex : List (List GV)) (A : Nat × Int) : GO := .cells [.sl false 1 (B.map bG) ex, .lit (.int .i64 (A.1 : Int)), .lit (.int .i64 A.2)]
theorem RGetS_fs {B : List Int} {ex : List (List GV)} {A : Nat × Int} (n : Int) (h : aok B A) (hB : B.length ≤ 1000000000) : FS Try.prog 43 [.adr 0 0 0, .lit (.int .i64 n)] [rro B ex A] (.lit (.int .u64 (gt (ast B A) (nby n)))) [rro B ex (anx B A (nby n))] := RGet_fs n h.1 hB h.2.2
def ait (B : List Int) (A : Nat × Int) : Nat → Nat × Int
  | 0 => A
  | i + 1 => anx B (ait B A i) 4
theorem ait_ok {B : List Int} {A : Nat × Int} (h : aok B A) : ∀ i, aok B (ait B A i)
  | 0 => h
  | i + 1 => (ait_ok h i).nx 4
theorem ast_ait (B : List Int) (A : Nat × Int) : ∀ i, ast B (ait B A i) = vit (ast B A) i
  | 0 => rfl
  | i + 1 => by rw [ait, ast_nx, ast_ait B A i]; rfl
def arec (B : List Int) (n : Nat) (A : Nat × Int) : Nat × Int := ait B (anx B (anx B A 8) 8) n
theorem arec_ok {B : List Int} {A : Nat × Int} (h : aok B A) (n : Nat) : aok B (arec B n A) := ait_ok ((h.nx 8).nx 8) n
theorem ast_arec (B : List Int) (n : Nat) (A : Nat × Int) : ast B (arec B n A) = rrecS n (ast B A) := by unfold arec rrecS; rw [ast_ait, ast_nx, ast_nx]

set_option maxRecDepth 8000 in
set_option maxHeartbeats 8000000 in
theorem R6readRec_fs {B : List Int} {ex : List (List GV)} {A : Nat × Int} {n : Int} (h : aok B A) (hB : B.length ≤ 1000000000) (h0 : 0 ≤ n) (h1 : n ≤ 8) : FS Try.prog 44 [.adr 0 0 0, .lit (.int .i64 n)] [rro B ex A] (.agg (rcG (rrec n.toNat (ast B A)))) [rro B ex (arec B n.toNat A)] := by
  refine FS.enterG Try.func44 rfl fun R0 hR0 => ?_
  simp only [Try.ntmps44, List.length_cons, List.length_nil, List.replicate_succ, List.replicate_zero, List.cons_append, List.nil_append, Nat.reduceAdd, Nat.reduceSub]
  obtain ⟨k, rfl⟩ := Int.eq_ofNat_of_zero_le h0
  have k1 := h.nx 8
  have k2 := k1.nx 8
  simp only [rro, rcG, rrec, arec, Int.toNat_natCast] at hR0 ⊢
  rw [← ast_nx, ← ast_nx] at hR0
  repeat (first | (refine TW.tw ?_; (first | (refine TW.nil ?_; (first | (refine hK0 _ _ ?_; clear hK0 K0) | (refine hK1 _ _ _ (by kernel_rfl) ?_; clear hK1 K1)); try dsimp only [mk_msgReadR_44, thenR, blockR, loopR, mk_t, mk_f, mk_n]; try simp only [rro, nby8', Int.toNat_natCast])|(refine TW.ca rfl ?_; first | refine TW.C0 (hF := hF _ _ _) (h := ?_)|(refine TW.kc 43 rfl ?_; first | refine TW.RC (ids := [_]) (hF := RGetS_fs _ (by first | assumption | exact aok.nx (by assumption) _) (by assumption)) (h := ?_)))|refine TW.gn (h := ?_)|(simp only [rro, nby8']; refine TW.nm (h := ?_)))) | refine CS.seq fun K hK => ?_|(refine CS.regl mk_msgReadR_44 (fun K0 hK0 => ?_); try dsimp only [mp_s, mp_z])|(refine CS.drawl tab mk_msgReadR_44 (fun K1 hK1 => ?_); try dsimp only [mp_s, mp_z])|(refine hK _ _ ?_; clear hK K)|(clear hK K; refine hK _ _ ?_; clear hK K)|(clear hK K; clear hK K; refine hK _ _ ?_; clear hK K)|(clear hK K; clear hK K; clear hK K; refine hK _ _ ?_; clear hK K)|((first | refine CS_ret ?_ | refine CS_skip ?_ | refine CS_exit ?_ | rw [if_pos rfl] | rw [if_neg (by decide)]); try dsimp only [thenR, blockR, loopR])|refine CS.blk ?_|refine CS.yes rfl ?_|refine CS.no rfl ?_|simp only [rro, nby8'])
  generalize anx B (anx B A 8) 8 = t at *
  refine CS.ghost (GS.adoptO 22 1 2 2 rfl rfl (GS.refl ?_))
  refine CS.lp (fun i : Nat => i ≤ k)
    (fun i => ([.adr 0 0 0, .lit (.int .i64 k), .any, .any, .adr 1 0 0, .adr 2 0 0, .lit (.int .i64 i)] ++ List.replicate 19 .any))
    (fun i => [rro B ex (ait B t i), .cells [.lit (.int .u64 0), .lit (.int .u64 0), .lit (.slice none 0 0)], .cells [.lit (.int .u64 (gt (ast B A) 8)), .lit (.int .u64 (gt (ast B (anx B A 8)) 8)), .row 3], .row 22 1 ((vls (ast B t) i).map uuG)]) (fun i => k - i) 0 [0, 1, 2, 3] [true, true, false, false, true, true, true] (by decide) rfl (Nat.zero_le _) rfl rfl ?_
  intro i hi
  simp only [rro, List.replicate_succ, List.replicate_zero, List.cons_append, List.nil_append]
  have hi' := ait_ok k2 i
  by_cases c : i < k
  · have d := int_lt c
    have ew := wrap_nat (n := i) (by omega)
    have m1 : k - (i + 1) < k - i := by omega
    have e1 : ait B t (i + 1) = anx B (ait B t i) 4 := rfl
    have e2 := vls_succ (ast B t) i
    rw [← ast_ait] at e2
    have hl := vls_len (ast B t) i
    have hb : ((vls (ast B t) i).map uuG).length + 1 ≤ 137438953472 := by rw [List.length_map]; omega
    have hr := gt4 hi'.sok
    have w : IntKind.u32.wrap (gt (ast B (ait B t i)) 4) = gt (ast B (ait B t i)) 4 := by rw [wrap_u32]; omega
    have e3 : (vls (ast B t) (i + 1)).map uuG = (vls (ast B t) i).map uuG ++ [[GV.lit (.int .u32 (gt (ast B (ait B t i)) 4))]] := by rw [e2, List.map_append]; rfl
    generalize (vls (ast B t) i).map uuG = X at *
    generalize ait B t i = u at *
    repeat (first | (refine TW.tw ?_; (first | (refine TW.nil ?_; (first | (refine hK0 _ _ ?_; clear hK0 K0) | (refine hK1 _ _ _ (by kernel_rfl) ?_; clear hK1 K1)); try dsimp only [mk_msgReadR_44, thenR, blockR, loopR, mk_t, mk_f, mk_n]; try simp only [rro, nby4, w, d, ew, Int.toNat_natCast])|(refine TW.ca rfl ?_; first | refine TW.C0 (hF := hF _ _ _) (h := ?_)|(refine TW.kc 43 rfl ?_; first | refine TW.RC (ids := [_]) (hF := RGetS_fs _ (by first | assumption | exact aok.nx (by assumption) _) (by assumption)) (h := ?_)))|refine TW.gn (h := ?_)|(simp only [rro, nby4, w, d, ew]; refine TW.nm (h := ?_)))) | refine CS.seq fun K hK => ?_|(refine CS.regl mk_msgReadR_44 (fun K0 hK0 => ?_); try dsimp only [mp_s, mp_z])|(refine CS.drawl tab mk_msgReadR_44 (fun K1 hK1 => ?_); try dsimp only [mp_s, mp_z])|(refine hK _ _ ?_; clear hK K)|(clear hK K; refine hK _ _ ?_; clear hK K)|(clear hK K; clear hK K; refine hK _ _ ?_; clear hK K)|(clear hK K; clear hK K; clear hK K; refine hK _ _ ?_; clear hK K)|((first | refine CS_ret ?_ | refine CS_skip ?_ | refine CS_exit ?_ | rw [if_pos rfl] | rw [if_neg (by decide)]); try dsimp only [thenR, blockR, loopR])|refine CS.blk ?_|refine CS.yes rfl ?_|refine CS.no rfl ?_|simp only [rro, nby4, w, d, ew])
    exact ⟨i + 1, [0, 1, 2, 5], [true, true, false, false, true, true, true], c, m1, by decide, rfl, rfl, by rw [e1, e3]; rfl⟩
  · have d := int_nlt c
    have ei : i = k := by omega
    subst ei
    refine CS.ghost (GS.frzO 2 2 rfl rfl rfl (GS.refl ?_))
    repeat (first | (refine TW.tw ?_; (first | (refine TW.nil ?_; (first | (refine hK0 _ _ ?_; clear hK0 K0) | (refine hK1 _ _ _ (by kernel_rfl) ?_; clear hK1 K1)); try dsimp only [mk_msgReadR_44, thenR, blockR, loopR, mk_t, mk_f, mk_n]; try simp only [d, Int.toNat_natCast])|(refine TW.ca rfl ?_; first | refine TW.C0 (hF := hF _ _ _) (h := ?_)|(refine TW.kc 43 rfl ?_; first | refine TW.RC (ids := [_]) (hF := RGetS_fs _ (by first | assumption | exact aok.nx (by assumption) _) (by assumption)) (h := ?_)))|refine TW.gn (h := ?_)|(simp only [d]; refine TW.nm (h := ?_)))) | refine CS.seq fun K hK => ?_|(refine CS.regl mk_msgReadR_44 (fun K0 hK0 => ?_); try dsimp only [mp_s, mp_z])|(refine CS.drawl tab mk_msgReadR_44 (fun K1 hK1 => ?_); try dsimp only [mp_s, mp_z])|(refine hK _ _ ?_; clear hK K)|(clear hK K; refine hK _ _ ?_; clear hK K)|(clear hK K; clear hK K; refine hK _ _ ?_; clear hK K)|(clear hK K; clear hK K; clear hK K; refine hK _ _ ?_; clear hK K)|((first | refine CS_ret ?_ | refine CS_skip ?_ | refine CS_exit ?_ | rw [if_pos rfl] | rw [if_neg (by decide)]); try dsimp only [thenR, blockR, loopR])|refine CS.blk ?_|refine CS.yes rfl ?_|refine CS.no rfl ?_|simp only [d])
    exact hR0 _ _ _ (by exact GS.refl ⟨(by first | exact .inr rfl | exact .inl rfl), _, [0], gresT_ok tab rfl, by decide, rfl, rfl, rfl, rfl⟩)
end Go.Gh

