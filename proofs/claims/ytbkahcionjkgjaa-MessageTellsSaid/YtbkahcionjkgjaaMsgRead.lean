import Derived.Test.YtbkahcionjkgjaaMsgPack2

namespace Go.Gh
def mk_msgRead_35 : List Bool := [true, true, true, false, true, false, false, false, false, false]
def mk_msgRead_41 : List Bool := [true, true, true, true, false, false, false, false, false, false, false, false, true, true, true, false, false, false, false, false, false, false, false, false]
def mk_msgRead_38 : List Bool := [true, true, true, true, false, false, false, false, false, false]
def mk_msgRead_39 : List Bool := [true, true, true, true, true, true, false, false, false, false, false, false, false, false, false, true, false, false, false, false, false, false, false, false, false, false, false, false, false, false, false, false]
def mk_msgRead_37 : List Bool := [true, true, true, false, false, false, false, false, false, false, false, false, false, false, false, false, false, false, false, false, false, false, false, false, true, false, false, false, false, false, false, false, false, false, false, false, false, false, false, false, false, false, false, false, false, false, false, false, false, false, false, false, false, true, false, false, false, false, false, false, false, false, false, false]
open Go.Proofs
set_option linter.unusedVariables false
set_option linter.unusedSimpArgs false

/-! Layer 6: what is read. -/
def gt (s : List Int × Int) (n : Nat) : Int := getv (tk s.1 s.2 n)
def nx (s : List Int × Int) (n : Nat) : List Int × Int := (tkL s.1 s.2 n, tkE s.1 s.2 n)
def sok (s : List Int × Int) : Prop := byt s.1 ∧ (s.2 = 0 ∨ s.2 = 3)
theorem sok.nx {s : List Int × Int} (h : sok s) (n : Nat) : sok (nx s n) := by
  refine ⟨tkL_byt h.1 _ _, ?_⟩
  show tkE s.1 s.2 n = 0 ∨ tkE s.1 s.2 n = 3
  unfold tkE
  rcases h.2 with e | e
  · rw [if_pos e]; split
    · exact .inl rfl
    · exact .inr rfl
  · rw [if_neg (by omega)]; exact .inr e
theorem nx_err {s : List Int × Int} (h : s.2 ≠ 0) (n : Nat) : nx s n = s := by
  unfold nx tkL tkE; rw [if_neg h, if_neg h]
theorem gt_err {s : List Int × Int} (h : s.2 ≠ 0) (n : Nat) : gt s n = 0 := by
  unfold gt tk; rw [if_neg fun hh => h hh.1]; rfl
theorem p256 {m n : Nat} (h : m ≤ n) : (256 : Int) ^ m ≤ 256 ^ n := by
  obtain ⟨k, rfl⟩ := Nat.exists_eq_add_of_le h
  induction k with
  | zero => exact Int.le_refl _
  | succ k ih =>
    have e : (256 : Int) ^ (m + (k + 1)) = 256 ^ (m + k) * 256 := Int.pow_succ ..
    have := ih (by omega)
    have hp : (0 : Int) < 256 ^ m := Int.pow_pos (by decide)
    omega
theorem fold_lt : ∀ (L : List Int) (k : Nat) (a : Int), byt L → 0 ≤ a → a < 256 ^ k → k + L.length ≤ 8 → 0 ≤ L.foldl gstep a ∧ L.foldl gstep a < 256 ^ (k + L.length)
  | [], k, a, _, h0, h1, _ => ⟨h0, h1⟩
  | c :: L, k, a, hb, h0, h1, hk => by
    have hc := hb c (List.mem_cons_self ..)
    rw [List.length_cons] at hk
    have e1 : (256 : Int) ^ (k + 1) = 256 ^ k * 256 := Int.pow_succ ..
    have h8 : (256 : Int) ^ (k + 1) ≤ 18446744073709551616 := by
      have : (256 : Int) ^ (k + 1) ≤ 256 ^ 8 := p256 (by omega)
      calc (256 : Int) ^ (k + 1) ≤ 256 ^ 8 := this
        _ = 18446744073709551616 := by decide
    have hg : gstep a c = a * 256 + c := by unfold gstep; omega
    rw [List.foldl_cons, hg, List.length_cons, show k + (L.length + 1) = (k + 1) + L.length by omega]
    exact fold_lt L (k + 1) _ (fun x hx => hb x (List.mem_cons_of_mem _ hx)) (by omega) (by omega) (by omega)
theorem gt_rng {s : List Int × Int} (h : sok s) {n : Nat} (hn : n ≤ 8) : 0 ≤ gt s n ∧ gt s n < 256 ^ n := by
  have hl := tk_len s.1 s.2 n
  have hb := tk_byt h.1 s.2 n
  have := fold_lt (tk s.1 s.2 n) 0 0 hb (Int.le_refl _) (by decide) (by omega)
  rw [Nat.zero_add] at this
  exact ⟨this.1, Int.lt_of_lt_of_le this.2 (p256 hl)⟩
theorem gt1 {s : List Int × Int} (h : sok s) : 0 ≤ gt s 1 ∧ gt s 1 < 256 := gt_rng h (n := 1) (by decide)
theorem gt2 {s : List Int × Int} (h : sok s) : 0 ≤ gt s 2 ∧ gt s 2 < 65536 := gt_rng h (n := 2) (by decide)
theorem gt4 {s : List Int × Int} (h : sok s) : 0 ≤ gt s 4 ∧ gt s 4 < 4294967296 := gt_rng h (n := 4) (by decide)
theorem gt8 {s : List Int × Int} (h : sok s) : 0 ≤ gt s 8 ∧ gt s 8 < 18446744073709551616 := gt_rng h (n := 8) (by decide)
def rdo (s : List Int × Int) : GO := .cells [.sl false 1 (s.1.map bG) [], .lit (.int .i64 s.2)]
def rdr (n : Int) : GV := .agg [.adr 0 0 0, .lit (.int .i64 n)]
/-- Values, one behind the other. -/
def vit (s : List Int × Int) : Nat → List Int × Int
  | 0 => s
  | i + 1 => nx (vit s i) 4
def vls (s : List Int × Int) (n : Nat) : List Int := (List.range n).map fun i => gt (vit s i) 4
theorem vls_succ (s : List Int × Int) (n : Nat) : vls s (n + 1) = vls s n ++ [gt (vit s n) 4] := by unfold vls; rw [List.range_succ, List.map_append]; rfl
theorem vls_len (s : List Int × Int) (n : Nat) : (vls s n).length = n := by simp [vls]
theorem vit_ok {s : List Int × Int} (h : sok s) : ∀ n, sok (vit s n)
  | 0 => h
  | n + 1 => (vit_ok h n).nx 4
def rrec (n : Nat) (s : List Int × Int) : RecV := ⟨gt s 8, gt (nx s 8) 8, vls (nx (nx s 8) 8) n, []⟩
def rrecS (n : Nat) (s : List Int × Int) : List Int × Int := vit (nx (nx s 8) 8) n
theorem rrecS_ok {s : List Int × Int} (h : sok s) (n : Nat) : sok (rrecS n s) := vit_ok ((h.nx 8).nx 8) n
theorem OGetS_fs {s : List Int × Int} (n : Int) (h : sok s) : FS Try.prog 57 [.adr 0 0 0, .lit (.int .i64 n)] [rdo s] (.lit (.int .u64 (gt s (nby n)))) [rdo (nx s (nby n))] := OGet_fs n h.1
theorem OErrS_fs {s : List Int × Int} : FS Try.prog 40 [.adr 0 0 0] [rdo s] (.lit (.int .i64 s.2)) [rdo s] := OErr_fs

theorem Mnum_fs {s : List Int × Int} (n k : Int) (h : sok s) (hk : nby k ≤ 4) : FS Try.prog 35 [rdr n, .lit (.int .i64 k)] [rdo s] (.lit (.int .i64 (gt s (nby k)))) [rdo (nx s (nby k))] := by
  refine FS.enterG Try.func35 rfl fun R0 hR0 => ?_
  simp only [Try.ntmps35, List.length_cons, List.length_nil, List.replicate_succ, List.replicate_zero, List.cons_append, List.nil_append, Nat.reduceAdd, Nat.reduceSub]
  have hr := gt_rng h (n := nby k) (by omega)
  have h4 : (256 : Int) ^ (nby k) ≤ 256 ^ 4 := p256 hk
  have h5 : (256 : Int) ^ 4 = 4294967296 := by decide
  have w : IntKind.i64.wrap (gt s (nby k)) = gt s (nby k) := wrap_i64 _ (by omega) (by omega)
  simp only [rdr, rdo] at hR0 ⊢
  repeat (first | (refine TW.tw ?_; (first | (refine TW.nil ?_; (first | (refine hK0 _ _ ?_; clear hK0 K0) | (refine hK1 _ _ _ (by kernel_rfl) ?_; clear hK1 K1)); try dsimp only [mk_msgRead_35, thenR, blockR, loopR, mk_t, mk_f, mk_n]; try simp only [rdo, w, Int.toNat_natCast])|(refine TW.ca rfl ?_; first | refine TW.C0 (hF := hF _ _ _) (h := ?_)|(refine TW.kc 57 rfl ?_; first | refine TW.RC (ids := [_]) (hF := OGetS_fs _ (by assumption)) (h := ?_)|refine TW.C0 (hF := OGet0_fs _) (h := ?_)|refine TW.O1 (hF := OGet_fs _ (by first | assumption | exact tkL_byt (by assumption) _ _ | decide)) (h := ?_)))|refine TW.gn (h := ?_)|(simp only [rdo, w]; refine TW.nm (h := ?_)))) | refine CS.seq fun K hK => ?_|(refine CS.regl mk_msgRead_35 (fun K0 hK0 => ?_); try dsimp only [mp_s, mp_z])|(refine CS.drawl tab mk_msgRead_35 (fun K1 hK1 => ?_); try dsimp only [mp_s, mp_z])|(refine hK _ _ ?_; clear hK K)|(clear hK K; refine hK _ _ ?_; clear hK K)|(clear hK K; clear hK K; refine hK _ _ ?_; clear hK K)|(clear hK K; clear hK K; clear hK K; refine hK _ _ ?_; clear hK K)|((first | refine CS_ret ?_ | refine CS_skip ?_ | refine CS_exit ?_ | rw [if_pos rfl] | rw [if_neg (by decide)]); try dsimp only [thenR, blockR, loopR])|refine CS.blk ?_|refine CS.yes rfl ?_|refine CS.no rfl ?_|simp only [rdo, w])
  exact hR0 _ _ _ (by exact GS.refl ⟨(by first | exact .inr rfl | exact .inl rfl), _, [0], gresT_ok tab rfl, by decide, rfl, rfl, rfl, rfl⟩)
theorem Mval_fs {s : List Int × Int} (n : Int) (h : sok s) : FS Try.prog 36 [rdr n] [rdo s] (.lit (.int .u32 (gt s 4))) [rdo (nx s 4)] := by
  refine FS.enterG Try.func36 rfl fun R0 hR0 => ?_
  simp only [Try.ntmps36, List.length_cons, List.length_nil, List.replicate_succ, List.replicate_zero, List.cons_append, List.nil_append, Nat.reduceAdd, Nat.reduceSub]
  have hr := gt4 h
  have w : IntKind.u32.wrap (gt s 4) = gt s 4 := by rw [wrap_u32]; omega
  simp only [rdr, rdo] at hR0 ⊢
  repeat (first | (refine TW.tw ?_; (first | (refine TW.nil ?_; (first | (refine hK0 _ _ ?_; clear hK0 K0) | (refine hK1 _ _ _ (by kernel_rfl) ?_; clear hK1 K1)); try dsimp only [thenR, blockR, loopR, mk_t, mk_f, mk_n]; try simp only [rdo, nby4, w, Int.toNat_natCast])|(refine TW.ca rfl ?_; first | refine TW.C0 (hF := hF _ _ _) (h := ?_)|(refine TW.kc 57 rfl ?_; first | refine TW.RC (ids := [_]) (hF := OGetS_fs _ (by assumption)) (h := ?_)|refine TW.C0 (hF := OGet0_fs _) (h := ?_)|refine TW.O1 (hF := OGet_fs _ (by first | assumption | exact tkL_byt (by assumption) _ _ | decide)) (h := ?_)))|refine TW.gn (h := ?_)|(simp only [rdo, nby4, w]; refine TW.nm (h := ?_)))) | refine CS.seq fun K hK => ?_|(refine CS.regl [true, true, true, false, false, false, false] (fun K0 hK0 => ?_); try dsimp only [mp_s, mp_z])|(refine CS.drawl tab [true, true, true, false, false, false, false] (fun K1 hK1 => ?_); try dsimp only [mp_s, mp_z])|(refine hK _ _ ?_; clear hK K)|(clear hK K; refine hK _ _ ?_; clear hK K)|(clear hK K; clear hK K; refine hK _ _ ?_; clear hK K)|(clear hK K; clear hK K; clear hK K; refine hK _ _ ?_; clear hK K)|((first | refine CS_ret ?_ | refine CS_skip ?_ | refine CS_exit ?_ | rw [if_pos rfl] | rw [if_neg (by decide)]); try dsimp only [thenR, blockR, loopR])|refine CS.blk ?_|refine CS.yes rfl ?_|refine CS.no rfl ?_|simp only [rdo, nby4, w])
  exact hR0 _ _ _ (by exact GS.refl ⟨(by first | exact .inr rfl | exact .inl rfl), _, [0], gresT_ok tab rfl, by decide, rfl, rfl, rfl, rfl⟩)
set_option maxRecDepth 8000 in
set_option maxHeartbeats 8000000 in
theorem MrecR_fs {s : List Int × Int} {n : Int} (h : sok s) (h0 : 0 ≤ n) (h1 : n ≤ 8) : FS Try.prog 41 [rdr n] [rdo s] (.agg (rcG (rrec n.toNat s))) [rdo (rrecS n.toNat s)] := by
  refine FS.enterG Try.func41 rfl fun R0 hR0 => ?_
  simp only [Try.ntmps41, List.length_cons, List.length_nil, List.replicate_succ, List.replicate_zero, List.cons_append, List.nil_append, Nat.reduceAdd, Nat.reduceSub]
  obtain ⟨k, rfl⟩ := Int.eq_ofNat_of_zero_le h0
  have k1 := h.nx 8
  have k2 := k1.nx 8
  simp only [rdr, rdo, rcG, rrec, rrecS, Int.toNat_natCast] at hR0 ⊢
  repeat (first | (refine TW.tw ?_; (first | (refine TW.nil ?_; (first | (refine hK0 _ _ ?_; clear hK0 K0) | (refine hK1 _ _ _ (by kernel_rfl) ?_; clear hK1 K1)); try dsimp only [mk_msgRead_41, thenR, blockR, loopR, mk_t, mk_f, mk_n]; try simp only [rdo, nby8', Int.toNat_natCast])|(refine TW.ca rfl ?_; first | refine TW.C0 (hF := hF _ _ _) (h := ?_)|(refine TW.kc 36 rfl ?_; first | refine TW.RC (ids := [_]) (hF := Mval_fs _ (by assumption)) (h := ?_))|(refine TW.kc 57 rfl ?_; first | refine TW.RC (ids := [_]) (hF := OGetS_fs _ (by assumption)) (h := ?_)|refine TW.C0 (hF := OGet0_fs _) (h := ?_)|refine TW.O1 (hF := OGet_fs _ (by first | assumption | exact tkL_byt (by assumption) _ _ | decide)) (h := ?_)))|refine TW.gn (h := ?_)|(simp only [rdo, nby8']; refine TW.nm (h := ?_)))) | refine CS.seq fun K hK => ?_|(refine CS.regl mk_msgRead_41 (fun K0 hK0 => ?_); try dsimp only [mp_s, mp_z])|(refine CS.drawl tab mk_msgRead_41 (fun K1 hK1 => ?_); try dsimp only [mp_s, mp_z])|(refine hK _ _ ?_; clear hK K)|(clear hK K; refine hK _ _ ?_; clear hK K)|(clear hK K; clear hK K; refine hK _ _ ?_; clear hK K)|(clear hK K; clear hK K; clear hK K; refine hK _ _ ?_; clear hK K)|((first | refine CS_ret ?_ | refine CS_skip ?_ | refine CS_exit ?_ | rw [if_pos rfl] | rw [if_neg (by decide)]); try dsimp only [thenR, blockR, loopR])|refine CS.blk ?_|refine CS.yes rfl ?_|refine CS.no rfl ?_|simp only [rdo, nby8'])
  generalize nx (nx s 8) 8 = t at *
  refine CS.ghost (GS.adoptO 22 1 3 2 rfl rfl (GS.refl ?_))
  refine CS.lp (fun i : Nat => i ≤ k)
    (fun i => ([.any, .adr 1 0 0, .adr 2 0 0, .adr 3 0 0, .any, .any, .any, .any, .any, .any, .any, .any, .lit (.int .i64 k), .lit (.int .i64 i)] ++ List.replicate 10 .any))
    (fun i => [rdo (vit t i), .cells [.adr 0 0 0, .lit (.int .i64 k)], .cells [.lit (.int .u64 0), .lit (.int .u64 0), .lit (.slice none 0 0)], .cells [.lit (.int .u64 (gt s 8)), .lit (.int .u64 (gt (nx s 8) 8)), .row 4], .row 22 1 ((vls t i).map uuG)]) (fun i => k - i) 0 [0, 1, 2, 3, 4] [false, true, true, true, false, false, false, false, false, false, false, false, true, true] (by decide) rfl (Nat.zero_le _) rfl rfl ?_
  intro i hi
  simp only [rdo, List.replicate_succ, List.replicate_zero, List.cons_append, List.nil_append]
  have hi' := vit_ok k2 i
  by_cases c : i < k
  · have d := int_lt c
    have ew := wrap_nat (n := i) (by omega)
    have m1 : k - (i + 1) < k - i := by omega
    have e1 : vit t (i + 1) = nx (vit t i) 4 := rfl
    have e2 := vls_succ t i
    have hl := vls_len t i
    have hb : ((vls t i).map uuG).length + 1 ≤ 137438953472 := by rw [List.length_map]; omega
    have e3 : (vls t (i + 1)).map uuG = (vls t i).map uuG ++ [[GV.lit (.int .u32 (gt (vit t i) 4))]] := by rw [e2, List.map_append]; rfl
    generalize (vls t i).map uuG = X at *
    generalize vit t i = u at *
    repeat (first | (refine TW.tw ?_; (first | (refine TW.nil ?_; (first | (refine hK0 _ _ ?_; clear hK0 K0) | (refine hK1 _ _ _ (by kernel_rfl) ?_; clear hK1 K1)); try dsimp only [mk_msgRead_41, thenR, blockR, loopR, mk_t, mk_f, mk_n]; try simp only [rdo, d, ew, Int.toNat_natCast])|(refine TW.ca rfl ?_; first | refine TW.C0 (hF := hF _ _ _) (h := ?_)|(refine TW.kc 36 rfl ?_; first | refine TW.RC (ids := [_]) (hF := Mval_fs _ (by assumption)) (h := ?_))|(refine TW.kc 57 rfl ?_; first | refine TW.RC (ids := [_]) (hF := OGetS_fs _ (by assumption)) (h := ?_)|refine TW.C0 (hF := OGet0_fs _) (h := ?_)|refine TW.O1 (hF := OGet_fs _ (by first | assumption | exact tkL_byt (by assumption) _ _ | decide)) (h := ?_)))|refine TW.gn (h := ?_)|(simp only [rdo, d, ew]; refine TW.nm (h := ?_)))) | refine CS.seq fun K hK => ?_|(refine CS.regl mk_msgRead_41 (fun K0 hK0 => ?_); try dsimp only [mp_s, mp_z])|(refine CS.drawl tab mk_msgRead_41 (fun K1 hK1 => ?_); try dsimp only [mp_s, mp_z])|(refine hK _ _ ?_; clear hK K)|(clear hK K; refine hK _ _ ?_; clear hK K)|(clear hK K; clear hK K; refine hK _ _ ?_; clear hK K)|(clear hK K; clear hK K; clear hK K; refine hK _ _ ?_; clear hK K)|((first | refine CS_ret ?_ | refine CS_skip ?_ | refine CS_exit ?_ | rw [if_pos rfl] | rw [if_neg (by decide)]); try dsimp only [thenR, blockR, loopR])|refine CS.blk ?_|refine CS.yes rfl ?_|refine CS.no rfl ?_|simp only [rdo, d, ew])
    exact ⟨i + 1, [0, 1, 2, 3, 6], [false, true, true, true, false, false, false, false, false, false, false, false, true, true], c, m1, by decide, rfl, rfl, by rw [e1, e3]; rfl⟩
  · have d := int_nlt c
    have ei : i = k := by omega
    subst ei
    refine CS.ghost (GS.frzO 3 2 rfl rfl rfl (GS.refl ?_))
    repeat (first | (refine TW.tw ?_; (first | (refine TW.nil ?_; (first | (refine hK0 _ _ ?_; clear hK0 K0) | (refine hK1 _ _ _ (by kernel_rfl) ?_; clear hK1 K1)); try dsimp only [mk_msgRead_41, thenR, blockR, loopR, mk_t, mk_f, mk_n]; try simp only [d, Int.toNat_natCast])|(refine TW.ca rfl ?_; first | refine TW.C0 (hF := hF _ _ _) (h := ?_)|(refine TW.kc 36 rfl ?_; first | refine TW.RC (ids := [_]) (hF := Mval_fs _ (by assumption)) (h := ?_))|(refine TW.kc 57 rfl ?_; first | refine TW.RC (ids := [_]) (hF := OGetS_fs _ (by assumption)) (h := ?_)|refine TW.C0 (hF := OGet0_fs _) (h := ?_)|refine TW.O1 (hF := OGet_fs _ (by first | assumption | exact tkL_byt (by assumption) _ _ | decide)) (h := ?_)))|refine TW.gn (h := ?_)|(simp only [d]; refine TW.nm (h := ?_)))) | refine CS.seq fun K hK => ?_|(refine CS.regl mk_msgRead_41 (fun K0 hK0 => ?_); try dsimp only [mp_s, mp_z])|(refine CS.drawl tab mk_msgRead_41 (fun K1 hK1 => ?_); try dsimp only [mp_s, mp_z])|(refine hK _ _ ?_; clear hK K)|(clear hK K; refine hK _ _ ?_; clear hK K)|(clear hK K; clear hK K; refine hK _ _ ?_; clear hK K)|(clear hK K; clear hK K; clear hK K; refine hK _ _ ?_; clear hK K)|((first | refine CS_ret ?_ | refine CS_skip ?_ | refine CS_exit ?_ | rw [if_pos rfl] | rw [if_neg (by decide)]); try dsimp only [thenR, blockR, loopR])|refine CS.blk ?_|refine CS.yes rfl ?_|refine CS.no rfl ?_|simp only [d])
    exact hR0 _ _ _ (by exact GS.refl ⟨(by first | exact .inr rfl | exact .inl rfl), _, [0], gresT_ok tab rfl, by decide, rfl, rfl, rfl, rfl⟩)
set_option maxHeartbeats 8000000 in
theorem MspanR_fs {s : List Int × Int} {n : Int} (h : sok s) : FS Try.prog 38 [rdr n] [rdo s] (.agg [.lit (.int .u32 (gt s 4)), .lit (.int .u32 (gt (nx s 4) 4))]) [rdo (nx (nx s 4) 4)] := by
  refine FS.enterG Try.func38 rfl fun R0 hR0 => ?_
  simp only [Try.ntmps38, List.length_cons, List.length_nil, List.replicate_succ, List.replicate_zero, List.cons_append, List.nil_append, Nat.reduceAdd, Nat.reduceSub]
  have k1 := h.nx 4
  simp only [rdr, rdo] at hR0 ⊢
  repeat (first | (refine TW.tw ?_; (first | (refine TW.nil ?_; (first | (refine hK0 _ _ ?_; clear hK0 K0) | (refine hK1 _ _ _ (by kernel_rfl) ?_; clear hK1 K1)); try dsimp only [mk_msgRead_38, thenR, blockR, loopR, mk_t, mk_f, mk_n]; try simp only [rdo, Int.toNat_natCast])|(refine TW.ca rfl ?_; first | refine TW.C0 (hF := hF _ _ _) (h := ?_)|(refine TW.kc 36 rfl ?_; first | refine TW.RC (ids := [_]) (hF := Mval_fs _ (by assumption)) (h := ?_)))|refine TW.gn (h := ?_)|(simp only [rdo]; refine TW.nm (h := ?_)))) | refine CS.seq fun K hK => ?_|(refine CS.regl mk_msgRead_38 (fun K0 hK0 => ?_); try dsimp only [mp_s, mp_z])|(refine CS.drawl tab mk_msgRead_38 (fun K1 hK1 => ?_); try dsimp only [mp_s, mp_z])|(refine hK _ _ ?_; clear hK K)|(clear hK K; refine hK _ _ ?_; clear hK K)|(clear hK K; clear hK K; refine hK _ _ ?_; clear hK K)|(clear hK K; clear hK K; clear hK K; refine hK _ _ ?_; clear hK K)|((first | refine CS_ret ?_ | refine CS_skip ?_ | refine CS_exit ?_ | rw [if_pos rfl] | rw [if_neg (by decide)]); try dsimp only [thenR, blockR, loopR])|refine CS.blk ?_|refine CS.yes rfl ?_|refine CS.no rfl ?_|simp only [rdo])
  exact hR0 _ _ _ (by exact GS.refl ⟨(by first | exact .inr rfl | exact .inl rfl), _, [0], gresT_ok tab rfl, by decide, rfl, rfl, rfl, rfl⟩)
/-- Ranges, as long as nothing is wrong. -/
def bxN (s : List Int × Int) : List Int × Int := nx (nx (nx s 1) 4) 4
def bxV (s : List Int × Int) : Int × Int × Int := (gt s 1, gt (nx s 1) 4, gt (nx (nx s 1) 4) 4)
def bxr : Nat → List Int × Int → List (Int × Int × Int) × (List Int × Int)
  | 0, s => ([], s)
  | k + 1, s => if s.2 = 0 then (bxV s :: (bxr k (bxN s)).1, (bxr k (bxN s)).2) else ([], s)
theorem bxr_ok : ∀ (k : Nat) {s : List Int × Int}, sok s → sok (bxr k s).2
  | 0, s, h => h
  | k + 1, s, h => by
    rw [bxr]; split
    · exact bxr_ok k (((h.nx 1).nx 4).nx 4)
    · exact h
theorem bxr_len : ∀ (k : Nat) (s : List Int × Int), (bxr k s).1.length ≤ k
  | 0, s => Nat.le_refl _
  | k + 1, s => by
    rw [bxr]; split
    · have := bxr_len k (bxN s); simp only [List.length_cons]; omega
    · simp
set_option maxRecDepth 8000 in
set_option maxHeartbeats 16000000 in
theorem MboxR_fs {s : List Int × Int} {n : Int} (h : sok s) : FS Try.prog 39 [rdr n] [rdo s] (.sl false 3 ((bxr (gt s 1).toNat (nx s 1)).1.map rgc) []) [rdo (bxr (gt s 1).toNat (nx s 1)).2] := by
  refine FS.enterG Try.func39 rfl fun R0 hR0 => ?_
  simp only [Try.ntmps39, List.length_cons, List.length_nil, List.replicate_succ, List.replicate_zero, List.cons_append, List.nil_append, Nat.reduceAdd, Nat.reduceSub]
  have k1 := h.nx 1
  have hr := gt1 h
  obtain ⟨N, hN⟩ : ∃ N : Nat, gt s 1 = (N : Int) := ⟨(gt s 1).toNat, by omega⟩
  obtain ⟨A, hA⟩ : ∃ A, bxr N (nx s 1) = A := ⟨_, rfl⟩
  simp only [rdr, rdo, hN, Int.toNat_natCast, hA] at hR0 ⊢
  repeat (first | (refine TW.tw ?_; (first | (refine TW.nil ?_; (first | (refine hK0 _ _ ?_; clear hK0 K0) | (refine hK1 _ _ _ (by kernel_rfl) ?_; clear hK1 K1)); try dsimp only [mk_msgRead_39, thenR, blockR, loopR, mk_t, mk_f, mk_n]; try simp only [rdo, nby1, hN, Int.toNat_natCast])|(refine TW.ca rfl ?_; first | refine TW.C0 (hF := hF _ _ _) (h := ?_)|(refine TW.kc 36 rfl ?_; first | refine TW.RC (ids := [_]) (hF := Mval_fs _ (by assumption)) (h := ?_))|(refine TW.kc 35 rfl ?_; first | refine TW.RC (ids := [_]) (hF := Mnum_fs _ _ (by assumption) (by decide)) (h := ?_))|(refine TW.kc 40 rfl ?_; first | refine TW.C0 (hF := OErrN_fs ) (h := ?_)|refine TW.O1 (hF := OErr_fs ) (h := ?_)))|refine TW.gn (h := ?_)|(simp only [rdo, nby1, hN]; refine TW.nm (h := ?_)))) | refine CS.seq fun K hK => ?_|(refine CS.regl mk_msgRead_39 (fun K0 hK0 => ?_); try dsimp only [mp_s, mp_z])|(refine CS.drawl tab mk_msgRead_39 (fun K1 hK1 => ?_); try dsimp only [mp_s, mp_z])|(refine hK _ _ ?_; clear hK K)|(clear hK K; refine hK _ _ ?_; clear hK K)|(clear hK K; clear hK K; refine hK _ _ ?_; clear hK K)|(clear hK K; clear hK K; clear hK K; refine hK _ _ ?_; clear hK K)|((first | refine CS_ret ?_ | refine CS_skip ?_ | refine CS_exit ?_ | rw [if_pos rfl] | rw [if_neg (by decide)]); try dsimp only [thenR, blockR, loopR])|refine CS.blk ?_|refine CS.yes rfl ?_|refine CS.no rfl ?_|simp only [rdo, nby1, hN])
  generalize nx s 1 = t at *
  refine CS.ghost (GS.adopt 52 3 3 rfl (GS.refl ?_))
  refine CS.lp (fun x : Nat × List (Int × Int × Int) × (List Int × Int) => sok x.2.2 ∧ x.1 ≤ N ∧ x.2.1.length + x.1 ≤ N ∧ x.2.1 ++ (bxr x.1 x.2.2).1 = A.1 ∧ (bxr x.1 x.2.2).2 = A.2)
    (fun x => ([.any, .adr 1 0 0, .any, .row 2, .lit (.int .i64 x.1)] ++ List.replicate 27 .any))
    (fun x => [rdo x.2.2, .cells [.adr 0 0 0, .lit (.int .i64 n)], .row 52 3 (x.2.1.map rgc)]) (fun x => x.1) (N, [], t) [0, 1, 2] [false, true, false, true, true] (by decide) rfl ⟨k1, Nat.le_refl _, by simp, by rw [hA]; rfl, by rw [hA]⟩ rfl rfl ?_
  rintro ⟨k, out, u⟩ ⟨i1, i2, i3, i4, i5⟩
  simp only at i1 i2 i3 i4 i5
  simp only [rdo, List.replicate_succ, List.replicate_zero, List.cons_append, List.nil_append]
  cases k with
  | zero =>
    have d : decide (((0 : Nat) : Int) > 0) = false := by decide
    rw [bxr, List.append_nil] at i4
    rw [bxr] at i5
    rw [← i4, ← i5] at hR0
    repeat (first | (refine TW.tw ?_; (first | (refine TW.nil ?_; (first | (refine hK0 _ _ ?_; clear hK0 K0) | (refine hK1 _ _ _ (by kernel_rfl) ?_; clear hK1 K1)); try dsimp only [mk_msgRead_39, thenR, blockR, loopR, mk_t, mk_f, mk_n]; try simp only [d, Int.toNat_natCast])|(refine TW.ca rfl ?_; first | refine TW.C0 (hF := hF _ _ _) (h := ?_)|(refine TW.kc 36 rfl ?_; first | refine TW.RC (ids := [_]) (hF := Mval_fs _ (by assumption)) (h := ?_))|(refine TW.kc 35 rfl ?_; first | refine TW.RC (ids := [_]) (hF := Mnum_fs _ _ (by assumption) (by decide)) (h := ?_))|(refine TW.kc 40 rfl ?_; first | refine TW.C0 (hF := OErrN_fs ) (h := ?_)|refine TW.O1 (hF := OErr_fs ) (h := ?_)))|refine TW.gn (h := ?_)|(simp only [d]; refine TW.nm (h := ?_)))) | refine CS.seq fun K hK => ?_|(refine CS.regl mk_msgRead_39 (fun K0 hK0 => ?_); try dsimp only [mp_s, mp_z])|(refine CS.drawl tab mk_msgRead_39 (fun K1 hK1 => ?_); try dsimp only [mp_s, mp_z])|(refine hK _ _ ?_; clear hK K)|(clear hK K; refine hK _ _ ?_; clear hK K)|(clear hK K; clear hK K; refine hK _ _ ?_; clear hK K)|(clear hK K; clear hK K; clear hK K; refine hK _ _ ?_; clear hK K)|((first | refine CS_ret ?_ | refine CS_skip ?_ | refine CS_exit ?_ | rw [if_pos rfl] | rw [if_neg (by decide)]); try dsimp only [thenR, blockR, loopR])|refine CS.blk ?_|refine CS.yes rfl ?_|refine CS.no rfl ?_|simp only [d])
    exact hR0 _ _ _ (GS.frz 2 rfl rfl (by exact GS.refl ⟨(by first | exact .inr rfl | exact .inl rfl), _, [0], gresT_ok tab rfl, by decide, rfl, rfl, rfl, rfl⟩))
  | succ j =>
    have d : decide (((j + 1 : Nat) : Int) > 0) = true := decide_eq_true (by omega)
    by_cases c : u.2 = 0
    · have de : (u.2 == 0) = true := by simpa using c
      have ew : IntKind.i64.wrap (((j + 1 : Nat) : Int) - 1) = (j : Int) := by rw [wrap_i64 _ (by omega) (by omega)]; omega
      rw [bxr, if_pos c] at i4 i5
      simp only at i4 i5
      have q1 := i1.nx 1
      have q2 := q1.nx 4
      have hb : (out.map rgc).length + 1 ≤ 137438953472 := by rw [List.length_map]; omega
      have e3 : (out ++ [bxV u]).map rgc = out.map rgc ++ [rgc (bxV u)] := by rw [List.map_append]; rfl
      repeat (first | (refine TW.tw ?_; (first | (refine TW.nil ?_; (first | (refine hK0 _ _ ?_; clear hK0 K0) | (refine hK1 _ _ _ (by kernel_rfl) ?_; clear hK1 K1)); try dsimp only [mk_msgRead_39, thenR, blockR, loopR, mk_t, mk_f, mk_n]; try simp only [rdo, nby1, d, de, ew, Int.toNat_natCast])|(refine TW.ca rfl ?_; first | refine TW.C0 (hF := hF _ _ _) (h := ?_)|(refine TW.kc 36 rfl ?_; first | refine TW.RC (ids := [_]) (hF := Mval_fs _ (by assumption)) (h := ?_))|(refine TW.kc 35 rfl ?_; first | refine TW.RC (ids := [_]) (hF := Mnum_fs _ _ (by assumption) (by decide)) (h := ?_))|(refine TW.kc 40 rfl ?_; first | refine TW.C0 (hF := OErrN_fs ) (h := ?_)|refine TW.O1 (hF := OErr_fs ) (h := ?_)))|refine TW.gn (h := ?_)|(simp only [rdo, nby1, d, de, ew]; refine TW.nm (h := ?_)))) | refine CS.seq fun K hK => ?_|(refine CS.regl mk_msgRead_39 (fun K0 hK0 => ?_); try dsimp only [mp_s, mp_z])|(refine CS.drawl tab mk_msgRead_39 (fun K1 hK1 => ?_); try dsimp only [mp_s, mp_z])|(refine hK _ _ ?_; clear hK K)|(clear hK K; refine hK _ _ ?_; clear hK K)|(clear hK K; clear hK K; refine hK _ _ ?_; clear hK K)|(clear hK K; clear hK K; clear hK K; refine hK _ _ ?_; clear hK K)|((first | refine CS_ret ?_ | refine CS_skip ?_ | refine CS_exit ?_ | rw [if_pos rfl] | rw [if_neg (by decide)]); try dsimp only [thenR, blockR, loopR])|refine CS.blk ?_|refine CS.yes rfl ?_|refine CS.no rfl ?_|simp only [rdo, nby1, d, de, ew])
      exact ⟨(j, out ++ [bxV u], bxN u), [0, 1, 5], [false, true, false, true, true], ⟨((i1.nx 1).nx 4).nx 4, by omega, by simp only [List.length_append, List.length_cons, List.length_nil]; omega, by rw [List.append_assoc]; exact i4, i5⟩, Nat.lt_succ_self j, by decide, rfl, rfl, by show _ = [rdo _, _, GO.row _ 3 ((out ++ [bxV u]).map rgc)]; rw [e3]; rfl⟩
    · have de : (u.2 == 0) = false := by simpa using c
      rw [bxr, if_neg c, List.append_nil] at i4
      rw [bxr, if_neg c] at i5
      rw [← i4, ← i5] at hR0
      repeat (first | (refine TW.tw ?_; (first | (refine TW.nil ?_; (first | (refine hK0 _ _ ?_; clear hK0 K0) | (refine hK1 _ _ _ (by kernel_rfl) ?_; clear hK1 K1)); try dsimp only [mk_msgRead_39, thenR, blockR, loopR, mk_t, mk_f, mk_n]; try simp only [rdo, d, de, Int.toNat_natCast])|(refine TW.ca rfl ?_; first | refine TW.C0 (hF := hF _ _ _) (h := ?_)|(refine TW.kc 36 rfl ?_; first | refine TW.RC (ids := [_]) (hF := Mval_fs _ (by assumption)) (h := ?_))|(refine TW.kc 35 rfl ?_; first | refine TW.RC (ids := [_]) (hF := Mnum_fs _ _ (by assumption) (by decide)) (h := ?_))|(refine TW.kc 40 rfl ?_; first | refine TW.C0 (hF := OErrN_fs ) (h := ?_)|refine TW.O1 (hF := OErr_fs ) (h := ?_)))|refine TW.gn (h := ?_)|(simp only [rdo, d, de]; refine TW.nm (h := ?_)))) | refine CS.seq fun K hK => ?_|(refine CS.regl mk_msgRead_39 (fun K0 hK0 => ?_); try dsimp only [mp_s, mp_z])|(refine CS.drawl tab mk_msgRead_39 (fun K1 hK1 => ?_); try dsimp only [mp_s, mp_z])|(refine hK _ _ ?_; clear hK K)|(clear hK K; refine hK _ _ ?_; clear hK K)|(clear hK K; clear hK K; refine hK _ _ ?_; clear hK K)|(clear hK K; clear hK K; clear hK K; refine hK _ _ ?_; clear hK K)|((first | refine CS_ret ?_ | refine CS_skip ?_ | refine CS_exit ?_ | rw [if_pos rfl] | rw [if_neg (by decide)]); try dsimp only [thenR, blockR, loopR])|refine CS.blk ?_|refine CS.yes rfl ?_|refine CS.no rfl ?_|simp only [rdo, d, de])
      exact hR0 _ _ _ (GS.frz 2 rfl rfl (by exact GS.refl ⟨(by first | exact .inr rfl | exact .inl rfl), _, [0], gresT_ok tab rfl, by decide, rfl, rfl, rfl, rfl⟩))
/-- What a message has of an entry. -/
def eVal (n hub : Int) (r : RecV) : Int := if hub < n then r.vs.getD hub.toNat 0 else 0
def eS (b : Bool) (s : List Int × Int) : List Int × Int := if b then nx (nx s 4) 4 else s
def eO (b : Bool) (s : List Int × Int) : Int := if b then gt s 4 else 0
def eT (b : Bool) (s : List Int × Int) : Int := if b then gt (nx s 4) 4 else 0
theorem eS_ok {s : List Int × Int} (h : sok s) (b : Bool) : sok (eS b s) := by unfold eS; split; exact (h.nx 4).nx 4; exact h
def mc0 (k h p c o : Int) : List GV := [.lit (.int .i64 k), .lit (.int .i64 h), .lit (.int .u32 p), .lit (.int .i64 c), .lit (.int .i64 o), .lit (.int .u32 0), .lit (.int .i64 0), .lit (.int .u32 0), .lit (.int .i64 0),
  .lit (.int .u32 0), .lit (.int .u64 0), .lit (.int .u64 0), .lit (.slice none 0 0), .lit (.bool false), .lit (.int .u32 0), .lit (.int .u32 0), .sl false 3 [] [], .sl false 3 [] []]
def mcE (n k h p c o : Int) (s : List Int × Int) : List GV := [.lit (.int .i64 k), .lit (.int .i64 h), .lit (.int .u32 p), .lit (.int .i64 c), .lit (.int .i64 o), .lit (.int .u32 (eVal n h (rrec n.toNat (nx s 1)))), .lit (.int .i64 0), .lit (.int .u32 (eO (betk k) (rrecS n.toNat (nx s 1)))), .lit (.int .i64 (eT (betk k) (rrecS n.toNat (nx s 1)))),
  .lit (.int .u32 (eVal n h (rrec n.toNat (nx s 1)))), .lit (.int .u64 (rrec n.toNat (nx s 1)).id), .lit (.int .u64 (rrec n.toNat (nx s 1)).ver), .sl false 1 ((rrec n.toNat (nx s 1)).vs.map uuG) (rrec n.toNat (nx s 1)).ex, .lit (.bool (gt s 1 == 1)), .lit (.int .u32 0), .lit (.int .u32 0), .sl false 3 [] [], .sl false 3 [] []]
set_option maxRecDepth 8000 in
set_option maxHeartbeats 16000000 in
theorem MentR_fs {s : List Int × Int} {n k h p c o : Int} (hs : sok s) (h0 : 1 ≤ n) (h1 : n ≤ 8) (hh : 0 ≤ h) : FS Try.prog 37 [rdr n, .adr 1 0 0] [rdo s, .cells (mc0 k h p c o)] (.tup []) [rdo (eS (betk k) (rrecS n.toNat (nx s 1))), .cells (mcE n k h p c o s)] := by
  refine FS.enterG Try.func37 rfl fun R0 hR0 => ?_
  simp only [Try.ntmps37, List.length_cons, List.length_nil, List.replicate_succ, List.replicate_zero, List.cons_append, List.nil_append, Nat.reduceAdd, Nat.reduceSub]
  have k1 := hs.nx 1
  have k2 := rrecS_ok k1 n.toNat
  have k3 := k2.nx 4
  have h0' : 0 ≤ n := by omega
  have hvl : (rrec n.toNat (nx s 1)).vs.length = n.toNat := vls_len _ _
  simp only [rdr, rdo, mc0, mcE] at hR0 ⊢
  obtain ⟨r, hr⟩ : ∃ r, rrec n.toNat (nx s 1) = r := ⟨_, rfl⟩
  obtain ⟨t, ht⟩ : ∃ t, rrecS n.toNat (nx s 1) = t := ⟨_, rfl⟩
  have hM := MrecR_fs k1 h0' h1
  rw [hr, ht] at hR0 hM
  rw [hr] at hvl
  rw [ht] at k2 k3
  cases hb : betk k
  · simp only [hb, eS, eO, eT, Bool.false_eq_true, if_false] at hR0
    by_cases c1 : h < n
    · have d1 : decide (h < n) = true := decide_eq_true c1
      have hI1 : h < ((r.vs.map uuG).length : Int) := by rw [List.length_map, hvl]; omega
      have hg : (r.vs.map uuG)[h.toNat]? = some [.lit (.int .u32 (r.vs.getD h.toNat 0))] := by
        have hlt : h.toNat < r.vs.length := by omega
        rw [List.getElem?_map, List.getElem?_eq_getElem hlt, List.getD_eq_getElem?_getD, List.getElem?_eq_getElem hlt]; rfl
      rw [show eVal n h r = r.vs.getD h.toNat 0 from if_pos c1] at hR0
      repeat (first | (refine TW.tw ?_; (first | (refine TW.nil ?_; (first | (refine hK0 _ _ ?_; clear hK0 K0) | (refine hK1 _ _ _ (by kernel_rfl) ?_; clear hK1 K1)); try dsimp only [mk_msgRead_37, thenR, blockR, loopR, mk_t, mk_f, mk_n]; try simp only [rdo, rcG, nby1, d1, hb, Int.toNat_natCast])|(refine TW.ca rfl ?_; first | refine TW.RC (ids := [_]) (hF := hM ) (h := ?_)|refine TW.C0 (hF := hF _ _ _) (h := ?_)|(refine TW.kc 41 rfl ?_; first | refine TW.RC (ids := [_]) (hF := MrecR_fs (by assumption) (by assumption) (by assumption)) (h := ?_))|(refine TW.kc 36 rfl ?_; first | refine TW.RC (ids := [_]) (hF := Mval_fs _ (by assumption)) (h := ?_))|(refine TW.kc 35 rfl ?_; first | refine TW.RC (ids := [_]) (hF := Mnum_fs _ _ (by assumption) (by decide)) (h := ?_))|(refine TW.kc 57 rfl ?_; first | refine TW.RC (ids := [_]) (hF := OGetS_fs _ (by assumption)) (h := ?_)|refine TW.C0 (hF := OGet0_fs _) (h := ?_)|refine TW.O1 (hF := OGet_fs _ (by first | assumption | exact tkL_byt (by assumption) _ _ | decide)) (h := ?_))|(refine TW.kc 45 rfl ?_; first | refine TW.C0 (hF := Mbet_fs _) (h := ?_)))|refine TW.gn (h := ?_)|(simp only [rdo, rcG, nby1, d1, hb]; refine TW.nm (h := ?_)))) | refine CS.seq fun K hK => ?_|(refine CS.regl mk_msgRead_37 (fun K0 hK0 => ?_); try dsimp only [mp_s, mp_z])|(refine CS.drawl tab mk_msgRead_37 (fun K1 hK1 => ?_); try dsimp only [mp_s, mp_z])|(refine hK _ _ ?_; clear hK K)|(clear hK K; refine hK _ _ ?_; clear hK K)|(clear hK K; clear hK K; refine hK _ _ ?_; clear hK K)|(clear hK K; clear hK K; clear hK K; refine hK _ _ ?_; clear hK K)|((first | refine CS_ret ?_ | refine CS_skip ?_ | refine CS_exit ?_ | rw [if_pos rfl] | rw [if_neg (by decide)]); try dsimp only [thenR, blockR, loopR])|refine CS.blk ?_|refine CS.yes rfl ?_|refine CS.no rfl ?_|simp only [rdo, rcG, nby1, d1, hb])
      exact hR0 _ _ _ (by exact GS.refl ⟨(by first | exact .inr rfl | exact .inl rfl), _, [0, 1], gresT_ok tab rfl, by decide, rfl, rfl, rfl, rfl⟩)
    · have d1 : decide (h < n) = false := decide_eq_false c1
      rw [show eVal n h r = 0 from if_neg c1] at hR0
      repeat (first | (refine TW.tw ?_; (first | (refine TW.nil ?_; (first | (refine hK0 _ _ ?_; clear hK0 K0) | (refine hK1 _ _ _ (by kernel_rfl) ?_; clear hK1 K1)); try dsimp only [mk_msgRead_37, thenR, blockR, loopR, mk_t, mk_f, mk_n]; try simp only [rdo, rcG, nby1, d1, hb, Int.toNat_natCast])|(refine TW.ca rfl ?_; first | refine TW.RC (ids := [_]) (hF := hM ) (h := ?_)|refine TW.C0 (hF := hF _ _ _) (h := ?_)|(refine TW.kc 41 rfl ?_; first | refine TW.RC (ids := [_]) (hF := MrecR_fs (by assumption) (by assumption) (by assumption)) (h := ?_))|(refine TW.kc 36 rfl ?_; first | refine TW.RC (ids := [_]) (hF := Mval_fs _ (by assumption)) (h := ?_))|(refine TW.kc 35 rfl ?_; first | refine TW.RC (ids := [_]) (hF := Mnum_fs _ _ (by assumption) (by decide)) (h := ?_))|(refine TW.kc 57 rfl ?_; first | refine TW.RC (ids := [_]) (hF := OGetS_fs _ (by assumption)) (h := ?_)|refine TW.C0 (hF := OGet0_fs _) (h := ?_)|refine TW.O1 (hF := OGet_fs _ (by first | assumption | exact tkL_byt (by assumption) _ _ | decide)) (h := ?_))|(refine TW.kc 45 rfl ?_; first | refine TW.C0 (hF := Mbet_fs _) (h := ?_)))|refine TW.gn (h := ?_)|(simp only [rdo, rcG, nby1, d1, hb]; refine TW.nm (h := ?_)))) | refine CS.seq fun K hK => ?_|(refine CS.regl mk_msgRead_37 (fun K0 hK0 => ?_); try dsimp only [mp_s, mp_z])|(refine CS.drawl tab mk_msgRead_37 (fun K1 hK1 => ?_); try dsimp only [mp_s, mp_z])|(refine hK _ _ ?_; clear hK K)|(clear hK K; refine hK _ _ ?_; clear hK K)|(clear hK K; clear hK K; refine hK _ _ ?_; clear hK K)|(clear hK K; clear hK K; clear hK K; refine hK _ _ ?_; clear hK K)|((first | refine CS_ret ?_ | refine CS_skip ?_ | refine CS_exit ?_ | rw [if_pos rfl] | rw [if_neg (by decide)]); try dsimp only [thenR, blockR, loopR])|refine CS.blk ?_|refine CS.yes rfl ?_|refine CS.no rfl ?_|simp only [rdo, rcG, nby1, d1, hb])
      exact hR0 _ _ _ (by exact GS.refl ⟨(by first | exact .inr rfl | exact .inl rfl), _, [0, 1], gresT_ok tab rfl, by decide, rfl, rfl, rfl, rfl⟩)
  · simp only [hb, eS, eO, eT, if_true] at hR0
    by_cases c1 : h < n
    · have d1 : decide (h < n) = true := decide_eq_true c1
      have hI1 : h < ((r.vs.map uuG).length : Int) := by rw [List.length_map, hvl]; omega
      have hg : (r.vs.map uuG)[h.toNat]? = some [.lit (.int .u32 (r.vs.getD h.toNat 0))] := by
        have hlt : h.toNat < r.vs.length := by omega
        rw [List.getElem?_map, List.getElem?_eq_getElem hlt, List.getD_eq_getElem?_getD, List.getElem?_eq_getElem hlt]; rfl
      rw [show eVal n h r = r.vs.getD h.toNat 0 from if_pos c1] at hR0
      repeat (first | (refine TW.tw ?_; (first | (refine TW.nil ?_; (first | (refine hK0 _ _ ?_; clear hK0 K0) | (refine hK1 _ _ _ (by kernel_rfl) ?_; clear hK1 K1)); try dsimp only [mk_msgRead_37, thenR, blockR, loopR, mk_t, mk_f, mk_n]; try simp only [rdo, rcG, nby1, nby4, d1, hb, Int.toNat_natCast])|(refine TW.ca rfl ?_; first | refine TW.RC (ids := [_]) (hF := hM ) (h := ?_)|refine TW.C0 (hF := hF _ _ _) (h := ?_)|(refine TW.kc 41 rfl ?_; first | refine TW.RC (ids := [_]) (hF := MrecR_fs (by assumption) (by assumption) (by assumption)) (h := ?_))|(refine TW.kc 36 rfl ?_; first | refine TW.RC (ids := [_]) (hF := Mval_fs _ (by assumption)) (h := ?_))|(refine TW.kc 35 rfl ?_; first | refine TW.RC (ids := [_]) (hF := Mnum_fs _ _ (by assumption) (by decide)) (h := ?_))|(refine TW.kc 57 rfl ?_; first | refine TW.RC (ids := [_]) (hF := OGetS_fs _ (by assumption)) (h := ?_)|refine TW.C0 (hF := OGet0_fs _) (h := ?_)|refine TW.O1 (hF := OGet_fs _ (by first | assumption | exact tkL_byt (by assumption) _ _ | decide)) (h := ?_))|(refine TW.kc 45 rfl ?_; first | refine TW.C0 (hF := Mbet_fs _) (h := ?_)))|refine TW.gn (h := ?_)|(simp only [rdo, rcG, nby1, nby4, d1, hb]; refine TW.nm (h := ?_)))) | refine CS.seq fun K hK => ?_|(refine CS.regl mk_msgRead_37 (fun K0 hK0 => ?_); try dsimp only [mp_s, mp_z])|(refine CS.drawl tab mk_msgRead_37 (fun K1 hK1 => ?_); try dsimp only [mp_s, mp_z])|(refine hK _ _ ?_; clear hK K)|(clear hK K; refine hK _ _ ?_; clear hK K)|(clear hK K; clear hK K; refine hK _ _ ?_; clear hK K)|(clear hK K; clear hK K; clear hK K; refine hK _ _ ?_; clear hK K)|((first | refine CS_ret ?_ | refine CS_skip ?_ | refine CS_exit ?_ | rw [if_pos rfl] | rw [if_neg (by decide)]); try dsimp only [thenR, blockR, loopR])|refine CS.blk ?_|refine CS.yes rfl ?_|refine CS.no rfl ?_|simp only [rdo, rcG, nby1, nby4, d1, hb])
      exact hR0 _ _ _ (by exact GS.refl ⟨(by first | exact .inr rfl | exact .inl rfl), _, [0, 1], gresT_ok tab rfl, by decide, rfl, rfl, rfl, rfl⟩)
    · have d1 : decide (h < n) = false := decide_eq_false c1
      rw [show eVal n h r = 0 from if_neg c1] at hR0
      repeat (first | (refine TW.tw ?_; (first | (refine TW.nil ?_; (first | (refine hK0 _ _ ?_; clear hK0 K0) | (refine hK1 _ _ _ (by kernel_rfl) ?_; clear hK1 K1)); try dsimp only [mk_msgRead_37, thenR, blockR, loopR, mk_t, mk_f, mk_n]; try simp only [rdo, rcG, nby1, nby4, d1, hb, Int.toNat_natCast])|(refine TW.ca rfl ?_; first | refine TW.RC (ids := [_]) (hF := hM ) (h := ?_)|refine TW.C0 (hF := hF _ _ _) (h := ?_)|(refine TW.kc 41 rfl ?_; first | refine TW.RC (ids := [_]) (hF := MrecR_fs (by assumption) (by assumption) (by assumption)) (h := ?_))|(refine TW.kc 36 rfl ?_; first | refine TW.RC (ids := [_]) (hF := Mval_fs _ (by assumption)) (h := ?_))|(refine TW.kc 35 rfl ?_; first | refine TW.RC (ids := [_]) (hF := Mnum_fs _ _ (by assumption) (by decide)) (h := ?_))|(refine TW.kc 57 rfl ?_; first | refine TW.RC (ids := [_]) (hF := OGetS_fs _ (by assumption)) (h := ?_)|refine TW.C0 (hF := OGet0_fs _) (h := ?_)|refine TW.O1 (hF := OGet_fs _ (by first | assumption | exact tkL_byt (by assumption) _ _ | decide)) (h := ?_))|(refine TW.kc 45 rfl ?_; first | refine TW.C0 (hF := Mbet_fs _) (h := ?_)))|refine TW.gn (h := ?_)|(simp only [rdo, rcG, nby1, nby4, d1, hb]; refine TW.nm (h := ?_)))) | refine CS.seq fun K hK => ?_|(refine CS.regl mk_msgRead_37 (fun K0 hK0 => ?_); try dsimp only [mp_s, mp_z])|(refine CS.drawl tab mk_msgRead_37 (fun K1 hK1 => ?_); try dsimp only [mp_s, mp_z])|(refine hK _ _ ?_; clear hK K)|(clear hK K; refine hK _ _ ?_; clear hK K)|(clear hK K; clear hK K; refine hK _ _ ?_; clear hK K)|(clear hK K; clear hK K; clear hK K; refine hK _ _ ?_; clear hK K)|((first | refine CS_ret ?_ | refine CS_skip ?_ | refine CS_exit ?_ | rw [if_pos rfl] | rw [if_neg (by decide)]); try dsimp only [thenR, blockR, loopR])|refine CS.blk ?_|refine CS.yes rfl ?_|refine CS.no rfl ?_|simp only [rdo, rcG, nby1, nby4, d1, hb])
      exact hR0 _ _ _ (by exact GS.refl ⟨(by first | exact .inr rfl | exact .inl rfl), _, [0, 1], gresT_ok tab rfl, by decide, rfl, rfl, rfl, rfl⟩)
end Go.Gh

