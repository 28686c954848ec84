import Derived.Test.YtbkahcionjkgjaaOctetPlain
import Derived.Laws.Strings

namespace Go.Gh
def mk_octet2_17 : List Bool := [true, true, false, false, true, false, false, false, false, false]
def mk_octet2_25 : List Bool := [true, false, true, false, true, false, false, false, false, false]
def mk_octet2_70 : List Bool := [true, true, false, false, true, true, true, false, false, false, false, false, false, false, false, true, false, false, false, false, false, false, true, false, false, false, false, false, false, false, false, false, false, false, false, false, false, false, false, false, false, false, false, false, false, false]
def mk_octet2_57 : List Bool := [true, true, false, false, true, true, false, true, false, true, false, false, false, false, false, false, false, true, true, true, true, false, false, false, false, false, false, false, false, false]
open Go.Proofs
set_option linter.unusedVariables false
set_option linter.unusedSimpArgs false

/-! Layer 3: writers, readers, and the document's ones. -/

theorem strOf_data (l : List Int) : (strOf l).toList = l.map fun n => UInt8.ofNat n.toNat := by
  rw [ByteArray.toList_eq]
  have : ∀ (l : List Int) (b : ByteArray), (l.foldl (fun r n => r.push (UInt8.ofNat n.toNat)) b).data.toList = b.data.toList ++ l.map fun n => UInt8.ofNat n.toNat := by
    intro l
    induction l with
    | nil => intro b; simp
    | cons n l ih => intro b; rw [List.foldl_cons, ih]; simp [ByteArray.push]
  rw [strOf, this]; rfl
theorem u8_inj {a b : Int} (ha : 0 ≤ a ∧ a < 256) (hb : 0 ≤ b ∧ b < 256) (h : UInt8.ofNat a.toNat = UInt8.ofNat b.toNat) : a = b := by
  have := congrArg UInt8.toNat h
  simp only [UInt8.toNat_ofNat'] at this
  omega
theorem u8s_inj : ∀ {x y : List Int}, byt x → byt y → x.map (fun n => UInt8.ofNat n.toNat) = y.map (fun n => UInt8.ofNat n.toNat) → x = y
  | [], [], _, _, _ => rfl
  | [], _ :: _, _, _, h => by simp at h
  | _ :: _, [], _, _, h => by simp at h
  | a :: x, b :: y, hx, hy, h => by
    rw [List.map_cons, List.map_cons, List.cons.injEq] at h
    rw [u8_inj (hx a (List.mem_cons_self ..)) (hy b (List.mem_cons_self ..)) h.1, u8s_inj (fun c hc => hx c (List.mem_cons_of_mem _ hc)) (fun c hc => hy c (List.mem_cons_of_mem _ hc)) h.2]
theorem strOf_eq {x y : List Int} (hx : byt x) (hy : byt y) : ((strOf x).toList == (strOf y).toList) = decide (x = y) := by
  rw [strOf_data, strOf_data, Bool.eq_iff_iff, beq_iff_eq, decide_eq_true_iff]
  exact ⟨u8s_inj hx hy, fun h => by rw [h]⟩


set_option maxHeartbeats 4000000 in
theorem HBytes_fs {b1 b2 : Bool} {x y : List Int} {e1 e2 : List (List GV)} (hx : byt x) (hy : byt y) : FS Try.prog 17 [.sl b1 1 (x.map bG) e1, .sl b2 1 (y.map bG) e2] [] (.lit (.bool (decide (x = y)))) [] := by
  refine FS.enterG Try.func17 rfl fun R0 hR0 => ?_
  simp only [Try.ntmps17, List.length_cons, List.length_nil, List.replicate_succ, List.replicate_zero, List.cons_append, List.nil_append, Nat.reduceAdd, Nat.reduceSub]
  rw [← strOf_eq hx hy] at hR0
  repeat (first | (refine TW.tw ?_; (first | (refine TW.nil ?_; (first | (refine hK0 _ _ ?_; clear hK0 K0) | (refine hK1 _ _ _ (by kernel_rfl) ?_; clear hK1 K1)); try dsimp only [mk_octet2_17, thenR, blockR, loopR, mk_t, mk_f, mk_n])|refine TW.gn (h := ?_))) | refine CS.seq fun K hK => ?_|(refine CS.regl mk_octet2_17 (fun K0 hK0 => ?_); try dsimp only [mp_s, mp_z])|(refine CS.drawl tab mk_octet2_17 (fun K1 hK1 => ?_); try dsimp only [mp_s, mp_z])|(refine hK _ _ ?_; clear hK K)|(clear hK K; refine hK _ _ ?_; clear hK K)|(clear hK K; clear hK K; refine hK _ _ ?_; clear hK K)|(clear hK K; clear hK K; clear hK K; refine hK _ _ ?_; clear hK K)|((first | refine CS_ret ?_ | refine CS_skip ?_ | refine CS_exit ?_ | rw [if_pos rfl] | rw [if_neg (by decide)]); try dsimp only [thenR, blockR, loopR])|refine CS.blk ?_|refine CS.yes rfl ?_|refine CS.no rfl ?_)
  exact hR0 _ _ _ (by exact GS.refl ⟨(by first | exact .inr rfl | exact .inl rfl), _, [], gresT_ok tab rfl, by decide, rfl, rfl, rfl, rfl⟩)

/-! The writer. -/

theorem OPutN_fs (v n : Int) (hv : 0 ≤ v) : FS Try.prog 20 [.adr 0 0 0, .lit (.int .u64 v), .lit (.int .i64 n)] [.cells [.lit (.slice none 0 0)]] (.tup []) [.cells [.row 2], .dead, .row 5 1 ((be v (nby n)).map bG)] :=
  FS.ghost (GS.adoptO 5 1 0 0 rfl rfl (GS.refl ⟨by have := OPut_fs (l := []) v n hv (Nat.zero_le _); exact this, rfl⟩))

def tlen (t : List Int) : Nat := min t.length 65535
def textv (t : List Int) : List Int := be (tlen t) 2 ++ t.take (tlen t)
theorem tlen_int (t : List Int) : (if 65535 < (t.length : Int) then 65535 else (t.length : Int)) = (tlen t : Int) := by unfold tlen; split <;> omega
theorem tlen_int' (t : List Int) : (if (t.length : Int) > 65535 then 65535 else (t.length : Int)) = (tlen t : Int) := by unfold tlen; split <;> omega



set_option maxHeartbeats 4000000 in
theorem OBytes_fs {l : List Int} (hl : l.length ≤ 1000000000) : FS Try.prog 25 [.adr 0 0 0] [.cells [.row 1], .row 5 1 (l.map bG)] (.sl false 1 (l.map bG) []) [.cells [.row 1], .row 5 1 (l.map bG)] := by
  refine FS.enterG Try.func25 rfl fun R0 hR0 => ?_
  simp only [Try.ntmps25, List.length_cons, List.length_nil, List.replicate_succ, List.replicate_zero, List.cons_append, List.nil_append, Nat.reduceAdd, Nat.reduceSub]
  have hb : (l.map bG).length ≤ 137438953472 := by rw [List.length_map]; omega
  repeat (first | (refine TW.tw ?_; (first | (refine TW.nil ?_; (first | (refine hK0 _ _ ?_; clear hK0 K0) | (refine hK1 _ _ _ (by kernel_rfl) ?_; clear hK1 K1)); try dsimp only [mk_octet2_25, thenR, blockR, loopR, mk_t, mk_f, mk_n])|refine TW.gn (h := ?_))) | refine CS.seq fun K hK => ?_|(refine CS.regl mk_octet2_25 (fun K0 hK0 => ?_); try dsimp only [mp_s, mp_z])|(refine CS.drawl tab mk_octet2_25 (fun K1 hK1 => ?_); try dsimp only [mp_s, mp_z])|(refine hK _ _ ?_; clear hK K)|(clear hK K; refine hK _ _ ?_; clear hK K)|(clear hK K; clear hK K; refine hK _ _ ?_; clear hK K)|(clear hK K; clear hK K; clear hK K; refine hK _ _ ?_; clear hK K)|((first | refine CS_ret ?_ | refine CS_skip ?_ | refine CS_exit ?_ | rw [if_pos rfl] | rw [if_neg (by decide)]); try dsimp only [thenR, blockR, loopR])|refine CS.blk ?_|refine CS.yes rfl ?_|refine CS.no rfl ?_)
  exact hR0 _ _ _ (GS.frz 2 rfl rfl (by exact GS.refl ⟨(by first | exact .inr rfl | exact .inl rfl), _, [0, 1], gresT_ok tab rfl, by decide, rfl, rfl, rfl, rfl⟩))

/-! The reader. -/
def rd (l : List Int) (e : Int) : GO := .cells [.sl false 1 (l.map bG) [], .lit (.int .i64 e)]


set_option maxHeartbeats 4000000 in
theorem ORead_fs {bw : Bool} {l : List Int} {ex : List (List GV)} (hl : l.length ≤ 1000000000) : FS Try.prog 34 [.sl bw 1 (l.map bG) ex] [] (.adr 0 0 0) [rd l 0] := by
  refine FS.enterG Try.func34 rfl fun R0 hR0 => ?_
  simp only [Try.ntmps34, List.length_cons, List.length_nil, List.replicate_succ, List.replicate_zero, List.cons_append, List.nil_append, Nat.reduceAdd, Nat.reduceSub]
  have hb : (l.map bG).length ≤ 137438953472 := by rw [List.length_map]; omega
  repeat (first | (refine TW.tw ?_; (first | (refine TW.nil ?_; (first | (refine hK0 _ _ ?_; clear hK0 K0) | (refine hK1 _ _ _ (by kernel_rfl) ?_; clear hK1 K1)); try dsimp only [thenR, blockR, loopR, mk_t, mk_f, mk_n])|refine TW.gn (h := ?_))) | refine CS.seq fun K hK => ?_|(refine CS.regl [true, false, true, false, false, false, false] (fun K0 hK0 => ?_); try dsimp only [mp_s, mp_z])|(refine CS.drawl tab [true, false, true, false, false, false, false] (fun K1 hK1 => ?_); try dsimp only [mp_s, mp_z])|(refine hK _ _ ?_; clear hK K)|(clear hK K; refine hK _ _ ?_; clear hK K)|(clear hK K; clear hK K; refine hK _ _ ?_; clear hK K)|(clear hK K; clear hK K; clear hK K; refine hK _ _ ?_; clear hK K)|((first | refine CS_ret ?_ | refine CS_skip ?_ | refine CS_exit ?_ | rw [if_pos rfl] | rw [if_neg (by decide)]); try dsimp only [thenR, blockR, loopR])|refine CS.blk ?_|refine CS.yes rfl ?_|refine CS.no rfl ?_)
  exact hR0 _ _ _ (GS.frzO 1 0 rfl rfl rfl (by exact GS.refl ⟨(by first | exact .inr rfl | exact .inl rfl), _, [1], gresT_ok tab rfl, by decide, rfl, rfl, rfl, rfl⟩))


set_option maxHeartbeats 4000000 in
theorem Otake_fs {l : List Int} {e : Int} (n : Nat) : FS Try.prog 70 [.adr 0 0 0, .lit (.int .i64 n)] [rd l e] (.tup [.sl false 1 ((tk l e n).map bG) [], .lit (.bool (decide (e = 0) && decide (n ≤ l.length)))]) [rd (tkL l e n) (tkE l e n)] := by
  refine FS.enterG Try.func70 rfl fun R0 hR0 => ?_
  simp only [Try.ntmps70, List.length_cons, List.length_nil, List.replicate_succ, List.replicate_zero, List.cons_append, List.nil_append, Nat.reduceAdd, Nat.reduceSub]
  simp only [rd] at hR0 ⊢
  by_cases c : e = 0
  · subst c
    by_cases c2 : n ≤ l.length
    · have d : decide ((n : Int) > (l.length : Int)) = false := decide_eq_false (by omega)
      have d2 : decide (n ≤ l.length) = true := decide_eq_true c2
      have e1 : tk l 0 n = l.take n := if_pos ⟨rfl, c2⟩
      have e2 : tkL l 0 n = l.drop n := by unfold tkL; rw [if_pos rfl, if_pos c2]
      have e3 : tkE l 0 n = 0 := by unfold tkE; rw [if_pos rfl, if_pos c2]
      have h0 : (0 : Int) ≤ (n : Int) := by omega
      have h1 : (n : Int) ≤ ((l.map bG).length : Int) := by rw [List.length_map]; omega
      have h3 : (n : Int) ≤ (l.length : Int) := by omega
      have htl : (l.map bG).take l.length = l.map bG := List.take_of_length_le (by simp)
      rw [d2, e1, e2, e3, List.map_take, List.map_drop] at hR0
      repeat (first | (refine TW.tw ?_; (first | (refine TW.nil ?_; (first | (refine hK0 _ _ ?_; clear hK0 K0) | (refine hK1 _ _ _ (by kernel_rfl) ?_; clear hK1 K1)); try dsimp only [mk_octet2_70, thenR, blockR, loopR, mk_t, mk_f, mk_n]; try simp only [List.length_map, d, bne_self_eq_false, List.drop_zero, htl, Int.toNat_natCast])|refine TW.gn (h := ?_)|(simp only [List.length_map, d, bne_self_eq_false, List.drop_zero, htl]; refine TW.nm (h := ?_)))) | refine CS.seq fun K hK => ?_|(refine CS.regl mk_octet2_70 (fun K0 hK0 => ?_); try dsimp only [mp_s, mp_z])|(refine CS.drawl tab mk_octet2_70 (fun K1 hK1 => ?_); try dsimp only [mp_s, mp_z])|(refine hK _ _ ?_; clear hK K)|(clear hK K; refine hK _ _ ?_; clear hK K)|(clear hK K; clear hK K; refine hK _ _ ?_; clear hK K)|(clear hK K; clear hK K; clear hK K; refine hK _ _ ?_; clear hK K)|((first | refine CS_ret ?_ | refine CS_skip ?_ | refine CS_exit ?_ | rw [if_pos rfl] | rw [if_neg (by decide)]); try dsimp only [thenR, blockR, loopR])|refine CS.blk ?_|refine CS.yes rfl ?_|refine CS.no rfl ?_|simp only [List.length_map, d, bne_self_eq_false, List.drop_zero, htl])
      exact hR0 _ _ _ (by exact GS.refl ⟨(by first | exact .inr rfl | exact .inl rfl), _, [0], gresT_ok tab rfl, by decide, rfl, rfl, rfl, rfl⟩)
    · have d : decide ((n : Int) > ((l.map bG).length : Int)) = true := decide_eq_true (by rw [List.length_map]; omega)
      have d2 : decide (n ≤ l.length) = false := decide_eq_false c2
      have e1 : tk l 0 n = [] := if_neg fun h => c2 h.2
      have e2 : tkL l 0 n = [] := by unfold tkL; rw [if_pos rfl, if_neg c2]
      have e3 : tkE l 0 n = 3 := by unfold tkE; rw [if_pos rfl, if_neg c2]
      rw [d2, e1, e2, e3] at hR0
      repeat (first | (refine TW.tw ?_; (first | (refine TW.nil ?_; (first | (refine hK0 _ _ ?_; clear hK0 K0) | (refine hK1 _ _ _ (by kernel_rfl) ?_; clear hK1 K1)); try dsimp only [mk_octet2_70, thenR, blockR, loopR, mk_t, mk_f, mk_n]; try simp only [d, bne_self_eq_false, Int.toNat_natCast])|refine TW.gn (h := ?_)|(simp only [d, bne_self_eq_false]; refine TW.nm (h := ?_)))) | refine CS.seq fun K hK => ?_|(refine CS.regl mk_octet2_70 (fun K0 hK0 => ?_); try dsimp only [mp_s, mp_z])|(refine CS.drawl tab mk_octet2_70 (fun K1 hK1 => ?_); try dsimp only [mp_s, mp_z])|(refine hK _ _ ?_; clear hK K)|(clear hK K; refine hK _ _ ?_; clear hK K)|(clear hK K; clear hK K; refine hK _ _ ?_; clear hK K)|(clear hK K; clear hK K; clear hK K; refine hK _ _ ?_; clear hK K)|((first | refine CS_ret ?_ | refine CS_skip ?_ | refine CS_exit ?_ | rw [if_pos rfl] | rw [if_neg (by decide)]); try dsimp only [thenR, blockR, loopR])|refine CS.blk ?_|refine CS.yes rfl ?_|refine CS.no rfl ?_|simp only [d, bne_self_eq_false])
      exact hR0 _ _ _ (GS.nilS 4 1 false rfl (GS.nilO 0 0 1 rfl rfl (by exact GS.refl ⟨(by first | exact .inr rfl | exact .inl rfl), _, [0], gresT_ok tab rfl, by decide, rfl, rfl, rfl, rfl⟩)))
  · have d : (e != 0) = true := by simpa using c
    have d2 : decide (e = 0) = false := decide_eq_false c
    have e1 : tk l e n = [] := if_neg fun h => c h.1
    have e2 : tkL l e n = l := by unfold tkL; rw [if_neg c]
    have e3 : tkE l e n = e := by unfold tkE; rw [if_neg c]
    rw [d2, e1, e2, e3] at hR0
    repeat (first | (refine TW.tw ?_; (first | (refine TW.nil ?_; (first | (refine hK0 _ _ ?_; clear hK0 K0) | (refine hK1 _ _ _ (by kernel_rfl) ?_; clear hK1 K1)); try dsimp only [mk_octet2_70, thenR, blockR, loopR, mk_t, mk_f, mk_n]; try simp only [d, Int.toNat_natCast])|refine TW.gn (h := ?_)|(simp only [d]; refine TW.nm (h := ?_)))) | refine CS.seq fun K hK => ?_|(refine CS.regl mk_octet2_70 (fun K0 hK0 => ?_); try dsimp only [mp_s, mp_z])|(refine CS.drawl tab mk_octet2_70 (fun K1 hK1 => ?_); try dsimp only [mp_s, mp_z])|(refine hK _ _ ?_; clear hK K)|(clear hK K; refine hK _ _ ?_; clear hK K)|(clear hK K; clear hK K; refine hK _ _ ?_; clear hK K)|(clear hK K; clear hK K; clear hK K; refine hK _ _ ?_; clear hK K)|((first | refine CS_ret ?_ | refine CS_skip ?_ | refine CS_exit ?_ | rw [if_pos rfl] | rw [if_neg (by decide)]); try dsimp only [thenR, blockR, loopR])|refine CS.blk ?_|refine CS.yes rfl ?_|refine CS.no rfl ?_|simp only [d])
    exact hR0 _ _ _ (GS.nilS 4 1 false rfl (by exact GS.refl ⟨(by first | exact .inr rfl | exact .inl rfl), _, [0], gresT_ok tab rfl, by decide, rfl, rfl, rfl, rfl⟩))


set_option maxHeartbeats 4000000 in
theorem OGet_fs {l : List Int} {e : Int} (n : Int) (hb : byt l) : FS Try.prog 57 [.adr 0 0 0, .lit (.int .i64 n)] [rd l e] (.lit (.int .u64 (getv (tk l e (nby n))))) [rd (tkL l e (nby n)) (tkE l e (nby n))] := by
  refine FS.enterG Try.func57 rfl fun R0 hR0 => ?_
  simp only [Try.ntmps57, List.length_cons, List.length_nil, List.replicate_succ, List.replicate_zero, List.cons_append, List.nil_append, Nat.reduceAdd, Nat.reduceSub]
  have htb := tk_byt hb e (nby n)
  have htl := tk_len l e (nby n)
  have hn := nby_rng n
  simp only [rd] at hR0 ⊢
  repeat (first | (refine TW.tw ?_; (first | (refine TW.nil ?_; (first | (refine hK0 _ _ ?_; clear hK0 K0) | (refine hK1 _ _ _ (by kernel_rfl) ?_; clear hK1 K1)); try dsimp only [mk_octet2_57, thenR, blockR, loopR, mk_t, mk_f, mk_n]; try simp only [rd, Int.toNat_natCast])|(refine TW.ca rfl ?_; first | (refine TW.kc 70 rfl ?_; first | refine TW.RC (ids := [_]) (hF := Otake_fs _) (h := ?_))|(refine TW.kc 54 rfl ?_; first | refine TW.C0 (hF := Obytes_fs _) (h := ?_)))|refine TW.gn (h := ?_)|(simp only [rd]; refine TW.nm (h := ?_)))) | refine CS.seq fun K hK => ?_|(refine CS.regl mk_octet2_57 (fun K0 hK0 => ?_); try dsimp only [mp_s, mp_z])|(refine CS.drawl tab mk_octet2_57 (fun K1 hK1 => ?_); try dsimp only [mp_s, mp_z])|(refine hK _ _ ?_; clear hK K)|(clear hK K; refine hK _ _ ?_; clear hK K)|(clear hK K; clear hK K; refine hK _ _ ?_; clear hK K)|(clear hK K; clear hK K; clear hK K; refine hK _ _ ?_; clear hK K)|((first | refine CS_ret ?_ | refine CS_skip ?_ | refine CS_exit ?_ | rw [if_pos rfl] | rw [if_neg (by decide)]); try dsimp only [thenR, blockR, loopR])|refine CS.blk ?_|refine CS.yes rfl ?_|refine CS.no rfl ?_|simp only [rd])
  obtain ⟨L, hL⟩ : ∃ L, L = tk l e (nby n) := ⟨_, rfl⟩
  rw [← hL] at htb htl hR0 ⊢
  have hLl : L.length ≤ 8 := by omega
  refine CS.lp (fun x : Nat × Int => x.1 ≤ L.length ∧ (L.drop x.1).foldl gstep x.2 = getv L)
    (fun x => ([.any, .any, .any, .any, .any, .any, .any, .lit (.int .u64 x.2), .any, .any, .any, .any, .any, .any, .any, .any, .any, .sl false 1 (L.map bG) [], .lit (.int .i64 (L.map bG).length), .lit (.int .i64 x.1)] ++ List.replicate 10 .any))
    (fun _ => [.cells [.sl false 1 ((tkL l e (nby n)).map bG) [], .lit (.int .i64 (tkE l e (nby n)))]]) (fun x => L.length - x.1) (0, 0) [0] [false, false, false, false, false, false, false, true, false, false, false, false, false, false, false, false, false, true, true, true] (by decide) rfl ⟨Nat.zero_le _, rfl⟩ rfl rfl ?_
  rintro ⟨i, v⟩ ⟨hi1, hi2⟩
  simp only at hi1 hi2
  simp only [List.replicate_succ, List.replicate_zero, List.cons_append, List.nil_append]
  by_cases c : i < L.length
  · have d := int_lt (n := (L.map bG).length) (by simpa using c)
    have hg := map_at (f := bG) c
    have hI0 : (0 : Int) ≤ (i : Int) := by omega
    have hI1 : (i : Int) < ((L.map bG).length : Int) := by simp; omega
    have ew := wrap_nat (n := i) (by omega)
    have hc := htb L[i] (List.getElem_mem c)
    have w1 : IntKind.u64.wrap L[i] = L[i] := by rw [wrap_u64]; omega
    have ho := or_step (v := v) hc
    rw [drop_at c, List.foldl_cons] at hi2
    repeat (first | (refine TW.tw ?_; (first | (refine TW.nil ?_; (first | (refine hK0 _ _ ?_; clear hK0 K0) | (refine hK1 _ _ _ (by kernel_rfl) ?_; clear hK1 K1)); try dsimp only [mk_octet2_57, thenR, blockR, loopR, mk_t, mk_f, mk_n]; try simp only [d, bG, ew, w1, ho, Int.toNat_natCast])|(refine TW.ca rfl ?_; first | (refine TW.kc 70 rfl ?_; first | refine TW.RC (ids := [_]) (hF := Otake_fs _) (h := ?_))|(refine TW.kc 54 rfl ?_; first | refine TW.C0 (hF := Obytes_fs _) (h := ?_)))|refine TW.gn (h := ?_)|(simp only [d, bG, ew, w1, ho]; refine TW.nm (h := ?_)))) | refine CS.seq fun K hK => ?_|(refine CS.regl mk_octet2_57 (fun K0 hK0 => ?_); try dsimp only [mp_s, mp_z])|(refine CS.drawl tab mk_octet2_57 (fun K1 hK1 => ?_); try dsimp only [mp_s, mp_z])|(refine hK _ _ ?_; clear hK K)|(clear hK K; refine hK _ _ ?_; clear hK K)|(clear hK K; clear hK K; refine hK _ _ ?_; clear hK K)|(clear hK K; clear hK K; clear hK K; refine hK _ _ ?_; clear hK K)|((first | refine CS_ret ?_ | refine CS_skip ?_ | refine CS_exit ?_ | rw [if_pos rfl] | rw [if_neg (by decide)]); try dsimp only [thenR, blockR, loopR])|refine CS.blk ?_|refine CS.yes rfl ?_|refine CS.no rfl ?_|simp only [d, bG, ew, w1, ho])
    exact ⟨(i + 1, gstep v L[i]), [0], [false, false, false, false, false, false, false, true, false, false, false, false, false, false, false, false, false, true, true, true], ⟨c, hi2⟩, by show L.length - (i + 1) < L.length - i; omega, by decide, rfl, rfl, rfl⟩
  · have d := int_nlt (n := (L.map bG).length) (by simpa using c)
    rw [drop_end c, List.foldl_nil] at hi2
    rw [← hi2] at hR0
    repeat (first | (refine TW.tw ?_; (first | (refine TW.nil ?_; (first | (refine hK0 _ _ ?_; clear hK0 K0) | (refine hK1 _ _ _ (by kernel_rfl) ?_; clear hK1 K1)); try dsimp only [mk_octet2_57, thenR, blockR, loopR, mk_t, mk_f, mk_n]; try simp only [d, Int.toNat_natCast])|(refine TW.ca rfl ?_; first | (refine TW.kc 70 rfl ?_; first | refine TW.RC (ids := [_]) (hF := Otake_fs _) (h := ?_))|(refine TW.kc 54 rfl ?_; first | refine TW.C0 (hF := Obytes_fs _) (h := ?_)))|refine TW.gn (h := ?_)|(simp only [d]; refine TW.nm (h := ?_)))) | refine CS.seq fun K hK => ?_|(refine CS.regl mk_octet2_57 (fun K0 hK0 => ?_); try dsimp only [mp_s, mp_z])|(refine CS.drawl tab mk_octet2_57 (fun K1 hK1 => ?_); try dsimp only [mp_s, mp_z])|(refine hK _ _ ?_; clear hK K)|(clear hK K; refine hK _ _ ?_; clear hK K)|(clear hK K; clear hK K; refine hK _ _ ?_; clear hK K)|(clear hK K; clear hK K; clear hK K; refine hK _ _ ?_; clear hK K)|((first | refine CS_ret ?_ | refine CS_skip ?_ | refine CS_exit ?_ | rw [if_pos rfl] | rw [if_neg (by decide)]); try dsimp only [thenR, blockR, loopR])|refine CS.blk ?_|refine CS.yes rfl ?_|refine CS.no rfl ?_|simp only [d])
    exact hR0 _ _ _ (by exact GS.refl ⟨(by first | exact .inr rfl | exact .inl rfl), _, [0], gresT_ok tab rfl, by decide, rfl, rfl, rfl, rfl⟩)
end Go.Gh

