import Derived.Test.YtbkahcionjkgjaaOctet2

namespace Go.Gh
def mk_octet3_40 : List Bool := [true, false, true, false, true, false, false, false, false]
def mk_octet3_58 : List Bool := [true, true, false, false, true, true, false, false, false, false, false, false, false, false, false, false, false, false, false, false, false, false, false, false, true, false, false, false, false, false, false, false, true, false, false, false, false, false, false, false, false, false, false, false, false, false, false, false, false, false, false, false, false, false, false, false, false]
def mk_octet3_43 : List Bool := [true, true, false, false, true, true, false, true, true, false, false, false, false, false, false, false, false, false, false, true, false, false, false, false, false, false, false, false, false, false, false]
open Go.Proofs
set_option linter.unusedVariables false
set_option linter.unusedSimpArgs false

/-! Layer 3: what is read; the document's reader and writer. -/

theorem getv2 {l : List Int} (h : byt l) (e : Int) : 0 ≤ getv (tk l e 2) ∧ getv (tk l e 2) < 65536 := by
  have hl := tk_len l e 2
  have hb := tk_byt h e 2
  generalize tk l e 2 = L at *
  match L, hl with
  | [], _ => decide
  | [a], _ => have := hb a (by simp); simp only [getv, List.foldl_cons, List.foldl_nil, gstep]; omega
  | [a, b], _ => have := hb a (by simp); have := hb b (by simp); simp only [getv, List.foldl_cons, List.foldl_nil, gstep]; omega

/-- How long a text is said to be. -/
def tln (l : List Int) (e : Int) : Nat := (getv (tk l e 2)).toNat
/-- A text, what is left behind it, what is wrong. -/
def ttx (l : List Int) (e : Int) : List Int := tk (tkL l e 2) (tkE l e 2) (tln l e)
def ttL (l : List Int) (e : Int) : List Int := tkL (tkL l e 2) (tkE l e 2) (tln l e)
def ttE (l : List Int) (e : Int) : Int := tkE (tkL l e 2) (tkE l e 2) (tln l e)



set_option maxHeartbeats 4000000 in
theorem OErr_fs {l : List Int} {e : Int} : FS Try.prog 40 [.adr 0 0 0] [rd l e] (.lit (.int .i64 e)) [rd l e] := by
  refine FS.enterG Try.func40 rfl fun R0 hR0 => ?_
  simp only [Try.ntmps40, List.length_cons, List.length_nil, List.replicate_succ, List.replicate_zero, List.cons_append, List.nil_append, Nat.reduceAdd, Nat.reduceSub]
  simp only [rd] at hR0 ⊢
  repeat (first | (refine TW.tw ?_; (first | (refine TW.nil ?_; (first | (refine hK0 _ _ ?_; clear hK0 K0) | (refine hK1 _ _ _ (by kernel_rfl) ?_; clear hK1 K1)); try dsimp only [mk_octet3_40, thenR, blockR, loopR, mk_t, mk_f, mk_n])|refine TW.gn (h := ?_))) | refine CS.seq fun K hK => ?_|(refine CS.regl mk_octet3_40 (fun K0 hK0 => ?_); try dsimp only [mp_s, mp_z])|(refine CS.drawl tab mk_octet3_40 (fun K1 hK1 => ?_); try dsimp only [mp_s, mp_z])|(refine hK _ _ ?_; clear hK K)|(clear hK K; refine hK _ _ ?_; clear hK K)|(clear hK K; clear hK K; refine hK _ _ ?_; clear hK K)|(clear hK K; clear hK K; clear hK K; refine hK _ _ ?_; clear hK K)|((first | refine CS_ret ?_ | refine CS_skip ?_ | refine CS_exit ?_ | rw [if_pos rfl] | rw [if_neg (by decide)]); try dsimp only [thenR, blockR, loopR])|refine CS.blk ?_|refine CS.yes rfl ?_|refine CS.no rfl ?_)
  exact hR0 _ _ _ (by exact GS.refl ⟨(by first | exact .inr rfl | exact .inl rfl), _, [0], gresT_ok tab rfl, by decide, rfl, rfl, rfl, rfl⟩)
theorem OErrN_fs : FS Try.prog 40 [.lit (.pointer none)] [] (.lit (.int .i64 2)) [] := by
  refine FS.enterG Try.func40 rfl fun R0 hR0 => ?_
  simp only [Try.ntmps40, List.length_cons, List.length_nil, List.replicate_succ, List.replicate_zero, List.cons_append, List.nil_append, Nat.reduceAdd, Nat.reduceSub]
  repeat (first | (refine TW.tw ?_; (first | (refine TW.nil ?_; (first | (refine hK0 _ _ ?_; clear hK0 K0) | (refine hK1 _ _ _ (by kernel_rfl) ?_; clear hK1 K1)); try dsimp only [mk_octet3_40, thenR, blockR, loopR, mk_t, mk_f, mk_n])|refine TW.gn (h := ?_))) | refine CS.seq fun K hK => ?_|(refine CS.regl mk_octet3_40 (fun K0 hK0 => ?_); try dsimp only [mp_s, mp_z])|(refine CS.drawl tab mk_octet3_40 (fun K1 hK1 => ?_); try dsimp only [mp_s, mp_z])|(refine hK _ _ ?_; clear hK K)|(clear hK K; refine hK _ _ ?_; clear hK K)|(clear hK K; clear hK K; refine hK _ _ ?_; clear hK K)|(clear hK K; clear hK K; clear hK K; refine hK _ _ ?_; clear hK K)|((first | refine CS_ret ?_ | refine CS_skip ?_ | refine CS_exit ?_ | rw [if_pos rfl] | rw [if_neg (by decide)]); try dsimp only [thenR, blockR, loopR])|refine CS.blk ?_|refine CS.yes rfl ?_|refine CS.no rfl ?_)
  exact hR0 _ _ _ (by exact GS.refl ⟨(by first | exact .inr rfl | exact .inl rfl), _, [], gresT_ok tab rfl, by decide, rfl, rfl, rfl, rfl⟩)


/-! The document's reader. -/
def rr (B : List Int) (ex : List (List GV)) (at_ : Nat) (e : Int) : GO := .cells [.sl false 1 (B.map bG) ex, .lit (.int .i64 at_), .lit (.int .i64 e)]
/-- What is left of it. -/
def rst (B : List Int) (at_ : Nat) (e : Int) : List Int := if e = 0 then B.drop at_ else []
def atN (B : List Int) (at_ : Nat) (e : Int) (n : Nat) : Nat := if e = 0 ∧ n ≤ B.length - at_ then at_ + n else at_

theorem rst_byt {B : List Int} (h : byt B) (at_ : Nat) (e : Int) : byt (rst B at_ e) := by
  unfold rst; split
  · exact fun c hc => h c (List.mem_of_mem_drop hc)
  · exact fun c hc => by simp at hc
theorem rst_L (B : List Int) (at_ : Nat) (e : Int) (n : Nat) : tkL (rst B at_ e) e n = rst B (atN B at_ e n) (tkE (rst B at_ e) e n) := by
  unfold tkL tkE atN rst
  by_cases c : e = 0
  · subst c
    simp only [if_true, List.length_drop, true_and]
    by_cases c2 : n ≤ B.length - at_
    · simp [c2]
    · simp [c2]
  · simp [c]
theorem atN_le {B : List Int} {at_ : Nat} (h : at_ ≤ B.length) (e : Int) (n : Nat) : atN B at_ e n ≤ B.length := by
  unfold atN; split <;> omega


set_option maxHeartbeats 8000000 in
theorem Rtake_fs {B : List Int} {ex : List (List GV)} {at_ : Nat} {e : Int} (n : Nat) (hat : at_ ≤ B.length) (hB : B.length ≤ 1000000000) (hn : n ≤ 1000000000) :
    FS Try.prog 58 [.adr 0 0 0, .lit (.int .i64 n)] [rr B ex at_ e] (.tup [.sl false 1 ((tk (rst B at_ e) e n).map bG) [], .lit (.bool (decide (e = 0) && decide (n ≤ B.length - at_)))]) [rr B ex (atN B at_ e n) (tkE (rst B at_ e) e n)] := by
  refine FS.enterG Try.func58 rfl fun R0 hR0 => ?_
  simp only [Try.ntmps58, List.length_cons, List.length_nil, List.replicate_succ, List.replicate_zero, List.cons_append, List.nil_append, Nat.reduceAdd, Nat.reduceSub]
  simp only [rr] at hR0 ⊢
  have w0 : IntKind.i64.wrap ((B.length : Int) - (at_ : Int)) = ((B.length - at_ : Nat) : Int) := by rw [wrap_i64 _ (by omega) (by omega)]; omega
  by_cases c : e = 0
  · subst c
    have hr : rst B at_ 0 = B.drop at_ := if_pos rfl
    rw [hr] at hR0
    by_cases c2 : n ≤ B.length - at_
    · have d : decide ((n : Int) > ((B.length - at_ : Nat) : Int)) = false := decide_eq_false (by omega)
      have d2 : decide (n ≤ B.length - at_) = true := decide_eq_true c2
      have e1 : tk (B.drop at_) 0 n = (B.drop at_).take n := if_pos ⟨rfl, by rw [List.length_drop]; exact c2⟩
      have e3 : tkE (B.drop at_) 0 n = 0 := by unfold tkE; rw [if_pos rfl, if_pos (by rw [List.length_drop]; exact c2)]
      have e4 : atN B at_ 0 n = at_ + n := if_pos ⟨rfl, c2⟩
      have w1 : IntKind.i64.wrap ((at_ : Int) + (n : Int)) = ((at_ + n : Nat) : Int) := by rw [wrap_i64 _ (by omega) (by omega)]; omega
      have w2 : IntKind.i64.wrap (((at_ + n : Nat) : Int) - (n : Int)) = (at_ : Int) := by rw [wrap_i64 _ (by omega) (by omega)]; omega
      have h0 : (0 : Int) ≤ (at_ : Int) := by omega
      have h1 : (at_ : Int) ≤ ((at_ + n : Nat) : Int) := by omega
      have h3 : ((at_ + n : Nat) : Int) ≤ (B.length : Int) := by omega
      have h4 : ((at_ + n : Nat) : Int) ≤ ((B.map bG).length : Int) := by rw [List.length_map]; omega
      have hs : ((B.map bG).take (at_ + n)).drop at_ = ((B.drop at_).take n).map bG := by
        rw [List.drop_take, ← List.map_drop, ← List.map_take, show at_ + n - at_ = n by omega]
      rw [d2, e1, e3, e4] at hR0
      repeat (first | (refine TW.tw ?_; (first | (refine TW.nil ?_; (first | (refine hK0 _ _ ?_; clear hK0 K0) | (refine hK1 _ _ _ (by kernel_rfl) ?_; clear hK1 K1)); try dsimp only [mk_octet3_58, thenR, blockR, loopR, mk_t, mk_f, mk_n]; try simp only [List.length_map, w0, d, w1, w2, bne_self_eq_false, beq_self_eq_true, hs, Int.toNat_natCast])|refine TW.gn (h := ?_)|(simp only [List.length_map, w0, d, w1, w2, bne_self_eq_false, beq_self_eq_true, hs]; refine TW.nm (h := ?_)))) | refine CS.seq fun K hK => ?_|(refine CS.regl mk_octet3_58 (fun K0 hK0 => ?_); try dsimp only [mp_s, mp_z])|(refine CS.drawl tab mk_octet3_58 (fun K1 hK1 => ?_); try dsimp only [mp_s, mp_z])|(refine hK _ _ ?_; clear hK K)|(clear hK K; refine hK _ _ ?_; clear hK K)|(clear hK K; clear hK K; refine hK _ _ ?_; clear hK K)|(clear hK K; clear hK K; clear hK K; refine hK _ _ ?_; clear hK K)|((first | refine CS_ret ?_ | refine CS_skip ?_ | refine CS_exit ?_ | rw [if_pos rfl] | rw [if_neg (by decide)]); try dsimp only [thenR, blockR, loopR])|refine CS.blk ?_|refine CS.yes rfl ?_|refine CS.no rfl ?_|simp only [List.length_map, w0, d, w1, w2, bne_self_eq_false, beq_self_eq_true, hs])
      exact hR0 _ _ _ (by exact GS.refl ⟨(by first | exact .inr rfl | exact .inl rfl), _, [0], gresT_ok tab rfl, by decide, rfl, rfl, rfl, rfl⟩)
    · have d : decide ((n : Int) > ((B.length - at_ : Nat) : Int)) = true := decide_eq_true (by omega)
      have d2 : decide (n ≤ B.length - at_) = false := decide_eq_false c2
      have e1 : tk (B.drop at_) 0 n = [] := if_neg fun h => c2 (by have := h.2; rw [List.length_drop] at this; exact this)
      have e3 : tkE (B.drop at_) 0 n = 3 := by unfold tkE; rw [if_pos rfl, if_neg (by rw [List.length_drop]; exact c2)]
      have e4 : atN B at_ 0 n = at_ := if_neg fun h => c2 h.2
      have d3 : ((3 : Int) != 0) = true := by decide
      rw [d2, e1, e3, e4] at hR0
      repeat (first | (refine TW.tw ?_; (first | (refine TW.nil ?_; (first | (refine hK0 _ _ ?_; clear hK0 K0) | (refine hK1 _ _ _ (by kernel_rfl) ?_; clear hK1 K1)); try dsimp only [mk_octet3_58, thenR, blockR, loopR, mk_t, mk_f, mk_n]; try simp only [List.length_map, w0, d, d3, bne_self_eq_false, beq_self_eq_true, Int.toNat_natCast])|refine TW.gn (h := ?_)|(simp only [List.length_map, w0, d, d3, bne_self_eq_false, beq_self_eq_true]; refine TW.nm (h := ?_)))) | refine CS.seq fun K hK => ?_|(refine CS.regl mk_octet3_58 (fun K0 hK0 => ?_); try dsimp only [mp_s, mp_z])|(refine CS.drawl tab mk_octet3_58 (fun K1 hK1 => ?_); try dsimp only [mp_s, mp_z])|(refine hK _ _ ?_; clear hK K)|(clear hK K; refine hK _ _ ?_; clear hK K)|(clear hK K; clear hK K; refine hK _ _ ?_; clear hK K)|(clear hK K; clear hK K; clear hK K; refine hK _ _ ?_; clear hK K)|((first | refine CS_ret ?_ | refine CS_skip ?_ | refine CS_exit ?_ | rw [if_pos rfl] | rw [if_neg (by decide)]); try dsimp only [thenR, blockR, loopR])|refine CS.blk ?_|refine CS.yes rfl ?_|refine CS.no rfl ?_|simp only [List.length_map, w0, d, d3, bne_self_eq_false, beq_self_eq_true])
      exact hR0 _ _ _ (GS.nilS 4 1 false rfl (by exact GS.refl ⟨(by first | exact .inr rfl | exact .inl rfl), _, [0], gresT_ok tab rfl, by decide, rfl, rfl, rfl, rfl⟩))
  · have d : (e != 0) = true := by simpa using c
    have d3 : (e == 0) = false := by simpa using c
    have d2 : decide (e = 0) = false := decide_eq_false c
    have e1 : ∀ l, tk l e n = [] := fun l => if_neg fun h => c h.1
    have e3 : ∀ l, tkE l e n = e := fun l => by unfold tkE; rw [if_neg c]
    have e4 : atN B at_ e n = at_ := if_neg fun h => c h.1
    rw [d2, e1, e3, e4] at hR0
    repeat (first | (refine TW.tw ?_; (first | (refine TW.nil ?_; (first | (refine hK0 _ _ ?_; clear hK0 K0) | (refine hK1 _ _ _ (by kernel_rfl) ?_; clear hK1 K1)); try dsimp only [mk_octet3_58, thenR, blockR, loopR, mk_t, mk_f, mk_n]; try simp only [d, d3, Int.toNat_natCast])|refine TW.gn (h := ?_)|(simp only [d, d3]; refine TW.nm (h := ?_)))) | refine CS.seq fun K hK => ?_|(refine CS.regl mk_octet3_58 (fun K0 hK0 => ?_); try dsimp only [mp_s, mp_z])|(refine CS.drawl tab mk_octet3_58 (fun K1 hK1 => ?_); try dsimp only [mp_s, mp_z])|(refine hK _ _ ?_; clear hK K)|(clear hK K; refine hK _ _ ?_; clear hK K)|(clear hK K; clear hK K; refine hK _ _ ?_; clear hK K)|(clear hK K; clear hK K; clear hK K; refine hK _ _ ?_; clear hK K)|((first | refine CS_ret ?_ | refine CS_skip ?_ | refine CS_exit ?_ | rw [if_pos rfl] | rw [if_neg (by decide)]); try dsimp only [thenR, blockR, loopR])|refine CS.blk ?_|refine CS.yes rfl ?_|refine CS.no rfl ?_|simp only [d, d3])
    exact hR0 _ _ _ (GS.nilS 4 1 false rfl (by exact GS.refl ⟨(by first | exact .inr rfl | exact .inl rfl), _, [0], gresT_ok tab rfl, by decide, rfl, rfl, rfl, rfl⟩))


set_option maxHeartbeats 4000000 in
theorem RGet_fs {B : List Int} {ex : List (List GV)} {at_ : Nat} {e : Int} (n : Int) (hat : at_ ≤ B.length) (hB : B.length ≤ 1000000000) (hb : byt B) :
    FS Try.prog 43 [.adr 0 0 0, .lit (.int .i64 n)] [rr B ex at_ e] (.lit (.int .u64 (getv (tk (rst B at_ e) e (nby n))))) [rr B ex (atN B at_ e (nby n)) (tkE (rst B at_ e) e (nby n))] := by
  refine FS.enterG Try.func43 rfl fun R0 hR0 => ?_
  simp only [Try.ntmps43, List.length_cons, List.length_nil, List.replicate_succ, List.replicate_zero, List.cons_append, List.nil_append, Nat.reduceAdd, Nat.reduceSub]
  have htb := tk_byt (rst_byt hb at_ e) e (nby n)
  have htl := tk_len (rst B at_ e) e (nby n)
  have hn := nby_rng n
  have hn2 : nby n ≤ 1000000000 := by omega
  simp only [rr] at hR0 ⊢
  repeat (first | (refine TW.tw ?_; (first | (refine TW.nil ?_; (first | (refine hK0 _ _ ?_; clear hK0 K0) | (refine hK1 _ _ _ (by kernel_rfl) ?_; clear hK1 K1)); try dsimp only [mk_octet3_43, thenR, blockR, loopR, mk_t, mk_f, mk_n]; try simp only [rr, Int.toNat_natCast])|(refine TW.ca rfl ?_; first | (refine TW.kc 58 rfl ?_; first | refine TW.RC (ids := [_]) (hF := Rtake_fs _ (by assumption) (by assumption) (by assumption)) (h := ?_))|(refine TW.kc 56 rfl ?_; first | refine TW.C0 (hF := Rsize_fs _) (h := ?_)))|refine TW.gn (h := ?_)|(simp only [rr]; refine TW.nm (h := ?_)))) | refine CS.seq fun K hK => ?_|(refine CS.regl mk_octet3_43 (fun K0 hK0 => ?_); try dsimp only [mp_s, mp_z])|(refine CS.drawl tab mk_octet3_43 (fun K1 hK1 => ?_); try dsimp only [mp_s, mp_z])|(refine hK _ _ ?_; clear hK K)|(clear hK K; refine hK _ _ ?_; clear hK K)|(clear hK K; clear hK K; refine hK _ _ ?_; clear hK K)|(clear hK K; clear hK K; clear hK K; refine hK _ _ ?_; clear hK K)|((first | refine CS_ret ?_ | refine CS_skip ?_ | refine CS_exit ?_ | rw [if_pos rfl] | rw [if_neg (by decide)]); try dsimp only [thenR, blockR, loopR])|refine CS.blk ?_|refine CS.yes rfl ?_|refine CS.no rfl ?_|simp only [rr])
  obtain ⟨L, hL⟩ : ∃ L, L = tk (rst B at_ e) e (nby n) := ⟨_, rfl⟩
  rw [← hL] at htb htl hR0 ⊢
  have hLl : L.length ≤ 8 := by omega
  refine CS.lp (fun x : Nat × Int => x.1 ≤ L.length ∧ (L.drop x.1).foldl gstep x.2 = getv L)
    (fun x => ([.any, .any, .any, .any, .any, .sl false 1 (L.map bG) [], .any, .lit (.int .u64 x.2), .lit (.int .i64 x.1)] ++ List.replicate 22 .any))
    (fun _ => [.cells [.sl false 1 (B.map bG) ex, .lit (.int .i64 (atN B at_ e (nby n))), .lit (.int .i64 (tkE (rst B at_ e) e (nby n)))]]) (fun x => L.length - x.1) (0, 0) [0] [false, false, false, false, false, true, false, true, true] (by decide) rfl ⟨Nat.zero_le _, rfl⟩ rfl rfl ?_
  rintro ⟨i, v⟩ ⟨hi1, hi2⟩
  simp only at hi1 hi2
  simp only [List.replicate_succ, List.replicate_zero, List.cons_append, List.nil_append]
  by_cases c : i < L.length
  · have d := int_lt (n := (L.map bG).length) (by simpa using c)
    have hg := map_at (f := bG) c
    have hI0 : (0 : Int) ≤ (i : Int) := by omega
    have hI1 : (i : Int) < ((L.map bG).length : Int) := by simp; omega
    have ew := wrap_nat (n := i) (by omega)
    have hc := htb L[i] (List.getElem_mem c)
    have w1 : IntKind.u64.wrap L[i] = L[i] := by rw [wrap_u64]; omega
    have ho := or_step (v := v) hc
    rw [drop_at c, List.foldl_cons] at hi2
    repeat (first | (refine TW.tw ?_; (first | (refine TW.nil ?_; (first | (refine hK0 _ _ ?_; clear hK0 K0) | (refine hK1 _ _ _ (by kernel_rfl) ?_; clear hK1 K1)); try dsimp only [mk_octet3_43, thenR, blockR, loopR, mk_t, mk_f, mk_n]; try simp only [d, bG, ew, w1, ho, Int.toNat_natCast])|(refine TW.ca rfl ?_; first | (refine TW.kc 58 rfl ?_; first | refine TW.RC (ids := [_]) (hF := Rtake_fs _ (by assumption) (by assumption) (by assumption)) (h := ?_))|(refine TW.kc 56 rfl ?_; first | refine TW.C0 (hF := Rsize_fs _) (h := ?_)))|refine TW.gn (h := ?_)|(simp only [d, bG, ew, w1, ho]; refine TW.nm (h := ?_)))) | refine CS.seq fun K hK => ?_|(refine CS.regl mk_octet3_43 (fun K0 hK0 => ?_); try dsimp only [mp_s, mp_z])|(refine CS.drawl tab mk_octet3_43 (fun K1 hK1 => ?_); try dsimp only [mp_s, mp_z])|(refine hK _ _ ?_; clear hK K)|(clear hK K; refine hK _ _ ?_; clear hK K)|(clear hK K; clear hK K; refine hK _ _ ?_; clear hK K)|(clear hK K; clear hK K; clear hK K; refine hK _ _ ?_; clear hK K)|((first | refine CS_ret ?_ | refine CS_skip ?_ | refine CS_exit ?_ | rw [if_pos rfl] | rw [if_neg (by decide)]); try dsimp only [thenR, blockR, loopR])|refine CS.blk ?_|refine CS.yes rfl ?_|refine CS.no rfl ?_|simp only [d, bG, ew, w1, ho])
    exact ⟨(i + 1, gstep v L[i]), [0], [false, false, false, false, false, true, false, true, true], ⟨c, hi2⟩, by show L.length - (i + 1) < L.length - i; omega, by decide, rfl, rfl, rfl⟩
  · have d := int_nlt (n := (L.map bG).length) (by simpa using c)
    rw [drop_end c, List.foldl_nil] at hi2
    rw [← hi2] at hR0
    repeat (first | (refine TW.tw ?_; (first | (refine TW.nil ?_; (first | (refine hK0 _ _ ?_; clear hK0 K0) | (refine hK1 _ _ _ (by kernel_rfl) ?_; clear hK1 K1)); try dsimp only [mk_octet3_43, thenR, blockR, loopR, mk_t, mk_f, mk_n]; try simp only [d, Int.toNat_natCast])|(refine TW.ca rfl ?_; first | (refine TW.kc 58 rfl ?_; first | refine TW.RC (ids := [_]) (hF := Rtake_fs _ (by assumption) (by assumption) (by assumption)) (h := ?_))|(refine TW.kc 56 rfl ?_; first | refine TW.C0 (hF := Rsize_fs _) (h := ?_)))|refine TW.gn (h := ?_)|(simp only [d]; refine TW.nm (h := ?_)))) | refine CS.seq fun K hK => ?_|(refine CS.regl mk_octet3_43 (fun K0 hK0 => ?_); try dsimp only [mp_s, mp_z])|(refine CS.drawl tab mk_octet3_43 (fun K1 hK1 => ?_); try dsimp only [mp_s, mp_z])|(refine hK _ _ ?_; clear hK K)|(clear hK K; refine hK _ _ ?_; clear hK K)|(clear hK K; clear hK K; refine hK _ _ ?_; clear hK K)|(clear hK K; clear hK K; clear hK K; refine hK _ _ ?_; clear hK K)|((first | refine CS_ret ?_ | refine CS_skip ?_ | refine CS_exit ?_ | rw [if_pos rfl] | rw [if_neg (by decide)]); try dsimp only [thenR, blockR, loopR])|refine CS.blk ?_|refine CS.yes rfl ?_|refine CS.no rfl ?_|simp only [d])
    exact hR0 _ _ _ (by exact GS.refl ⟨(by first | exact .inr rfl | exact .inl rfl), _, [0], gresT_ok tab rfl, by decide, rfl, rfl, rfl, rfl⟩)
end Go.Gh

