import Derived.Test.YtbkahcionjkgjaaMsgLaw0
import Derived.Test.YtbkahcionjkgjaaMsgSame
import Derived.Test.YtbkahcionjkgjaaMsgTakeR

namespace Go.Gh
def mk_msgTurned_6 : List Bool := [true, true, true, true, false, true, false, false, true, true, true, true, true, true, true, true, false, false, true, false, false, false, false, false, false, false, false, false, false, false, false, true, false, false, false, false, false, false, false, false, false, false, false, false, false, false, false, false, false, false, false, false, false, false, false, false, false, false, false, false, false, false, false, false, false, false, false, false, false, false, false, false, false, false, false, false, false, false, false, false, false, false]
open Go.Proofs
set_option linter.unusedVariables false
set_option linter.unusedSimpArgs false

/-! Layer 6: MessageTurned. -/
theorem rcq_refl (r : RecV) : rcq r r = true := by
  unfold rcq
  simp only [beq_self_eq_true, Bool.true_and]
  exact samb_refl eqi_refl _
theorem msq_refl (m : MsgV) : msq m m = true := by
  have h1 : samb rgq m.box m.box = true := samb_refl rgq_refl _
  have h2 : samb rcq m.recs m.recs = true := samb_refl rcq_refl _
  have h3 : enq m m = true := by unfold enq; simp only [beq_self_eq_true, Bool.true_and]; exact rcq_refl m.er
  unfold msq
  rw [h1, h2, h3]
  simp only [beq_self_eq_true, Bool.and_self]
theorem samb_ex {α : Type} {q : α → α → Bool} (hq : ∀ x y, q x y = true → x = y) : ∀ {l r : List α}, samb q l r = true → l = r
  | [], [], _ => rfl
  | [], _ :: _, h => by simp [samb] at h
  | _ :: _, [], h => by simp [samb] at h
  | x :: l, y :: r, h => by
    rw [samb_cc, Bool.and_eq_true] at h
    rw [hq x y h.1, samb_ex hq h.2]
theorem rcq_rcb {a b : RecV} (h : rcq a b = true) : rcb a = rcb b := by
  simp only [rcq, Bool.and_eq_true, beq_iff_eq] at h
  have := samb_ex (fun x y h => by simpa [eqi] using h) h.2.2
  unfold rcb
  rw [h.1, h.2.1, this]
theorem samb_rcbs : ∀ {l r : List RecV}, samb rcq l r = true → rcbs l = rcbs r ∧ l.length = r.length
  | [], [], _ => ⟨rfl, rfl⟩
  | [], _ :: _, h => by simp [samb] at h
  | _ :: _, [], h => by simp [samb] at h
  | x :: l, y :: r, h => by
    rw [samb_cc, Bool.and_eq_true] at h
    have ih := samb_rcbs h.2
    rw [rcbs, rcbs, rcq_rcb h.1, ih.1, List.length_cons, List.length_cons, ih.2]
    exact ⟨rfl, rfl⟩
theorem msq_mbs {a b : MsgV} (h : msq a b = true) : mbs a = mbs b := by
  simp only [msq, enq, Bool.and_eq_true, beq_iff_eq] at h
  obtain ⟨h1, h2, h3, h4, h5, h6, h7, h8, h9, ⟨e1, e2, e3⟩, ⟨s1, s2, _⟩, hb, hr⟩ := h
  have hbx := samb_ex (fun x y h => by
    obtain ⟨x1, x2, x3⟩ := x
    obtain ⟨y1, y2, y3⟩ := y
    simp only [rgq, Bool.and_eq_true, beq_iff_eq] at h
    rw [h.1, h.2.1, h.2.2.1]) hb
  obtain ⟨r1, r2⟩ := samb_rcbs hr
  unfold mbs hdb entb tlb
  rw [h1, h2, h3, h4, h5, h7, h8, h9, e2, rcq_rcb e3, s1, s2, hbx, r1, r2]
theorem takeM_ok' (n : Int) {b : List Int} (hb : byt b) : MsgOk (takeM n b).1 := by
  have a0 : sok (b, (0 : Int)) := ⟨hb, .inl rfl⟩
  have a1 := a0.nx 1
  have a2 := a1.nx 1
  have a3 := a2.nx 1
  have a4 := a3.nx 2
  have a5 := a4.nx 4
  have rP : u32r (hP (b, 0)) := gt4 a4
  have hz : MsgOk msgz := ⟨u0, u0, u0, u0, rec0_ok, u0, u0, fun r hr => by simp [msgz] at hr, by simp [msgz], fun r hr => by simp [msgz] at hr, by simp [msgz]⟩
  unfold takeM
  split
  · rename_i h
    have hn := wth_t h
    unfold endM
    split
    · exact hz
    · split
      · unfold rdm rdk
        split
        · exact rdA_ok a5 rP hn.2
        · split
          · exact rdQ_ok a5 rP
          · split
            · exact rdW_ok a5 rP hn.2
            · exact rdZ_ok (t := hS (b, 0)) rP
      · exact hz
  · exact hz
theorem takeM_is' {n : Int} {b : List Int} (h : (takeM n b).2 = 0) : mbs (takeM n b).1 = b := by
  unfold takeM at h ⊢
  split at h
  · rename_i h8
    rw [if_pos h8]
    unfold endM at h ⊢
    split at h
    · rename_i he
      have : (rdm n (b, 0)).2.2 = 0 := h
      rw [this] at he; simp at he
    · rename_i he
      rw [if_neg he]
      split at h
      · rename_i hc
        rw [if_pos hc]
        simp only [Bool.and_eq_true, decide_eq_true_eq] at hc
        exact hc.2
      · cases h
  · cases h
theorem xor8 {c d : Int} (hc : 0 ≤ c ∧ c < 256) (hd : 0 ≤ d ∧ d < 256) (h0 : d ≠ 0) : (0 ≤ IntKind.u8.wrap ((BitVec.ofInt IntKind.u8.bits c ^^^ BitVec.ofInt IntKind.u8.bits d).toNat : Int) ∧ IntKind.u8.wrap ((BitVec.ofInt IntKind.u8.bits c ^^^ BitVec.ofInt IntKind.u8.bits d).toNat : Int) < 256) ∧ IntKind.u8.wrap ((BitVec.ofInt IntKind.u8.bits c ^^^ BitVec.ofInt IntKind.u8.bits d).toNat : Int) ≠ c := by
  rw [wrap_u8]
  refine ⟨by omega, fun e => h0 ?_⟩
  obtain ⟨x, hx⟩ : ∃ x, BitVec.ofInt IntKind.u8.bits c = x := ⟨_, rfl⟩
  obtain ⟨y, hy⟩ : ∃ y, BitVec.ofInt IntKind.u8.bits d = y := ⟨_, rfl⟩
  have x1 : (x.toNat : Int) = c := by
    rw [← hx, BitVec.toNat_ofInt]
    show (((c % 256).toNat : Nat) : Int) = c
    omega
  have y1 : (y.toNat : Int) = d := by
    rw [← hy, BitVec.toNat_ofInt]
    show (((d % 256).toNat : Nat) : Int) = d
    omega
  rw [hx, hy] at e
  have hlt : (x ^^^ y).toNat < 256 := (x ^^^ y).isLt
  have e2 : (x ^^^ y).toNat = x.toNat := by omega
  have e3 : x ^^^ y = x := BitVec.eq_of_toNat_eq e2
  have e4 : y = 0#_ := by
    have : x ^^^ (x ^^^ y) = x ^^^ x := by rw [e3]
    rwa [← BitVec.xor_assoc, BitVec.xor_self, BitVec.zero_xor] at this
  rw [e4] at y1
  simpa using y1.symm
theorem at_mod6 (c : Int) {n : Nat} (h0 : 0 < n) (h1 : n ≤ 1000000000) : ∃ j : Nat, j < n ∧ IntKind.i64.wrap ((IntKind.u64.wrap c).tmod (IntKind.u64.wrap (n : Int))) = (j : Int) := by
  have e1 : IntKind.u64.wrap (n : Int) = (n : Int) := by rw [wrap_u64]; omega
  have e2 : 0 ≤ IntKind.u64.wrap c := by rw [wrap_u64]; omega
  rw [e1, Int.tmod_eq_emod_of_nonneg e2]
  have h2 := Int.emod_nonneg (IntKind.u64.wrap c) (show (n : Int) ≠ 0 by omega)
  have h3 := Int.emod_lt_of_pos (IntKind.u64.wrap c) (show (0 : Int) < n by omega)
  refine ⟨(IntKind.u64.wrap c % (n : Int)).toNat, by omega, ?_⟩
  rw [wrap_i64 _ (by omega) (by omega)]; omega
theorem mbs_len' {n : Int} {m : MsgV} (hr : rightM n m = true) : 9 ≤ (mbs m).length ∧ (mbs m).length ≤ 1000000 := by
  have F := rtF hr
  have hd : (hdb m).length = 9 := by unfold hdb; simp only [List.length_append, be_len]
  have he := entb_len F.vs
  have hb := F.box
  have hr1 := F.recs.1
  have hr2 := rcbs_len (k := n.toNat) F.rlen
  have n1 := F.n1
  have : m.recs.length * (16 + 4 * n.toNat) ≤ 10000 * 48 := Nat.mul_le_mul hr1 (by omega)
  unfold mbs tlb
  refine ⟨by rw [List.length_append]; omega, ?_⟩
  split <;> split <;> (try split) <;> (try split) <;> simp only [List.length_append, List.length_nil, be_len, pack_len, hd, hr2] <;> omega
theorem mapIdx1 {a b c : GO} : [a, b].mapIdx (fun i o => ((([(1, c)] : List (Nat × GO)).find? (fun x => x.1 == i)).map (fun x => x.2)).getD o) = [a, c] := rfl

set_option maxRecDepth 8000 in
set_option maxHeartbeats 64000000 in
theorem MessageTurned_fs {m : MsgV} {n at_ d : Int} (h : MsgW m) (hd : 0 ≤ d ∧ d < 256) : FS Try.prog 6 [.lit (.int .i64 n), .agg (msG m), .lit (.int .i64 at_), .lit (.int .u8 d)] [] (.lit (.bool true)) [] := by
  refine FS.enterG Try.func6 rfl fun R0 hR0 => ?_
  simp only [Try.ntmps6, List.length_cons, List.length_nil, List.replicate_succ, List.replicate_zero, List.cons_append, List.nil_append, Nat.reduceAdd, Nat.reduceSub]
  have hF := few_fs h
  simp only [msG] at hF ⊢
  cases f : fewB m
  · repeat (first | (refine TW.tw ?_; (first | (refine TW.nil ?_; (first | (refine hK0 _ _ ?_; clear hK0 K0) | (refine hK1 _ _ _ (by kernel_rfl) ?_; clear hK1 K1)); try dsimp only [mk_msgTurned_6, thenR, blockR, loopR, mk_t, mk_f, mk_n]; try simp only [f, Bool.not_false, Int.toNat_natCast])|(refine TW.ca rfl ?_; first | refine TW.C0 (hF := hT ) (h := ?_)|refine TW.C0 (hF := hR ) (h := ?_)|refine TW.C0 (hF := hP ) (h := ?_)|refine TW.C0 (hF := hQ ) (h := ?_)|refine TW.RC (ids := [_]) (hF := hM ) (h := ?_)|refine TW.RC (ids := [_, _]) (hF := hE ) (h := ?_)|refine TW.C0 (hF := hH ) (h := ?_)|refine TW.C0 (hF := hA ) (h := ?_)|refine TW.C0 (hF := hRr ) (h := ?_)|refine TW.C0 (hF := hN ) (h := ?_)|refine TW.C0 (hF := hF _ _ _) (h := ?_)|(refine TW.kc 8 rfl ?_; first | refine TW.C0 (hF := hF ) (h := ?_)|refine TW.C0 (hF := few_fs (by assumption)) (h := ?_))|(refine TW.kc 9 rfl ?_; first | refine TW.C0 (hF := awake6_fs ) (h := ?_))|(refine TW.kc 13 rfl ?_; first | refine TW.C0 (hF := MTake_fs _ (by assumption) (by assumption)) (h := ?_)))|refine TW.gn (h := ?_)|(simp only [f, Bool.not_false]; refine TW.nm (h := ?_)))) | refine CS.seq fun K hK => ?_|(refine CS.regl mk_msgTurned_6 (fun K0 hK0 => ?_); try dsimp only [mp_s, mp_z])|(refine CS.drawl tab mk_msgTurned_6 (fun K1 hK1 => ?_); try dsimp only [mp_s, mp_z])|(refine hK _ _ ?_; clear hK K)|(clear hK K; refine hK _ _ ?_; clear hK K)|(clear hK K; clear hK K; refine hK _ _ ?_; clear hK K)|((first | refine CS_ret ?_ | refine CS_skip ?_ | refine CS_exit ?_ | rw [if_pos rfl] | rw [if_neg (by decide)]); try dsimp only [thenR, blockR, loopR])|refine CS.blk ?_|refine CS.yes rfl ?_|refine CS.no rfl ?_|simp only [f, Bool.not_false])
    exact hR0 _ _ _ (TW.fk [])
  have ok := fewB_ok h f
  cases hr : rightM n m
  · have hP := R6PackN_fs ok hr
    simp only [msG] at hP
    repeat (first | (refine TW.tw ?_; (first | (refine TW.nil ?_; (first | (refine hK0 _ _ ?_; clear hK0 K0) | (refine hK1 _ _ _ (by kernel_rfl) ?_; clear hK1 K1)); try dsimp only [mk_msgTurned_6, thenR, blockR, loopR, mk_t, mk_f, mk_n]; try simp only [f, Bool.not_true, d40, Int.toNat_natCast])|(refine TW.ca rfl ?_; (try simp only [f, Bool.not_true, d40]); first | refine TW.C0 (hF := hT ) (h := ?_)|refine TW.C0 (hF := hR ) (h := ?_)|refine TW.C0 (hF := hQ ) (h := ?_)|refine TW.RC (ids := [_]) (hF := hM ) (h := ?_)|refine TW.RC (ids := [_, _]) (hF := hE ) (h := ?_)|refine TW.C0 (hF := hH ) (h := ?_)|refine TW.C0 (hF := hA ) (h := ?_)|refine TW.C0 (hF := hRr ) (h := ?_)|refine TW.C0 (hF := hN ) (h := ?_)|refine TW.C0 (hF := hF _ _ _) (h := ?_)|(refine TW.kc 12 rfl ?_; first | refine TW.C0 (hF := hP ) (h := ?_))|(refine TW.kc 8 rfl ?_; first | refine TW.C0 (hF := hF ) (h := ?_)|refine TW.C0 (hF := few_fs (by assumption)) (h := ?_))|(refine TW.kc 9 rfl ?_; first | refine TW.C0 (hF := awake6_fs ) (h := ?_))|(refine TW.kc 13 rfl ?_; first | refine TW.C0 (hF := MTake_fs _ (by assumption) (by assumption)) (h := ?_)))|refine TW.gn (h := ?_)|(simp only [f, Bool.not_true, d40]; refine TW.nm (h := ?_)))) | refine CS.seq fun K hK => ?_|(refine CS.regl mk_msgTurned_6 (fun K0 hK0 => ?_); try dsimp only [mp_s, mp_z])|(refine CS.drawl tab mk_msgTurned_6 (fun K1 hK1 => ?_); try dsimp only [mp_s, mp_z])|(refine hK _ _ ?_; clear hK K)|(clear hK K; refine hK _ _ ?_; clear hK K)|(clear hK K; clear hK K; refine hK _ _ ?_; clear hK K)|((first | refine CS_ret ?_ | refine CS_skip ?_ | refine CS_exit ?_ | rw [if_pos rfl] | rw [if_neg (by decide)]); try dsimp only [thenR, blockR, loopR])|refine CS.blk ?_|refine CS.yes rfl ?_|refine CS.no rfl ?_|simp only [f, Bool.not_true, d40])
    exact hR0 _ _ _ (TW.fk [])
  have hY := R6PackY_fs ok hr
  obtain ⟨l9, l6⟩ := mbs_len' hr
  have hmb := mbs_byt m
  obtain ⟨X, hX⟩ : ∃ X, mbs m = X := ⟨_, rfl⟩
  rw [hX] at hY l9 l6 hmb
  simp only [msG] at hY
  by_cases c0 : d = 0
  · have dd : (d == 0) = true := by simpa using c0
    repeat (first | (refine TW.tw ?_; (first | (refine TW.nil ?_; (first | (refine hK0 _ _ ?_; clear hK0 K0) | (refine hK1 _ _ _ (by kernel_rfl) ?_; clear hK1 K1)); try dsimp only [mk_msgTurned_6, thenR, blockR, loopR, mk_t, mk_f, mk_n]; try simp only [f, Bool.not_true, d00, dd, Int.toNat_natCast])|(refine TW.ca rfl ?_; (try simp only [f, Bool.not_true, d00, dd]); first | refine TW.C0 (hF := hT ) (h := ?_)|refine TW.C0 (hF := hR ) (h := ?_)|refine TW.C0 (hF := hQ ) (h := ?_)|refine TW.RC (ids := [_]) (hF := hM ) (h := ?_)|refine TW.RC (ids := [_, _]) (hF := hE ) (h := ?_)|refine TW.C0 (hF := hH ) (h := ?_)|refine TW.C0 (hF := hA ) (h := ?_)|refine TW.C0 (hF := hRr ) (h := ?_)|refine TW.C0 (hF := hN ) (h := ?_)|refine TW.C0 (hF := hF _ _ _) (h := ?_)|(refine TW.kc 12 rfl ?_; first | refine TW.C0 (hF := hY ) (h := ?_)|refine TW.C0 (hF := hP ) (h := ?_))|(refine TW.kc 8 rfl ?_; first | refine TW.C0 (hF := hF ) (h := ?_)|refine TW.C0 (hF := few_fs (by assumption)) (h := ?_))|(refine TW.kc 9 rfl ?_; first | refine TW.C0 (hF := awake6_fs ) (h := ?_))|(refine TW.kc 13 rfl ?_; first | refine TW.C0 (hF := MTake_fs _ (by assumption) (by assumption)) (h := ?_)))|refine TW.gn (h := ?_)|(simp only [f, Bool.not_true, d00, dd]; refine TW.nm (h := ?_)))) | refine CS.seq fun K hK => ?_|(refine CS.regl mk_msgTurned_6 (fun K0 hK0 => ?_); try dsimp only [mp_s, mp_z])|(refine CS.drawl tab mk_msgTurned_6 (fun K1 hK1 => ?_); try dsimp only [mp_s, mp_z])|(refine hK _ _ ?_; clear hK K)|(clear hK K; refine hK _ _ ?_; clear hK K)|(clear hK K; clear hK K; refine hK _ _ ?_; clear hK K)|((first | refine CS_ret ?_ | refine CS_skip ?_ | refine CS_exit ?_ | rw [if_pos rfl] | rw [if_neg (by decide)]); try dsimp only [thenR, blockR, loopR])|refine CS.blk ?_|refine CS.yes rfl ?_|refine CS.no rfl ?_|simp only [f, Bool.not_true, d00, dd])
    exact hR0 _ _ _ (TW.fk [])
  have dd : (d == 0) = false := by simpa using c0
  obtain ⟨j, hj, ej⟩ := at_mod6 at_ (n := X.length) (by omega) (by omega)
  have hne : IntKind.u64.wrap (X.length : Int) ≠ 0 := by rw [wrap_u64]; omega
  have hg := map_at (f := bG) hj
  rw [Int.toNat_natCast] at hg
  have hI0 : (0 : Int) ≤ (j : Int) := by omega
  have hI1 : (j : Int) < ((X.map bG).length : Int) := by rw [List.length_map]; omega
  obtain ⟨x1, x2⟩ := xor8 (hmb _ (List.getElem_mem hj)) hd c0
  obtain ⟨v, hv⟩ : ∃ v, IntKind.u8.wrap ((BitVec.ofInt IntKind.u8.bits X[j] ^^^ BitVec.ofInt IntKind.u8.bits d).toNat : Int) = v := ⟨_, rfl⟩
  rw [hv] at x1 x2
  have hset : (X.map bG).set j [.lit (.int .u8 v)] = (X.set j v).map bG := by rw [List.map_set]; rfl
  have hYb : byt (X.set j v) := fun c hc => by
    rcases List.mem_or_eq_of_mem_set hc with h1 | h1
    · exact hmb c h1
    · rw [h1]; exact x1
  have hYn : X.set j v ≠ X := fun e => x2 (by
    have : (X.set j v)[j]'(by rw [List.length_set]; exact hj) = v := List.getElem_set_self ..
    rw [← this]; simp only [e])
  have hYl : (X.set j v).length ≤ 1000000000 := by rw [List.length_set]; omega
  obtain ⟨Y, eY⟩ : ∃ Y, X.set j v = Y := ⟨_, rfl⟩
  rw [eY] at hset hYb hYn hYl
  have hT : ∀ ex, FS Try.prog 13 [.lit (.int .i64 n), .sl false 1 (Y.map bG) ex] [] (.tup [.agg (msG (takeM n Y).1), .lit (.int .i64 (takeM n Y).2)]) [] := fun ex => MTake_fs n hYl hYb
  have hT2 : ∀ ex, FS Try.prog 14 [.lit (.int .i64 n), .sl false 1 (Y.map bG) ex] [] (.tup [.agg (msG (takeM n Y).1), .lit (.int .i64 (takeM n Y).2)]) [] := fun ex => R6Take_fs n hYl hYb
  have hqo := takeM_ok' n hYb
  have hqi : (takeM n Y).2 = 0 → msq (takeM n Y).1 m = false := fun e => by
    cases c : msq (takeM n Y).1 m
    · rfl
    · exact absurd ((takeM_is' e).symm.trans ((msq_mbs c).trans hX)) hYn
  obtain ⟨q, hq⟩ : ∃ q, takeM n Y = q := ⟨_, rfl⟩
  rw [hq] at hqo hqi
  simp only [hq] at hT hT2
  have hS := HMessage_fs (a := q.1) (b := q.1) hqo
  rw [msq_refl] at hS
  have hS2 := HMessage_fs (a := q.1) (b := m) hqo
  have b4 : (q.2 == q.2) = true := by simp
  simp only [msG] at hT hT2 hS hS2
  repeat (first | (refine TW.tw ?_; (first | (refine TW.nil ?_; (first | (refine hK0 _ _ ?_; clear hK0 K0) | (refine hK1 _ _ _ (by kernel_rfl) ?_; clear hK1 K1)); try dsimp only [mk_msgTurned_6, thenR, blockR, loopR, mk_t, mk_f, mk_n]; try simp only [f, Bool.not_true, d00, dd, List.length_map, ej, hv, hset, bG, Int.toNat_natCast])|(refine TW.ca rfl ?_; (try simp only [f, Bool.not_true, d00, dd, List.length_map, ej, hv, hset, bG]); first | refine TW.C0 (hF := hT ) (h := ?_)|refine TW.C0 (hF := hR ) (h := ?_)|refine TW.C0 (hF := hQ ) (h := ?_)|refine TW.RC (ids := [_]) (hF := hM ) (h := ?_)|refine TW.RC (ids := [_, _]) (hF := hE ) (h := ?_)|refine TW.C0 (hF := hH ) (h := ?_)|refine TW.C0 (hF := hA ) (h := ?_)|refine TW.C0 (hF := hRr ) (h := ?_)|refine TW.C0 (hF := hN ) (h := ?_)|refine TW.C0 (hF := hF _ _ _) (h := ?_)|(refine TW.kc 18 rfl ?_; first | refine TW.C0 (hF := hS ) (h := ?_)|refine TW.C0 (hF := hS2 ) (h := ?_))|(refine TW.kc 14 rfl ?_; first | refine TW.C0 (hF := hT2 _) (h := ?_))|(refine TW.kc 13 rfl ?_; first | refine TW.C0 (hF := hT _) (h := ?_)|refine TW.C0 (hF := MTake_fs _ (by assumption) (by assumption)) (h := ?_))|(refine TW.kc 12 rfl ?_; first | refine TW.C0 (hF := hY ) (h := ?_)|refine TW.C0 (hF := hP ) (h := ?_))|(refine TW.kc 8 rfl ?_; first | refine TW.C0 (hF := hF ) (h := ?_)|refine TW.C0 (hF := few_fs (by assumption)) (h := ?_))|(refine TW.kc 9 rfl ?_; first | refine TW.C0 (hF := awake6_fs ) (h := ?_)))|refine TW.gn (h := ?_)|(simp only [f, Bool.not_true, d00, dd, List.length_map, ej, hv, hset, bG]; refine TW.nm (h := ?_)))) | refine CS.seq fun K hK => ?_|(refine CS.regX 8 rfl mk_msgTurned_6 (fun K0 hK0 => ?_); try dsimp only [mp_s, mp_z])|(refine CS.drawX tab 8 rfl mk_msgTurned_6 (fun K1 hK1 => ?_); try dsimp only [mp_s, mp_z])|(refine hK _ _ ?_; clear hK K)|(clear hK K; refine hK _ _ ?_; clear hK K)|(clear hK K; clear hK K; refine hK _ _ ?_; clear hK K)|((first | refine CS_ret ?_ | refine CS_skip ?_ | refine CS_exit ?_ | rw [if_pos rfl] | rw [if_neg (by decide)]); try dsimp only [thenR, blockR, loopR])|refine CS.blk ?_|refine CS.yes rfl ?_|refine CS.no rfl ?_|simp only [f, Bool.not_true, d00, dd, List.length_map, ej, hv, hset, bG])
  simp only [mapIdx1, List.append_nil]
  refine CS.ghost (GS.frz 9 rfl rfl (GS.refl ?_))
  simp only [List.set_cons_succ, List.set_cons_zero]
  by_cases c : q.2 = 0
  · have r1 : (q.2 != 0) = false := by simpa using c
    have r2 := hqi c
    repeat (first | (refine TW.tw ?_; (first | (refine TW.nil ?_; (first | (refine hK0 _ _ ?_; clear hK0 K0) | (refine hK1 _ _ _ (by kernel_rfl) ?_; clear hK1 K1)); try dsimp only [mk_msgTurned_6, thenR, blockR, loopR, mk_t, mk_f, mk_n]; try simp only [b4, r1, r2, Bool.not_false, Int.toNat_natCast])|(refine TW.ca rfl ?_; (try simp only [b4, r1, r2, Bool.not_false]); first | refine TW.C0 (hF := hT ) (h := ?_)|refine TW.C0 (hF := hR ) (h := ?_)|refine TW.C0 (hF := hQ ) (h := ?_)|refine TW.RC (ids := [_]) (hF := hM ) (h := ?_)|refine TW.RC (ids := [_, _]) (hF := hE ) (h := ?_)|refine TW.C0 (hF := hH ) (h := ?_)|refine TW.C0 (hF := hA ) (h := ?_)|refine TW.C0 (hF := hRr ) (h := ?_)|refine TW.C0 (hF := hN ) (h := ?_)|refine TW.C0 (hF := hF _ _ _) (h := ?_)|(refine TW.kc 18 rfl ?_; first | refine TW.C0 (hF := hS ) (h := ?_)|refine TW.C0 (hF := hS2 ) (h := ?_))|(refine TW.kc 14 rfl ?_; first | refine TW.C0 (hF := hT2 _) (h := ?_))|(refine TW.kc 13 rfl ?_; first | refine TW.C0 (hF := hT _) (h := ?_)|refine TW.C0 (hF := MTake_fs _ (by assumption) (by assumption)) (h := ?_))|(refine TW.kc 12 rfl ?_; first | refine TW.C0 (hF := hY ) (h := ?_)|refine TW.C0 (hF := hP ) (h := ?_))|(refine TW.kc 8 rfl ?_; first | refine TW.C0 (hF := hF ) (h := ?_)|refine TW.C0 (hF := few_fs (by assumption)) (h := ?_))|(refine TW.kc 9 rfl ?_; first | refine TW.C0 (hF := awake6_fs ) (h := ?_)))|refine TW.gn (h := ?_)|(simp only [b4, r1, r2, Bool.not_false]; refine TW.nm (h := ?_)))) | refine CS.seq fun K hK => ?_|(refine CS.regl mk_msgTurned_6 (fun K0 hK0 => ?_); try dsimp only [mp_s, mp_z])|(refine CS.drawl tab mk_msgTurned_6 (fun K1 hK1 => ?_); try dsimp only [mp_s, mp_z])|(refine hK _ _ ?_; clear hK K)|(clear hK K; refine hK _ _ ?_; clear hK K)|(clear hK K; clear hK K; refine hK _ _ ?_; clear hK K)|((first | refine CS_ret ?_ | refine CS_skip ?_ | refine CS_exit ?_ | rw [if_pos rfl] | rw [if_neg (by decide)]); try dsimp only [thenR, blockR, loopR])|refine CS.blk ?_|refine CS.yes rfl ?_|refine CS.no rfl ?_|simp only [b4, r1, r2, Bool.not_false])
    exact hR0 _ _ _ (TW.fk [])
  · have r1 : (q.2 != 0) = true := by simpa using c
    repeat (first | (refine TW.tw ?_; (first | (refine TW.nil ?_; (first | (refine hK0 _ _ ?_; clear hK0 K0) | (refine hK1 _ _ _ (by kernel_rfl) ?_; clear hK1 K1)); try dsimp only [mk_msgTurned_6, thenR, blockR, loopR, mk_t, mk_f, mk_n]; try simp only [b4, r1, Int.toNat_natCast])|(refine TW.ca rfl ?_; (try simp only [b4, r1]); first | refine TW.C0 (hF := hT ) (h := ?_)|refine TW.C0 (hF := hR ) (h := ?_)|refine TW.C0 (hF := hQ ) (h := ?_)|refine TW.RC (ids := [_]) (hF := hM ) (h := ?_)|refine TW.RC (ids := [_, _]) (hF := hE ) (h := ?_)|refine TW.C0 (hF := hH ) (h := ?_)|refine TW.C0 (hF := hA ) (h := ?_)|refine TW.C0 (hF := hRr ) (h := ?_)|refine TW.C0 (hF := hN ) (h := ?_)|refine TW.C0 (hF := hF _ _ _) (h := ?_)|(refine TW.kc 18 rfl ?_; first | refine TW.C0 (hF := hS ) (h := ?_)|refine TW.C0 (hF := hS2 ) (h := ?_))|(refine TW.kc 14 rfl ?_; first | refine TW.C0 (hF := hT2 _) (h := ?_))|(refine TW.kc 13 rfl ?_; first | refine TW.C0 (hF := hT _) (h := ?_)|refine TW.C0 (hF := MTake_fs _ (by assumption) (by assumption)) (h := ?_))|(refine TW.kc 12 rfl ?_; first | refine TW.C0 (hF := hY ) (h := ?_)|refine TW.C0 (hF := hP ) (h := ?_))|(refine TW.kc 8 rfl ?_; first | refine TW.C0 (hF := hF ) (h := ?_)|refine TW.C0 (hF := few_fs (by assumption)) (h := ?_))|(refine TW.kc 9 rfl ?_; first | refine TW.C0 (hF := awake6_fs ) (h := ?_)))|refine TW.gn (h := ?_)|(simp only [b4, r1]; refine TW.nm (h := ?_)))) | refine CS.seq fun K hK => ?_|(refine CS.regl mk_msgTurned_6 (fun K0 hK0 => ?_); try dsimp only [mp_s, mp_z])|(refine CS.drawl tab mk_msgTurned_6 (fun K1 hK1 => ?_); try dsimp only [mp_s, mp_z])|(refine hK _ _ ?_; clear hK K)|(clear hK K; refine hK _ _ ?_; clear hK K)|(clear hK K; clear hK K; refine hK _ _ ?_; clear hK K)|((first | refine CS_ret ?_ | refine CS_skip ?_ | refine CS_exit ?_ | rw [if_pos rfl] | rw [if_neg (by decide)]); try dsimp only [thenR, blockR, loopR])|refine CS.blk ?_|refine CS.yes rfl ?_|refine CS.no rfl ?_|simp only [b4, r1])
    exact hR0 _ _ _ (TW.fk [])
end Go.Gh

