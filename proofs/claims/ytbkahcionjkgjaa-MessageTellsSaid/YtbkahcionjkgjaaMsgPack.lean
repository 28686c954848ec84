import Derived.Test.YtbkahcionjkgjaaMsgRight2
import Derived.Test.YtbkahcionjkgjaaReach

namespace Go.Gh
def mk_msgPack_55 : List Bool := [true, true, false, false, false, true, true, true, true, true, false, false, false, false, false, false, false, false, false]
def mk_msgPack_28 : List Bool := [true, true, false, true, false, false, false, false, false, false, false, false, false, false, false, false, false, false, false, false]
def mk_msgPack_26 : List Bool := [true, true, false, true, false, false, false, false, false, false, false, false, false, false, false, false, false, false]
def mk_msgPack_22 : List Bool := [true, true, false, true, true, false, false, true, false, false, false, false, false, false, false, false, false, false, false, false, true, false, false, false, false, false, false, false, false, false, false, false, false, false, false]
def mk_msgPack_25 : List Bool := [true, false, true, false, true, false, false, false, false, false]
open Go.Proofs
set_option linter.unusedVariables false
set_option linter.unusedSimpArgs false

/-! Layer 6: messages as bytes. -/
def vbs : List Int → List Int
  | [] => []
  | v :: l => be v 4 ++ vbs l
theorem vbs_len : ∀ l, (vbs l).length = 4 * l.length
  | [] => rfl
  | v :: l => by rw [vbs, List.length_append, be_len, vbs_len l, List.length_cons]; omega
theorem vbs_snoc : ∀ (l : List Int) (v : Int), vbs (l ++ [v]) = vbs l ++ be v 4
  | [], v => by simp [vbs]
  | x :: l, v => by rw [List.cons_append, vbs, vbs_snoc l v, vbs, List.append_assoc]
theorem vbs_byt : ∀ l, byt (vbs l)
  | [] => fun c hc => by simp [vbs] at hc
  | v :: l => byt_app (be_byt _ _) (vbs_byt l)
def rcb (r : RecV) : List Int := be r.id 8 ++ (be r.ver 8 ++ vbs r.vs)
theorem rcb_len (r : RecV) : (rcb r).length = 16 + 4 * r.vs.length := by unfold rcb; simp only [List.length_append, be_len, vbs_len]; omega
theorem rcb_byt (r : RecV) : byt (rcb r) := byt_app (be_byt _ _) (byt_app (be_byt _ _) (vbs_byt _))
def rcbs : List RecV → List Int
  | [] => []
  | r :: l => rcb r ++ rcbs l
theorem rcbs_snoc : ∀ (l : List RecV) (r : RecV), rcbs (l ++ [r]) = rcbs l ++ rcb r
  | [], r => by simp [rcbs]
  | x :: l, r => by rw [List.cons_append, rcbs, rcbs_snoc l r, rcbs, List.append_assoc]
theorem rcbs_byt : ∀ l, byt (rcbs l)
  | [] => fun c hc => by simp [rcbs] at hc
  | r :: l => byt_app (rcb_byt r) (rcbs_byt l)
theorem rcbs_len {k : Nat} : ∀ {l : List RecV}, (∀ r, r ∈ l → r.vs.length = k) → (rcbs l).length = l.length * (16 + 4 * k)
  | [], _ => by simp [rcbs]
  | r :: l, h => by rw [rcbs, List.length_append, rcb_len, rcbs_len (fun x hx => h x (List.mem_cons_of_mem _ hx)), h r (List.mem_cons_self ..), List.length_cons, Nat.add_mul, Nat.one_mul]; omega
def goneN (b : Bool) : Int := if b then 1 else 0
def entb (m : MsgV) : List Int := be (goneN m.gone) 1 ++ (rcb m.er ++ (if betk m.kind then be m.owner 4 ++ be m.turn 4 else []))
def hdb (m : MsgV) : List Int := be m.kind 1 ++ (be m.hub 1 ++ (be m.client 1 ++ (be m.op 2 ++ be m.point 4)))
def tlb (m : MsgV) : List Int := if m.kind == 5 then be m.sf 4 ++ (be m.st 4 ++ pack m.box) else if m.kind == 6 then be m.sf 4 ++ (be m.st 4 ++ (be m.recs.length 2 ++ rcbs m.recs)) else []
def mbs (m : MsgV) : List Int := hdb m ++ ((if wth m.kind 1 4 then entb m else []) ++ ((if hopk m.kind then be m.hops 1 else []) ++ tlb m))
theorem nby8' : nby 8 = 8 := by decide
theorem nby2' : nby 2 = 2 := by decide
theorem wu {v : Int} (h : 0 ≤ v ∧ v < 18446744073709551616) : IntKind.u64.wrap v = v := by rw [wrap_u64]; omega


set_option maxHeartbeats 8000000 in
theorem MVals_fs {bw : Bool} {l vs : List Int} {ex : List (List GV)} (hl : l.length ≤ 500000000) (hv : vs.length ≤ 1000000) (hu : ∀ v, v ∈ vs → u32r v) :
    FS Try.prog 55 [.adr 0 0 0, .sl bw 1 (vs.map uuG) ex] [.cells [.row 1], .row 5 1 (l.map bG)] (.tup []) [.cells [.row 2], .dead, .row 5 1 ((l ++ vbs vs).map bG)] := by
  refine FS.enterG Try.func55 rfl fun R0 hR0 => ?_
  simp only [Try.ntmps55, List.length_cons, List.length_nil, List.replicate_succ, List.replicate_zero, List.cons_append, List.nil_append, Nat.reduceAdd, Nat.reduceSub]
  repeat (first | (refine TW.tw ?_; (first | (refine TW.nil ?_; (first | (refine hK0 _ _ ?_; clear hK0 K0) | (refine hK1 _ _ _ (by kernel_rfl) ?_; clear hK1 K1)); try dsimp only [mk_msgPack_55, thenR, blockR, loopR, mk_t, mk_f, mk_n]; try simp only [List.length_map, Int.toNat_natCast])|(refine TW.ca rfl ?_; first | refine TW.C0 (hF := hF _ _ _) (h := ?_)|(refine TW.kc 20 rfl ?_; first | refine TW.C0 (hF := OPut0_fs _ _) (h := ?_)|refine TW.O1 (hF := OPutN_fs _ _ (by first | assumption | decide)) (h := ?_)|refine TW.O2 (hF := OPut_fs _ _ (by first | assumption | decide) (by first | assumption | decide | (simp only [List.length_append, be_len]; omega))) (h := ?_)))|refine TW.gn (h := ?_)|(simp only [List.length_map]; refine TW.nm (h := ?_)))) | refine CS.seq fun K hK => ?_|(refine CS.regl mk_msgPack_55 (fun K0 hK0 => ?_); try dsimp only [mp_s, mp_z])|(refine CS.drawl tab mk_msgPack_55 (fun K1 hK1 => ?_); try dsimp only [mp_s, mp_z])|(refine hK _ _ ?_; clear hK K)|(clear hK K; refine hK _ _ ?_; clear hK K)|(clear hK K; clear hK K; refine hK _ _ ?_; clear hK K)|(clear hK K; clear hK K; clear hK K; refine hK _ _ ?_; clear hK K)|((first | refine CS_ret ?_ | refine CS_skip ?_ | refine CS_exit ?_ | rw [if_pos rfl] | rw [if_neg (by decide)]); try dsimp only [thenR, blockR, loopR])|refine CS.blk ?_|refine CS.yes rfl ?_|refine CS.no rfl ?_|simp only [List.length_map])
  refine CS.ghost (GS.mv 1 rfl (GS.refl ?_))
  refine CS.lp (fun i : Nat => i ≤ vs.length)
    (fun i => ([.adr 0 0 0, .any, .any, .any, .any, .any, .sl bw 1 (vs.map uuG) ex, .lit (.int .i64 vs.length), .lit (.int .i64 i)] ++ List.replicate 10 .any))
    (fun i => [.cells [.row 2], .dead, .row 5 1 ((l ++ vbs (vs.take i)).map bG)]) (fun i => vs.length - i) 0 [0, 1, 2] [true, false, false, false, false, false, true, true, true] (by decide) rfl (Nat.zero_le _) rfl (by rw [List.take_zero, vbs, List.append_nil]; rfl) ?_
  intro i hi
  simp only [List.replicate_succ, List.replicate_zero, List.cons_append, List.nil_append]
  by_cases c : i < vs.length
  · have d := int_lt c
    have hg := map_at (f := uuG) c
    have hI0 : (0 : Int) ≤ (i : Int) := by omega
    have hI1 : (i : Int) < ((vs.map uuG).length : Int) := by simp; omega
    have ew := wrap_nat (n := i) (by omega)
    have hvi := hu _ (List.getElem_mem c)
    have ht : vbs (vs.take (i + 1)) = vbs (vs.take i) ++ be vs[i] 4 := by rw [List.take_succ_eq_append_getElem c, vbs_snoc]
    have hq1 : (l ++ vbs (vs.take i)).length ≤ 1000000000 := by rw [List.length_append, vbs_len, List.length_take]; omega
    have e4 : l ++ vbs (vs.take i) ++ be vs[i] 4 = l ++ vbs (vs.take (i + 1)) := by rw [ht, List.append_assoc]
    have m1 : vs.length - (i + 1) < vs.length - i := by omega
    generalize vs[i] = v at *
    have k0 : 0 ≤ v := hvi.1
    have wk : IntKind.u64.wrap v = v := wu (by unfold u32r at hvi; omega)
    generalize l ++ vbs (vs.take i) = X at *
    repeat (first | (refine TW.tw ?_; (first | (refine TW.nil ?_; (first | (refine hK0 _ _ ?_; clear hK0 K0) | (refine hK1 _ _ _ (by kernel_rfl) ?_; clear hK1 K1)); try dsimp only [mk_msgPack_55, thenR, blockR, loopR, mk_t, mk_f, mk_n]; try simp only [d, uuG, wk, nby4, ew, e4, Int.toNat_natCast])|(refine TW.ca rfl ?_; (try simp only [d, uuG, wk, nby4, ew, e4]); first | refine TW.C0 (hF := hF _ _ _) (h := ?_)|(refine TW.kc 20 rfl ?_; first | refine TW.C0 (hF := OPut0_fs _ _) (h := ?_)|refine TW.O1 (hF := OPutN_fs _ _ (by first | assumption | decide)) (h := ?_)|refine TW.O2 (hF := OPut_fs _ _ (by first | assumption | decide) (by first | assumption | decide | (simp only [List.length_append, be_len]; omega))) (h := ?_)))|refine TW.gn (h := ?_)|(simp only [d, uuG, wk, nby4, ew, e4]; refine TW.nm (h := ?_)))) | refine CS.seq fun K hK => ?_|(refine CS.regl mk_msgPack_55 (fun K0 hK0 => ?_); try dsimp only [mp_s, mp_z])|(refine CS.drawl tab mk_msgPack_55 (fun K1 hK1 => ?_); try dsimp only [mp_s, mp_z])|(refine hK _ _ ?_; clear hK K)|(clear hK K; refine hK _ _ ?_; clear hK K)|(clear hK K; clear hK K; refine hK _ _ ?_; clear hK K)|(clear hK K; clear hK K; clear hK K; refine hK _ _ ?_; clear hK K)|((first | refine CS_ret ?_ | refine CS_skip ?_ | refine CS_exit ?_ | rw [if_pos rfl] | rw [if_neg (by decide)]); try dsimp only [thenR, blockR, loopR])|refine CS.blk ?_|refine CS.yes rfl ?_|refine CS.no rfl ?_|simp only [d, uuG, wk, nby4, ew, e4])
    exact ⟨i + 1, [0, 1, 3], [true, false, false, false, false, false, true, true, true], c, m1, by decide, rfl, rfl, rfl⟩
  · have d := int_nlt c
    have ht : vs.take i = vs := List.take_of_length_le (by omega)
    rw [ht]
    repeat (first | (refine TW.tw ?_; (first | (refine TW.nil ?_; (first | (refine hK0 _ _ ?_; clear hK0 K0) | (refine hK1 _ _ _ (by kernel_rfl) ?_; clear hK1 K1)); try dsimp only [mk_msgPack_55, thenR, blockR, loopR, mk_t, mk_f, mk_n]; try simp only [d, Int.toNat_natCast])|(refine TW.ca rfl ?_; first | refine TW.C0 (hF := hF _ _ _) (h := ?_)|(refine TW.kc 20 rfl ?_; first | refine TW.C0 (hF := OPut0_fs _ _) (h := ?_)|refine TW.O1 (hF := OPutN_fs _ _ (by first | assumption | decide)) (h := ?_)|refine TW.O2 (hF := OPut_fs _ _ (by first | assumption | decide) (by first | assumption | decide | (simp only [List.length_append, be_len]; omega))) (h := ?_)))|refine TW.gn (h := ?_)|(simp only [d]; refine TW.nm (h := ?_)))) | refine CS.seq fun K hK => ?_|(refine CS.regl mk_msgPack_55 (fun K0 hK0 => ?_); try dsimp only [mp_s, mp_z])|(refine CS.drawl tab mk_msgPack_55 (fun K1 hK1 => ?_); try dsimp only [mp_s, mp_z])|(refine hK _ _ ?_; clear hK K)|(clear hK K; refine hK _ _ ?_; clear hK K)|(clear hK K; clear hK K; refine hK _ _ ?_; clear hK K)|(clear hK K; clear hK K; clear hK K; refine hK _ _ ?_; clear hK K)|((first | refine CS_ret ?_ | refine CS_skip ?_ | refine CS_exit ?_ | rw [if_pos rfl] | rw [if_neg (by decide)]); try dsimp only [thenR, blockR, loopR])|refine CS.blk ?_|refine CS.yes rfl ?_|refine CS.no rfl ?_|simp only [d])
    exact hR0 _ _ _ (by exact GS.refl ⟨(by first | exact .inr rfl | exact .inl rfl), _, [0, 1, 2], gresT_ok tab rfl, by decide, rfl, rfl, rfl, rfl⟩)

set_option maxHeartbeats 8000000 in
theorem MRec_fs {l : List Int} {r : RecV} (hl : l.length ≤ 400000000) (hr : RcOk r) :
    FS Try.prog 28 [.adr 0 0 0, .agg (rcG r)] [.cells [.row 1], .row 5 1 (l.map bG)] (.tup []) [.cells [.row 2], .dead, .row 5 1 ((l ++ rcb r).map bG)] := by
  refine FS.enterG Try.func28 rfl fun R0 hR0 => ?_
  simp only [Try.ntmps28, List.length_cons, List.length_nil, List.replicate_succ, List.replicate_zero, List.cons_append, List.nil_append, Nat.reduceAdd, Nat.reduceSub]
  simp only [rcG]
  have h1 := hr.id.1
  have h2 := hr.ver.1
  have h3 := hr.vs
  have h4 := hr.len
  have hq1 : l.length ≤ 1000000000 := by omega
  have hq2 : (l ++ be r.id 8).length ≤ 1000000000 := by rw [List.length_append, be_len]; omega
  have hq3 : (l ++ be r.id 8 ++ be r.ver 8).length ≤ 500000000 := by rw [List.length_append, List.length_append, be_len, be_len]; omega
  have e4 : l ++ be r.id 8 ++ be r.ver 8 ++ vbs r.vs = l ++ rcb r := by unfold rcb; simp only [List.append_assoc]
  repeat (first | (refine TW.tw ?_; (first | (refine TW.nil ?_; (first | (refine hK0 _ _ ?_; clear hK0 K0) | (refine hK1 _ _ _ (by kernel_rfl) ?_; clear hK1 K1)); try dsimp only [mk_msgPack_28, thenR, blockR, loopR, mk_t, mk_f, mk_n]; try simp only [nby8', e4, Int.toNat_natCast])|(refine TW.ca rfl ?_; (try simp only [nby8', e4]); first | refine TW.C0 (hF := hF _ _ _) (h := ?_)|(refine TW.kc 55 rfl ?_; first | refine TW.RC (ids := [_, _]) (hF := MVals_fs (by assumption) (by assumption) (by assumption)) (h := ?_))|(refine TW.kc 20 rfl ?_; first | refine TW.C0 (hF := OPut0_fs _ _) (h := ?_)|refine TW.O1 (hF := OPutN_fs _ _ (by first | assumption | decide)) (h := ?_)|refine TW.O2 (hF := OPut_fs _ _ (by first | assumption | decide) (by first | assumption | decide | (simp only [List.length_append, be_len]; omega))) (h := ?_)))|refine TW.gn (h := ?_)|(simp only [nby8', e4]; refine TW.nm (h := ?_)))) | refine CS.seq fun K hK => ?_|(refine CS.regl mk_msgPack_28 (fun K0 hK0 => ?_); try dsimp only [mp_s, mp_z])|(refine CS.drawl tab mk_msgPack_28 (fun K1 hK1 => ?_); try dsimp only [mp_s, mp_z])|(refine hK _ _ ?_; clear hK K)|(clear hK K; refine hK _ _ ?_; clear hK K)|(clear hK K; clear hK K; refine hK _ _ ?_; clear hK K)|(clear hK K; clear hK K; clear hK K; refine hK _ _ ?_; clear hK K)|((first | refine CS_ret ?_ | refine CS_skip ?_ | refine CS_exit ?_ | rw [if_pos rfl] | rw [if_neg (by decide)]); try dsimp only [thenR, blockR, loopR])|refine CS.blk ?_|refine CS.yes rfl ?_|refine CS.no rfl ?_|simp only [nby8', e4])
  exact hR0 _ _ _ (by exact GS.refl ⟨(by first | exact .inr rfl | exact .inl rfl), _, [0, 1, 5], gresT_ok tab rfl, by decide, rfl, rfl, rfl, rfl⟩)

set_option maxHeartbeats 8000000 in
theorem MSpan_fs {l : List Int} {a b : Int} (hl : l.length ≤ 400000000) (ha : u32r a) (hb : u32r b) :
    FS Try.prog 26 [.adr 0 0 0, .agg [.lit (.int .u32 a), .lit (.int .u32 b)]] [.cells [.row 1], .row 5 1 (l.map bG)] (.tup []) [.cells [.row 2], .dead, .row 5 1 ((l ++ (be a 4 ++ be b 4)).map bG)] := by
  refine FS.enterG Try.func26 rfl fun R0 hR0 => ?_
  simp only [Try.ntmps26, List.length_cons, List.length_nil, List.replicate_succ, List.replicate_zero, List.cons_append, List.nil_append, Nat.reduceAdd, Nat.reduceSub]
  have h1 := ha.1
  have h2 := hb.1
  have w1 : IntKind.u64.wrap a = a := wu (by unfold u32r at ha; omega)
  have w2 : IntKind.u64.wrap b = b := wu (by unfold u32r at hb; omega)
  have hq1 : l.length ≤ 1000000000 := by omega
  have hq2 : (l ++ be a 4).length ≤ 1000000000 := by rw [List.length_append, be_len]; omega
  have e4 : l ++ be a 4 ++ be b 4 = l ++ (be a 4 ++ be b 4) := by rw [List.append_assoc]
  repeat (first | (refine TW.tw ?_; (first | (refine TW.nil ?_; (first | (refine hK0 _ _ ?_; clear hK0 K0) | (refine hK1 _ _ _ (by kernel_rfl) ?_; clear hK1 K1)); try dsimp only [mk_msgPack_26, thenR, blockR, loopR, mk_t, mk_f, mk_n]; try simp only [w1, w2, nby4, e4, Int.toNat_natCast])|(refine TW.ca rfl ?_; (try simp only [w1, w2, nby4, e4]); first | refine TW.C0 (hF := hF _ _ _) (h := ?_)|(refine TW.kc 20 rfl ?_; first | refine TW.C0 (hF := OPut0_fs _ _) (h := ?_)|refine TW.O1 (hF := OPutN_fs _ _ (by first | assumption | decide)) (h := ?_)|refine TW.O2 (hF := OPut_fs _ _ (by first | assumption | decide) (by first | assumption | decide | (simp only [List.length_append, be_len]; omega))) (h := ?_)))|refine TW.gn (h := ?_)|(simp only [w1, w2, nby4, e4]; refine TW.nm (h := ?_)))) | refine CS.seq fun K hK => ?_|(refine CS.regl mk_msgPack_26 (fun K0 hK0 => ?_); try dsimp only [mp_s, mp_z])|(refine CS.drawl tab mk_msgPack_26 (fun K1 hK1 => ?_); try dsimp only [mp_s, mp_z])|(refine hK _ _ ?_; clear hK K)|(clear hK K; refine hK _ _ ?_; clear hK K)|(clear hK K; clear hK K; refine hK _ _ ?_; clear hK K)|(clear hK K; clear hK K; clear hK K; refine hK _ _ ?_; clear hK K)|((first | refine CS_ret ?_ | refine CS_skip ?_ | refine CS_exit ?_ | rw [if_pos rfl] | rw [if_neg (by decide)]); try dsimp only [thenR, blockR, loopR])|refine CS.blk ?_|refine CS.yes rfl ?_|refine CS.no rfl ?_|simp only [w1, w2, nby4, e4])
  exact hR0 _ _ _ (by exact GS.refl ⟨(by first | exact .inr rfl | exact .inl rfl), _, [0, 1, 4], gresT_ok tab rfl, by decide, rfl, rfl, rfl, rfl⟩)

set_option maxRecDepth 8000 in
set_option maxHeartbeats 8000000 in
theorem MEntW_fs {l : List Int} {m : MsgV} (hl : l.length ≤ 300000000) (ok : MsgOk m) (ht : 0 ≤ m.turn) (ht2 : m.turn ≤ 2147483647) :
    FS Try.prog 22 [.adr 0 0 0, .agg (msG m)] [.cells [.row 1], .row 5 1 (l.map bG)] (.tup []) [.cells [.row 2], .dead, .row 5 1 ((l ++ entb m).map bG)] := by
  refine FS.enterG Try.func22 rfl fun R0 hR0 => ?_
  simp only [Try.ntmps22, List.length_cons, List.length_nil, List.replicate_succ, List.replicate_zero, List.cons_append, List.nil_append, Nat.reduceAdd, Nat.reduceSub]
  simp only [msG]
  have k1 := ok.er
  have ho := ok.owner
  have w1 : IntKind.u64.wrap m.owner = m.owner := wu (by unfold u32r at ho; omega)
  have w2 : IntKind.u64.wrap m.turn = m.turn := wu (by omega)
  have ho1 := ho.1
  have hvl := k1.len
  cases hg : m.gone
  · have q1 : l.length ≤ 1000000000 := by omega
    have q2 : (l ++ be 0 1).length ≤ 400000000 := by rw [List.length_append, be_len]; omega
    have q3 : (l ++ be 0 1 ++ rcb m.er).length ≤ 1000000000 := by rw [List.length_append, List.length_append, be_len, rcb_len]; omega
    have q4 : (l ++ be 0 1 ++ rcb m.er ++ be m.owner 4).length ≤ 1000000000 := by simp only [List.length_append, be_len, rcb_len]; omega
    cases hb : betk m.kind
    · have e : l ++ be 0 1 ++ rcb m.er = l ++ entb m := by unfold entb; rw [hb, hg]; simp [goneN]
      repeat (first | (refine TW.tw ?_; (first | (refine TW.nil ?_; (first | (refine hK0 _ _ ?_; clear hK0 K0) | (refine hK1 _ _ _ (by kernel_rfl) ?_; clear hK1 K1)); try dsimp only [mk_msgPack_22, thenR, blockR, loopR, mk_t, mk_f, mk_n]; try simp only [nby1, hb, e, Int.toNat_natCast])|(refine TW.ca rfl ?_; (try simp only [nby1, hb, e]); first | refine TW.C0 (hF := hF _ _ _) (h := ?_)|(refine TW.kc 28 rfl ?_; first | refine TW.RC (ids := [_, _]) (hF := MRec_fs (by assumption) (by assumption)) (h := ?_))|(refine TW.kc 45 rfl ?_; first | refine TW.C0 (hF := Mbet_fs _) (h := ?_))|(refine TW.kc 20 rfl ?_; first | refine TW.C0 (hF := OPut0_fs _ _) (h := ?_)|refine TW.O1 (hF := OPutN_fs _ _ (by first | assumption | decide)) (h := ?_)|refine TW.O2 (hF := OPut_fs _ _ (by first | assumption | decide) (by first | assumption | decide | (simp only [List.length_append, be_len]; omega))) (h := ?_)))|refine TW.gn (h := ?_)|(simp only [nby1, hb, e]; refine TW.nm (h := ?_)))) | refine CS.seq fun K hK => ?_|(refine CS.regl mk_msgPack_22 (fun K0 hK0 => ?_); try dsimp only [mp_s, mp_z])|(refine CS.drawl tab mk_msgPack_22 (fun K1 hK1 => ?_); try dsimp only [mp_s, mp_z])|(refine hK _ _ ?_; clear hK K)|(clear hK K; refine hK _ _ ?_; clear hK K)|(clear hK K; clear hK K; refine hK _ _ ?_; clear hK K)|(clear hK K; clear hK K; clear hK K; refine hK _ _ ?_; clear hK K)|((first | refine CS_ret ?_ | refine CS_skip ?_ | refine CS_exit ?_ | rw [if_pos rfl] | rw [if_neg (by decide)]); try dsimp only [thenR, blockR, loopR])|refine CS.blk ?_|refine CS.yes rfl ?_|refine CS.no rfl ?_|simp only [nby1, hb, e])
      exact hR0 _ _ _ (by exact GS.refl ⟨(by first | exact .inr rfl | exact .inl rfl), _, [0, 1, 4], gresT_ok tab rfl, by decide, rfl, rfl, rfl, rfl⟩)
    · have e : l ++ be 0 1 ++ rcb m.er ++ be m.owner 4 ++ be m.turn 4 = l ++ entb m := by unfold entb; rw [hb, hg]; simp [goneN]
      repeat (first | (refine TW.tw ?_; (first | (refine TW.nil ?_; (first | (refine hK0 _ _ ?_; clear hK0 K0) | (refine hK1 _ _ _ (by kernel_rfl) ?_; clear hK1 K1)); try dsimp only [mk_msgPack_22, thenR, blockR, loopR, mk_t, mk_f, mk_n]; try simp only [nby1, nby4, hb, w1, w2, e, Int.toNat_natCast])|(refine TW.ca rfl ?_; (try simp only [nby1, nby4, hb, w1, w2, e]); first | refine TW.C0 (hF := hF _ _ _) (h := ?_)|(refine TW.kc 28 rfl ?_; first | refine TW.RC (ids := [_, _]) (hF := MRec_fs (by assumption) (by assumption)) (h := ?_))|(refine TW.kc 45 rfl ?_; first | refine TW.C0 (hF := Mbet_fs _) (h := ?_))|(refine TW.kc 20 rfl ?_; first | refine TW.C0 (hF := OPut0_fs _ _) (h := ?_)|refine TW.O1 (hF := OPutN_fs _ _ (by first | assumption | decide)) (h := ?_)|refine TW.O2 (hF := OPut_fs _ _ (by first | assumption | decide) (by first | assumption | decide | (simp only [List.length_append, be_len]; omega))) (h := ?_)))|refine TW.gn (h := ?_)|(simp only [nby1, nby4, hb, w1, w2, e]; refine TW.nm (h := ?_)))) | refine CS.seq fun K hK => ?_|(refine CS.regl mk_msgPack_22 (fun K0 hK0 => ?_); try dsimp only [mp_s, mp_z])|(refine CS.drawl tab mk_msgPack_22 (fun K1 hK1 => ?_); try dsimp only [mp_s, mp_z])|(refine hK _ _ ?_; clear hK K)|(clear hK K; refine hK _ _ ?_; clear hK K)|(clear hK K; clear hK K; refine hK _ _ ?_; clear hK K)|(clear hK K; clear hK K; clear hK K; refine hK _ _ ?_; clear hK K)|((first | refine CS_ret ?_ | refine CS_skip ?_ | refine CS_exit ?_ | rw [if_pos rfl] | rw [if_neg (by decide)]); try dsimp only [thenR, blockR, loopR])|refine CS.blk ?_|refine CS.yes rfl ?_|refine CS.no rfl ?_|simp only [nby1, nby4, hb, w1, w2, e])
      exact hR0 _ _ _ (by exact GS.refl ⟨(by first | exact .inr rfl | exact .inl rfl), _, [0, 1, 6], gresT_ok tab rfl, by decide, rfl, rfl, rfl, rfl⟩)
  · have q1 : l.length ≤ 1000000000 := by omega
    have q2 : (l ++ be 1 1).length ≤ 400000000 := by rw [List.length_append, be_len]; omega
    have q3 : (l ++ be 1 1 ++ rcb m.er).length ≤ 1000000000 := by rw [List.length_append, List.length_append, be_len, rcb_len]; omega
    have q4 : (l ++ be 1 1 ++ rcb m.er ++ be m.owner 4).length ≤ 1000000000 := by simp only [List.length_append, be_len, rcb_len]; omega
    cases hb : betk m.kind
    · have e : l ++ be 1 1 ++ rcb m.er = l ++ entb m := by unfold entb; rw [hb, hg]; simp [goneN]
      repeat (first | (refine TW.tw ?_; (first | (refine TW.nil ?_; (first | (refine hK0 _ _ ?_; clear hK0 K0) | (refine hK1 _ _ _ (by kernel_rfl) ?_; clear hK1 K1)); try dsimp only [mk_msgPack_22, thenR, blockR, loopR, mk_t, mk_f, mk_n]; try simp only [nby1, hb, e, Int.toNat_natCast])|(refine TW.ca rfl ?_; (try simp only [nby1, hb, e]); first | refine TW.C0 (hF := hF _ _ _) (h := ?_)|(refine TW.kc 28 rfl ?_; first | refine TW.RC (ids := [_, _]) (hF := MRec_fs (by assumption) (by assumption)) (h := ?_))|(refine TW.kc 45 rfl ?_; first | refine TW.C0 (hF := Mbet_fs _) (h := ?_))|(refine TW.kc 20 rfl ?_; first | refine TW.C0 (hF := OPut0_fs _ _) (h := ?_)|refine TW.O1 (hF := OPutN_fs _ _ (by first | assumption | decide)) (h := ?_)|refine TW.O2 (hF := OPut_fs _ _ (by first | assumption | decide) (by first | assumption | decide | (simp only [List.length_append, be_len]; omega))) (h := ?_)))|refine TW.gn (h := ?_)|(simp only [nby1, hb, e]; refine TW.nm (h := ?_)))) | refine CS.seq fun K hK => ?_|(refine CS.regl mk_msgPack_22 (fun K0 hK0 => ?_); try dsimp only [mp_s, mp_z])|(refine CS.drawl tab mk_msgPack_22 (fun K1 hK1 => ?_); try dsimp only [mp_s, mp_z])|(refine hK _ _ ?_; clear hK K)|(clear hK K; refine hK _ _ ?_; clear hK K)|(clear hK K; clear hK K; refine hK _ _ ?_; clear hK K)|(clear hK K; clear hK K; clear hK K; refine hK _ _ ?_; clear hK K)|((first | refine CS_ret ?_ | refine CS_skip ?_ | refine CS_exit ?_ | rw [if_pos rfl] | rw [if_neg (by decide)]); try dsimp only [thenR, blockR, loopR])|refine CS.blk ?_|refine CS.yes rfl ?_|refine CS.no rfl ?_|simp only [nby1, hb, e])
      exact hR0 _ _ _ (by exact GS.refl ⟨(by first | exact .inr rfl | exact .inl rfl), _, [0, 1, 4], gresT_ok tab rfl, by decide, rfl, rfl, rfl, rfl⟩)
    · have e : l ++ be 1 1 ++ rcb m.er ++ be m.owner 4 ++ be m.turn 4 = l ++ entb m := by unfold entb; rw [hb, hg]; simp [goneN]
      repeat (first | (refine TW.tw ?_; (first | (refine TW.nil ?_; (first | (refine hK0 _ _ ?_; clear hK0 K0) | (refine hK1 _ _ _ (by kernel_rfl) ?_; clear hK1 K1)); try dsimp only [mk_msgPack_22, thenR, blockR, loopR, mk_t, mk_f, mk_n]; try simp only [nby1, nby4, hb, w1, w2, e, Int.toNat_natCast])|(refine TW.ca rfl ?_; (try simp only [nby1, nby4, hb, w1, w2, e]); first | refine TW.C0 (hF := hF _ _ _) (h := ?_)|(refine TW.kc 28 rfl ?_; first | refine TW.RC (ids := [_, _]) (hF := MRec_fs (by assumption) (by assumption)) (h := ?_))|(refine TW.kc 45 rfl ?_; first | refine TW.C0 (hF := Mbet_fs _) (h := ?_))|(refine TW.kc 20 rfl ?_; first | refine TW.C0 (hF := OPut0_fs _ _) (h := ?_)|refine TW.O1 (hF := OPutN_fs _ _ (by first | assumption | decide)) (h := ?_)|refine TW.O2 (hF := OPut_fs _ _ (by first | assumption | decide) (by first | assumption | decide | (simp only [List.length_append, be_len]; omega))) (h := ?_)))|refine TW.gn (h := ?_)|(simp only [nby1, nby4, hb, w1, w2, e]; refine TW.nm (h := ?_)))) | refine CS.seq fun K hK => ?_|(refine CS.regl mk_msgPack_22 (fun K0 hK0 => ?_); try dsimp only [mp_s, mp_z])|(refine CS.drawl tab mk_msgPack_22 (fun K1 hK1 => ?_); try dsimp only [mp_s, mp_z])|(refine hK _ _ ?_; clear hK K)|(clear hK K; refine hK _ _ ?_; clear hK K)|(clear hK K; clear hK K; refine hK _ _ ?_; clear hK K)|(clear hK K; clear hK K; clear hK K; refine hK _ _ ?_; clear hK K)|((first | refine CS_ret ?_ | refine CS_skip ?_ | refine CS_exit ?_ | rw [if_pos rfl] | rw [if_neg (by decide)]); try dsimp only [thenR, blockR, loopR])|refine CS.blk ?_|refine CS.yes rfl ?_|refine CS.no rfl ?_|simp only [nby1, nby4, hb, w1, w2, e])
      exact hR0 _ _ _ (by exact GS.refl ⟨(by first | exact .inr rfl | exact .inl rfl), _, [0, 1, 6], gresT_ok tab rfl, by decide, rfl, rfl, rfl, rfl⟩)

theorem OBytesR_fs {l : List Int} (hl : l.length ≤ 1000000000) : FS Try.prog 25 [.adr 0 0 0] [.cells [.row 1], .row 5 1 (l.map bG)] (.row 2) [.cells [.row 1], .row 5 1 (l.map bG), .row 5 1 (l.map bG)] := by
  refine FS.enterG Try.func25 rfl fun R0 hR0 => ?_
  simp only [Try.ntmps25, List.length_cons, List.length_nil, List.replicate_succ, List.replicate_zero, List.cons_append, List.nil_append, Nat.reduceAdd, Nat.reduceSub]
  have hb : (l.map bG).length ≤ 137438953472 := by rw [List.length_map]; omega
  repeat (first | (refine TW.tw ?_; (first | (refine TW.nil ?_; (first | (refine hK0 _ _ ?_; clear hK0 K0) | (refine hK1 _ _ _ (by kernel_rfl) ?_; clear hK1 K1)); try dsimp only [mk_msgPack_25, thenR, blockR, loopR, mk_t, mk_f, mk_n])|(refine TW.ca rfl ?_; first | refine TW.C0 (hF := hF _ _ _) (h := ?_))|refine TW.gn (h := ?_))) | refine CS.seq fun K hK => ?_|(refine CS.regl mk_msgPack_25 (fun K0 hK0 => ?_); try dsimp only [mp_s, mp_z])|(refine CS.drawl tab mk_msgPack_25 (fun K1 hK1 => ?_); try dsimp only [mp_s, mp_z])|(refine hK _ _ ?_; clear hK K)|(clear hK K; refine hK _ _ ?_; clear hK K)|(clear hK K; clear hK K; refine hK _ _ ?_; clear hK K)|(clear hK K; clear hK K; clear hK K; refine hK _ _ ?_; clear hK K)|((first | refine CS_ret ?_ | refine CS_skip ?_ | refine CS_exit ?_ | rw [if_pos rfl] | rw [if_neg (by decide)]); try dsimp only [thenR, blockR, loopR])|refine CS.blk ?_|refine CS.yes rfl ?_|refine CS.no rfl ?_)
  exact hR0 _ _ _ (by exact GS.refl ⟨(by first | exact .inr rfl | exact .inl rfl), _, [0, 1, 2], gresT_ok tab rfl, by decide, rfl, rfl, rfl, rfl⟩)
set_option maxHeartbeats 4000000 in
theorem MPack1_fs {l : List Int} (hl : l.length ≤ 1000000000) :
    FS Try.prog 24 [.adr 0 0 0] [.cells [.adr 1 0 0], .cells [.row 2], .row 5 1 (l.map bG)] (.row 3) [.cells [.adr 1 0 0], .cells [.row 2], .row 5 1 (l.map bG), .row 5 1 (l.map bG)] := by
  refine FS.enterG Try.func24 rfl fun R0 hR0 => ?_
  simp only [Try.ntmps24, List.length_cons, List.length_nil, List.replicate_succ, List.replicate_zero, List.cons_append, List.nil_append, Nat.reduceAdd, Nat.reduceSub]
  repeat (first | (refine TW.tw ?_; (first | (refine TW.nil ?_; (first | (refine hK0 _ _ ?_; clear hK0 K0) | (refine hK1 _ _ _ (by kernel_rfl) ?_; clear hK1 K1)); try dsimp only [thenR, blockR, loopR, mk_t, mk_f, mk_n])|(refine TW.ca rfl ?_; first | refine TW.C0 (hF := hF _ _ _) (h := ?_)|(refine TW.kc 25 rfl ?_; first | refine TW.RC (ids := [_, _]) (hF := OBytesR_fs (by assumption)) (h := ?_)|refine TW.C0 (hF := OBytes0_fs ) (h := ?_)|refine TW.O2 (hF := OBytes_fs (by first | assumption | decide | (simp only [List.length_append, be_len]; omega))) (h := ?_)))|refine TW.gn (h := ?_))) | refine CS.seq fun K hK => ?_|(refine CS.regl [true, true, false, false, false, false] (fun K0 hK0 => ?_); try dsimp only [mp_s, mp_z])|(refine CS.drawl tab [true, true, false, false, false, false] (fun K1 hK1 => ?_); try dsimp only [mp_s, mp_z])|(refine hK _ _ ?_; clear hK K)|(clear hK K; refine hK _ _ ?_; clear hK K)|(clear hK K; clear hK K; refine hK _ _ ?_; clear hK K)|(clear hK K; clear hK K; clear hK K; refine hK _ _ ?_; clear hK K)|((first | refine CS_ret ?_ | refine CS_skip ?_ | refine CS_exit ?_ | rw [if_pos rfl] | rw [if_neg (by decide)]); try dsimp only [thenR, blockR, loopR])|refine CS.blk ?_|refine CS.yes rfl ?_|refine CS.no rfl ?_)
  exact hR0 _ _ _ (by exact GS.refl ⟨(by first | exact .inr rfl | exact .inl rfl), _, [0, 1, 2, 3], gresT_ok tab rfl, by decide, rfl, rfl, rfl, rfl⟩)
end Go.Gh

