import Derived.Test.YtbkahcionjkgjaaRefHas

namespace Go.Gh
def mk_box_74 : List Bool := [true, false, true, false, false, false, false, false, false]
def mk_box_76 : List Bool := [true, true, false, false, true, true, false, true, true, true, false, false, false, false, false, false, true, false, false]
def mk_box_72 : List Bool := [true, true, false, false, true, false, false, false, false]
def mk_box_61 : List Bool := [true, true, false, false, true, false, false, false, false, false, false, false, false, false, false, false, false, false, false, false, false, false]
open Go.Proofs
set_option linter.unusedVariables false
set_option linter.unusedSimpArgs false

/-! Layer 5: what its functions compute. -/

def rgn (k lo hi : Int) : GV := .agg [.lit (.int .i64 k), .lit (.int .u32 lo), .lit (.int .u32 hi)]
def rgc (r : Int × Int × Int) : List GV := [.lit (.int .i64 r.1), .lit (.int .u32 r.2.1), .lit (.int .u32 r.2.2)]

def bspan (k lo hi : Int) : (Int × Int) × Bool :=
  if k = 1 then ((4294967295, 4294967295), true) else if k = 2 then (((lo - 1) % 4294967296, hi), true) else ((0, 0), false)

theorem bspan_rng {k lo hi : Int} (h2 : u32r hi) : u32r (bspan k lo hi).1.1 ∧ u32r (bspan k lo hi).1.2 := by
  unfold bspan u32r at *; split
  · simp
  · split
    · simp only; omega
    · simp


def bin (k lo hi v : Int) : Bool := (bspan k lo hi).2 && hasv (bspan k lo hi).1.1 (bspan k lo hi).1.2 v


def kindv (k : Int) : Bool := decide (1 ≤ k) && decide (k ≤ 3)


theorem Bkind_fs (k : Int) : FS Try.prog 74 [.lit (.int .i64 k)] [] (.lit (.bool (kindv k))) [] := by
  refine FS.enterG Try.func74 rfl fun R0 hR0 => ?_
  simp only [Try.ntmps74, List.length_cons, List.length_nil, List.replicate_succ, List.replicate_zero, List.cons_append, List.nil_append, Nat.reduceAdd, Nat.reduceSub]
  by_cases c : 1 ≤ k
  · have d : decide (k ≥ 1) = true := decide_eq_true c
    have e : kindv k = decide (k ≤ 3) := by unfold kindv; rw [show decide (1 ≤ k) = true from decide_eq_true c]; rfl
    rw [e] at hR0
    repeat (first | (refine TW.tw ?_; (first | (refine TW.nil ?_; (first | (refine hK0 _ _ ?_; clear hK0 K0) | (refine hK1 _ _ _ (by kernel_rfl) ?_; clear hK1 K1)); try dsimp only [mk_box_74, thenR, blockR, loopR, mk_t, mk_f, mk_n]; try simp only [d, Int.toNat_natCast])|refine TW.gn (h := ?_)|(simp only [d]; refine TW.nm (h := ?_)))) | refine CS.seq fun K hK => ?_|(refine CS.regl mk_box_74 (fun K0 hK0 => ?_); try dsimp only [mp_s, mp_z])|(refine CS.drawl tab mk_box_74 (fun K1 hK1 => ?_); try dsimp only [mp_s, mp_z])|(refine hK _ _ ?_; clear hK K)|(clear hK K; refine hK _ _ ?_; clear hK K)|(clear hK K; clear hK K; refine hK _ _ ?_; clear hK K)|(clear hK K; clear hK K; clear hK K; refine hK _ _ ?_; clear hK K)|((first | refine CS_ret ?_ | refine CS_skip ?_ | refine CS_exit ?_ | rw [if_pos rfl] | rw [if_neg (by decide)]); try dsimp only [thenR, blockR, loopR])|refine CS.blk ?_|refine CS.yes rfl ?_|refine CS.no rfl ?_|simp only [d])
    exact hR0 _ _ _ (by exact GS.refl ⟨(by first | exact .inr rfl | exact .inl rfl), _, [], gresT_ok tab rfl, by decide, rfl, rfl, rfl, rfl⟩)
  · have d : decide (k ≥ 1) = false := decide_eq_false c
    have e : kindv k = false := by unfold kindv; rw [show decide (1 ≤ k) = false from decide_eq_false c]; rfl
    rw [e] at hR0
    repeat (first | (refine TW.tw ?_; (first | (refine TW.nil ?_; (first | (refine hK0 _ _ ?_; clear hK0 K0) | (refine hK1 _ _ _ (by kernel_rfl) ?_; clear hK1 K1)); try dsimp only [mk_box_74, thenR, blockR, loopR, mk_t, mk_f, mk_n]; try simp only [d, Int.toNat_natCast])|refine TW.gn (h := ?_)|(simp only [d]; refine TW.nm (h := ?_)))) | refine CS.seq fun K hK => ?_|(refine CS.regl mk_box_74 (fun K0 hK0 => ?_); try dsimp only [mp_s, mp_z])|(refine CS.drawl tab mk_box_74 (fun K1 hK1 => ?_); try dsimp only [mp_s, mp_z])|(refine hK _ _ ?_; clear hK K)|(clear hK K; refine hK _ _ ?_; clear hK K)|(clear hK K; clear hK K; refine hK _ _ ?_; clear hK K)|(clear hK K; clear hK K; clear hK K; refine hK _ _ ?_; clear hK K)|((first | refine CS_ret ?_ | refine CS_skip ?_ | refine CS_exit ?_ | rw [if_pos rfl] | rw [if_neg (by decide)]); try dsimp only [thenR, blockR, loopR])|refine CS.blk ?_|refine CS.yes rfl ?_|refine CS.no rfl ?_|simp only [d])
    exact hR0 _ _ _ (by exact GS.refl ⟨(by first | exact .inr rfl | exact .inl rfl), _, [], gresT_ok tab rfl, by decide, rfl, rfl, rfl, rfl⟩)


theorem Bright1_fs (k lo hi : Int) : FS Try.prog 73 [rgn k lo hi] [] (.lit (.bool (!kindv k))) [] := by
  refine FS.enterG Try.func73 rfl fun R0 hR0 => ?_
  simp only [Try.ntmps73, List.length_cons, List.length_nil, List.replicate_succ, List.replicate_zero, List.cons_append, List.nil_append, Nat.reduceAdd, Nat.reduceSub]
  simp only [rgn]
  repeat (first | (refine TW.tw ?_; (first | (refine TW.nil ?_; (first | (refine hK0 _ _ ?_; clear hK0 K0) | (refine hK1 _ _ _ (by kernel_rfl) ?_; clear hK1 K1)); try dsimp only [thenR, blockR, loopR, mk_t, mk_f, mk_n])|(refine TW.ca rfl ?_; first | (refine TW.kc 74 rfl ?_; first | refine TW.C0 (hF := Bkind_fs _) (h := ?_)))|refine TW.gn (h := ?_))) | refine CS.seq fun K hK => ?_|(refine CS.regl [true, true, true, false, false, false, false] (fun K0 hK0 => ?_); try dsimp only [mp_s, mp_z])|(refine CS.drawl tab [true, true, true, false, false, false, false] (fun K1 hK1 => ?_); try dsimp only [mp_s, mp_z])|(refine hK _ _ ?_; clear hK K)|(clear hK K; refine hK _ _ ?_; clear hK K)|(clear hK K; clear hK K; refine hK _ _ ?_; clear hK K)|(clear hK K; clear hK K; clear hK K; refine hK _ _ ?_; clear hK K)|((first | refine CS_ret ?_ | refine CS_skip ?_ | refine CS_exit ?_ | rw [if_pos rfl] | rw [if_neg (by decide)]); try dsimp only [thenR, blockR, loopR])|refine CS.blk ?_|refine CS.yes rfl ?_|refine CS.no rfl ?_)
  exact hR0 _ _ _ (by exact GS.refl ⟨(by first | exact .inr rfl | exact .inl rfl), _, [], gresT_ok tab rfl, by decide, rfl, rfl, rfl, rfl⟩)


def emptyv (k : Int) : Bool := !(k == 1) && !(k == 2)

def idxv (p : Int → Bool) : List (Int × Int × Int) → Int
  | [] => -1
  | r :: l => if p r.1 then 0 else if idxv p l = -1 then -1 else idxv p l + 1

theorem idxv_ge (p : Int → Bool) : ∀ l, -1 ≤ idxv p l
  | [] => by simp [idxv]
  | r :: l => by have := idxv_ge p l; rw [idxv]; split <;> (try split) <;> omega

theorem idxv_any (p : Int → Bool) : ∀ l, decide (idxv p l ≥ 0) = l.any (fun r => p r.1)
  | [] => by simp [idxv]
  | r :: l => by
    have h1 := idxv_ge p l
    have h2 := idxv_any p l
    rw [idxv, List.any_cons]
    cases hp : p r.1
    · simp only [Bool.false_or, ← h2]
      rw [if_neg (by simp)]
      split
      · rename_i h; rw [h]
      · rw [decide_eq_decide]; omega
    · simp

/-- Past all that aren't so. -/
def idxAt (p : Int → Bool) (l : List (Int × Int × Int)) (i : Nat) : Prop := idxv p l = if idxv p (l.drop i) = -1 then -1 else idxv p (l.drop i) + i


set_option maxHeartbeats 4000000 in
theorem BIdxRight_fs {bw : Bool} {l : List (Int × Int × Int)} {ex : List (List GV)} (hl : l.length ≤ 1000000000000) : FS Try.prog 76 [.sl bw 3 (l.map rgc) ex, .lit (.func (.func 73) #[] #[])] [] (.lit (.int .i64 (idxv (if "Right" = "Right" then (fun k => !kindv k) else emptyv) l))) [] := by
  obtain ⟨p, hp⟩ : ∃ p, p = (if "Right" = "Right" then (fun k => !kindv k) else emptyv) := ⟨_, rfl⟩
  rw [← hp]
  have hF : ∀ k lo hi, FS Try.prog 73 [rgn k lo hi] [] (.lit (.bool (p k))) [] := fun k lo hi => by
    rw [hp]; first | exact Bright1_fs k lo hi | exact Bempty1_fs k lo hi
  refine FS.enterG Try.func76 rfl fun R0 hR0 => ?_
  simp only [Try.ntmps76, List.length_cons, List.length_nil, List.replicate_succ, List.replicate_zero, List.cons_append, List.nil_append, Nat.reduceAdd, Nat.reduceSub]
  repeat (first | (refine TW.tw ?_; (first | (refine TW.nil ?_; (first | (refine hK0 _ _ ?_; clear hK0 K0) | (refine hK1 _ _ _ (by kernel_rfl) ?_; clear hK1 K1)); try dsimp only [mk_box_76, thenR, blockR, loopR, mk_t, mk_f, mk_n])|(refine TW.ca rfl ?_; first | refine TW.C0 (hF := hF _ _ _) (h := ?_)|(refine TW.kc 74 rfl ?_; first | refine TW.C0 (hF := Bkind_fs _) (h := ?_)))|refine TW.gn (h := ?_))) | refine CS.seq fun K hK => ?_|(refine CS.regl mk_box_76 (fun K0 hK0 => ?_); try dsimp only [mp_s, mp_z])|(refine CS.drawl tab mk_box_76 (fun K1 hK1 => ?_); try dsimp only [mp_s, mp_z])|(refine hK _ _ ?_; clear hK K)|(clear hK K; refine hK _ _ ?_; clear hK K)|(clear hK K; clear hK K; refine hK _ _ ?_; clear hK K)|(clear hK K; clear hK K; clear hK K; refine hK _ _ ?_; clear hK K)|((first | refine CS_ret ?_ | refine CS_skip ?_ | refine CS_exit ?_ | rw [if_pos rfl] | rw [if_neg (by decide)]); try dsimp only [thenR, blockR, loopR])|refine CS.blk ?_|refine CS.yes rfl ?_|refine CS.no rfl ?_)
  refine CS.lp (fun i : Nat => i ≤ l.length ∧ idxAt p l i)
    (fun i => ([.sl bw 3 (l.map rgc) ex, .lit (.func (.func 73) #[] #[]), .any, .any, .any, .any, .any, .lit (.int .i64 (l.map rgc).length), .lit (.int .i64 i)] ++ List.replicate 10 .any))
    (fun _ => []) (fun i => l.length - i) 0 [] [true, true, false, false, false, false, false, true, true] (by decide) rfl ⟨Nat.zero_le _, by unfold idxAt; simp⟩ rfl rfl ?_
  rintro i ⟨hi1, hi2⟩
  simp only [List.length_map, List.replicate_succ, List.replicate_zero, List.cons_append, List.nil_append]
  unfold idxAt at hi2
  by_cases c : i < l.length
  · have d := int_lt c
    have hg := map_at (f := rgc) c
    have hI0 : (0 : Int) ≤ (i : Int) := by omega
    have hI1 : (i : Int) < ((l.map rgc).length : Int) := by simp; omega
    have ew := wrap_nat (n := i) (by omega)
    rw [drop_at c, idxv] at hi2
    cases hk : p l[i].1
    · rw [hk] at hi2
      repeat (first | (refine TW.tw ?_; (first | (refine TW.nil ?_; (first | (refine hK0 _ _ ?_; clear hK0 K0) | (refine hK1 _ _ _ (by kernel_rfl) ?_; clear hK1 K1)); try dsimp only [mk_box_76, thenR, blockR, loopR, mk_t, mk_f, mk_n]; try simp only [d, rgc, ew, hk, Int.toNat_natCast])|(refine TW.ca rfl ?_; first | refine TW.C0 (hF := hF _ _ _) (h := ?_)|(refine TW.kc 74 rfl ?_; first | refine TW.C0 (hF := Bkind_fs _) (h := ?_)))|refine TW.gn (h := ?_)|(simp only [d, rgc, ew, hk]; refine TW.nm (h := ?_)))) | refine CS.seq fun K hK => ?_|(refine CS.regl mk_box_76 (fun K0 hK0 => ?_); try dsimp only [mp_s, mp_z])|(refine CS.drawl tab mk_box_76 (fun K1 hK1 => ?_); try dsimp only [mp_s, mp_z])|(refine hK _ _ ?_; clear hK K)|(clear hK K; refine hK _ _ ?_; clear hK K)|(clear hK K; clear hK K; refine hK _ _ ?_; clear hK K)|(clear hK K; clear hK K; clear hK K; refine hK _ _ ?_; clear hK K)|((first | refine CS_ret ?_ | refine CS_skip ?_ | refine CS_exit ?_ | rw [if_pos rfl] | rw [if_neg (by decide)]); try dsimp only [thenR, blockR, loopR])|refine CS.blk ?_|refine CS.yes rfl ?_|refine CS.no rfl ?_|simp only [d, rgc, ew, hk])
      refine ⟨i + 1, [], [true, true, false, false, false, false, false, true, true], ⟨c, ?_⟩, by show l.length - (i + 1) < l.length - i; omega, by decide, rfl, rfl, rfl⟩
      unfold idxAt
      have := idxv_ge p (l.drop (i + 1))
      rw [hi2]
      simp only [Bool.false_eq_true, if_false]
      split
      · rfl
      · rw [if_neg (by omega)]; omega
    · rw [hk] at hi2
      simp only [if_true] at hi2
      rw [if_neg (by decide), Int.zero_add] at hi2
      rw [hi2] at hR0
      repeat (first | (refine TW.tw ?_; (first | (refine TW.nil ?_; (first | (refine hK0 _ _ ?_; clear hK0 K0) | (refine hK1 _ _ _ (by kernel_rfl) ?_; clear hK1 K1)); try dsimp only [mk_box_76, thenR, blockR, loopR, mk_t, mk_f, mk_n]; try simp only [d, rgc, ew, hk, Int.toNat_natCast])|(refine TW.ca rfl ?_; first | refine TW.C0 (hF := hF _ _ _) (h := ?_)|(refine TW.kc 74 rfl ?_; first | refine TW.C0 (hF := Bkind_fs _) (h := ?_)))|refine TW.gn (h := ?_)|(simp only [d, rgc, ew, hk]; refine TW.nm (h := ?_)))) | refine CS.seq fun K hK => ?_|(refine CS.regl mk_box_76 (fun K0 hK0 => ?_); try dsimp only [mp_s, mp_z])|(refine CS.drawl tab mk_box_76 (fun K1 hK1 => ?_); try dsimp only [mp_s, mp_z])|(refine hK _ _ ?_; clear hK K)|(clear hK K; refine hK _ _ ?_; clear hK K)|(clear hK K; clear hK K; refine hK _ _ ?_; clear hK K)|(clear hK K; clear hK K; clear hK K; refine hK _ _ ?_; clear hK K)|((first | refine CS_ret ?_ | refine CS_skip ?_ | refine CS_exit ?_ | rw [if_pos rfl] | rw [if_neg (by decide)]); try dsimp only [thenR, blockR, loopR])|refine CS.blk ?_|refine CS.yes rfl ?_|refine CS.no rfl ?_|simp only [d, rgc, ew, hk])
      exact hR0 _ _ _ (by exact GS.refl ⟨(by first | exact .inr rfl | exact .inl rfl), _, [], gresT_ok tab rfl, by decide, rfl, rfl, rfl, rfl⟩)
  · have d := int_nlt c
    rw [drop_end c, idxv, if_pos rfl] at hi2
    rw [hi2] at hR0
    repeat (first | (refine TW.tw ?_; (first | (refine TW.nil ?_; (first | (refine hK0 _ _ ?_; clear hK0 K0) | (refine hK1 _ _ _ (by kernel_rfl) ?_; clear hK1 K1)); try dsimp only [mk_box_76, thenR, blockR, loopR, mk_t, mk_f, mk_n]; try simp only [d, Int.toNat_natCast])|(refine TW.ca rfl ?_; first | refine TW.C0 (hF := hF _ _ _) (h := ?_)|(refine TW.kc 74 rfl ?_; first | refine TW.C0 (hF := Bkind_fs _) (h := ?_)))|refine TW.gn (h := ?_)|(simp only [d]; refine TW.nm (h := ?_)))) | refine CS.seq fun K hK => ?_|(refine CS.regl mk_box_76 (fun K0 hK0 => ?_); try dsimp only [mp_s, mp_z])|(refine CS.drawl tab mk_box_76 (fun K1 hK1 => ?_); try dsimp only [mp_s, mp_z])|(refine hK _ _ ?_; clear hK K)|(clear hK K; refine hK _ _ ?_; clear hK K)|(clear hK K; clear hK K; refine hK _ _ ?_; clear hK K)|(clear hK K; clear hK K; clear hK K; refine hK _ _ ?_; clear hK K)|((first | refine CS_ret ?_ | refine CS_skip ?_ | refine CS_exit ?_ | rw [if_pos rfl] | rw [if_neg (by decide)]); try dsimp only [thenR, blockR, loopR])|refine CS.blk ?_|refine CS.yes rfl ?_|refine CS.no rfl ?_|simp only [d])
    exact hR0 _ _ _ (by exact GS.refl ⟨(by first | exact .inr rfl | exact .inl rfl), _, [], gresT_ok tab rfl, by decide, rfl, rfl, rfl, rfl⟩)

set_option maxHeartbeats 4000000 in
theorem BAnyRight_fs {bw : Bool} {l : List (Int × Int × Int)} {ex : List (List GV)} (hl : l.length ≤ 1000000000000) : FS Try.prog 72 [.sl bw 3 (l.map rgc) ex, .lit (.func (.func 73) #[] #[])] [] (.lit (.bool (l.any (fun r => (if "Right" = "Right" then (fun k => !kindv k) else emptyv) r.1)))) [] := by
  refine FS.enterG Try.func72 rfl fun R0 hR0 => ?_
  simp only [Try.ntmps72, List.length_cons, List.length_nil, List.replicate_succ, List.replicate_zero, List.cons_append, List.nil_append, Nat.reduceAdd, Nat.reduceSub]
  rw [← idxv_any] at hR0
  repeat (first | (refine TW.tw ?_; (first | (refine TW.nil ?_; (first | (refine hK0 _ _ ?_; clear hK0 K0) | (refine hK1 _ _ _ (by kernel_rfl) ?_; clear hK1 K1)); try dsimp only [mk_box_72, thenR, blockR, loopR, mk_t, mk_f, mk_n])|(refine TW.ca rfl ?_; first | refine TW.C0 (hF := hF _ _ _) (h := ?_)|(refine TW.kc 76 rfl ?_; first | refine TW.C0 (hF := BIdxRight_fs hl) (h := ?_)))|refine TW.gn (h := ?_))) | refine CS.seq fun K hK => ?_|(refine CS.regl mk_box_72 (fun K0 hK0 => ?_); try dsimp only [mp_s, mp_z])|(refine CS.drawl tab mk_box_72 (fun K1 hK1 => ?_); try dsimp only [mp_s, mp_z])|(refine hK _ _ ?_; clear hK K)|(clear hK K; refine hK _ _ ?_; clear hK K)|(clear hK K; clear hK K; refine hK _ _ ?_; clear hK K)|(clear hK K; clear hK K; clear hK K; refine hK _ _ ?_; clear hK K)|((first | refine CS_ret ?_ | refine CS_skip ?_ | refine CS_exit ?_ | rw [if_pos rfl] | rw [if_neg (by decide)]); try dsimp only [thenR, blockR, loopR])|refine CS.blk ?_|refine CS.yes rfl ?_|refine CS.no rfl ?_)
  exact hR0 _ _ _ (by exact GS.refl ⟨(by first | exact .inr rfl | exact .inl rfl), _, [], gresT_ok tab rfl, by decide, rfl, rfl, rfl, rfl⟩)

def rightv (n : Int) (l : List (Int × Int × Int)) : Bool := decide (1 ≤ n) && decide (n ≤ 8) && ((l.length : Int) == n) && !(l.any fun r => !kindv r.1)


set_option maxHeartbeats 4000000 in
theorem BRight_fs {bw : Bool} {l : List (Int × Int × Int)} {ex : List (List GV)} (n : Int) (hl : l.length ≤ 1000000000000) : FS Try.prog 61 [.lit (.int .i64 n), .sl bw 3 (l.map rgc) ex] [] (.lit (.bool (rightv n l))) [] := by
  refine FS.enterG Try.func61 rfl fun R0 hR0 => ?_
  simp only [Try.ntmps61, List.length_cons, List.length_nil, List.replicate_succ, List.replicate_zero, List.cons_append, List.nil_append, Nat.reduceAdd, Nat.reduceSub]
  unfold rightv at hR0
  cases d1 : decide (1 ≤ n)
  · have d1' : decide (n ≥ 1) = false := d1
    rw [d1] at hR0
    repeat (first | (refine TW.tw ?_; (first | (refine TW.nil ?_; (first | (refine hK0 _ _ ?_; clear hK0 K0) | (refine hK1 _ _ _ (by kernel_rfl) ?_; clear hK1 K1)); try dsimp only [mk_box_61, thenR, blockR, loopR, mk_t, mk_f, mk_n]; try simp only [d1', Int.toNat_natCast])|(refine TW.ca rfl ?_; first | refine TW.C0 (hF := hF _ _ _) (h := ?_)|(refine TW.kc 72 rfl ?_; first | refine TW.C0 (hF := BAnyRight_fs hl) (h := ?_)))|refine TW.gn (h := ?_)|(simp only [d1']; refine TW.nm (h := ?_)))) | refine CS.seq fun K hK => ?_|(refine CS.regl mk_box_61 (fun K0 hK0 => ?_); try dsimp only [mp_s, mp_z])|(refine CS.drawl tab mk_box_61 (fun K1 hK1 => ?_); try dsimp only [mp_s, mp_z])|(refine hK _ _ ?_; clear hK K)|(clear hK K; refine hK _ _ ?_; clear hK K)|(clear hK K; clear hK K; refine hK _ _ ?_; clear hK K)|(clear hK K; clear hK K; clear hK K; refine hK _ _ ?_; clear hK K)|((first | refine CS_ret ?_ | refine CS_skip ?_ | refine CS_exit ?_ | rw [if_pos rfl] | rw [if_neg (by decide)]); try dsimp only [thenR, blockR, loopR])|refine CS.blk ?_|refine CS.yes rfl ?_|refine CS.no rfl ?_|simp only [d1'])
    exact hR0 _ _ _ (by exact GS.refl ⟨(by first | exact .inr rfl | exact .inl rfl), _, [], gresT_ok tab rfl, by decide, rfl, rfl, rfl, rfl⟩)
  · have d1' : decide (n ≥ 1) = true := d1
    cases d2 : decide (n ≤ 8)
    · rw [d1, d2] at hR0
      repeat (first | (refine TW.tw ?_; (first | (refine TW.nil ?_; (first | (refine hK0 _ _ ?_; clear hK0 K0) | (refine hK1 _ _ _ (by kernel_rfl) ?_; clear hK1 K1)); try dsimp only [mk_box_61, thenR, blockR, loopR, mk_t, mk_f, mk_n]; try simp only [d1', d2, Int.toNat_natCast])|(refine TW.ca rfl ?_; first | refine TW.C0 (hF := hF _ _ _) (h := ?_)|(refine TW.kc 72 rfl ?_; first | refine TW.C0 (hF := BAnyRight_fs hl) (h := ?_)))|refine TW.gn (h := ?_)|(simp only [d1', d2]; refine TW.nm (h := ?_)))) | refine CS.seq fun K hK => ?_|(refine CS.regl mk_box_61 (fun K0 hK0 => ?_); try dsimp only [mp_s, mp_z])|(refine CS.drawl tab mk_box_61 (fun K1 hK1 => ?_); try dsimp only [mp_s, mp_z])|(refine hK _ _ ?_; clear hK K)|(clear hK K; refine hK _ _ ?_; clear hK K)|(clear hK K; clear hK K; refine hK _ _ ?_; clear hK K)|(clear hK K; clear hK K; clear hK K; refine hK _ _ ?_; clear hK K)|((first | refine CS_ret ?_ | refine CS_skip ?_ | refine CS_exit ?_ | rw [if_pos rfl] | rw [if_neg (by decide)]); try dsimp only [thenR, blockR, loopR])|refine CS.blk ?_|refine CS.yes rfl ?_|refine CS.no rfl ?_|simp only [d1', d2])
      exact hR0 _ _ _ (by exact GS.refl ⟨(by first | exact .inr rfl | exact .inl rfl), _, [], gresT_ok tab rfl, by decide, rfl, rfl, rfl, rfl⟩)
    · cases d3 : ((l.length : Int) == n)
      · have d3' : (((l.map rgc).length : Int) == n) = false := by rw [List.length_map]; exact d3
        rw [d1, d2, d3] at hR0
        repeat (first | (refine TW.tw ?_; (first | (refine TW.nil ?_; (first | (refine hK0 _ _ ?_; clear hK0 K0) | (refine hK1 _ _ _ (by kernel_rfl) ?_; clear hK1 K1)); try dsimp only [mk_box_61, thenR, blockR, loopR, mk_t, mk_f, mk_n]; try simp only [d1', d2, d3', Int.toNat_natCast])|(refine TW.ca rfl ?_; first | refine TW.C0 (hF := hF _ _ _) (h := ?_)|(refine TW.kc 72 rfl ?_; first | refine TW.C0 (hF := BAnyRight_fs hl) (h := ?_)))|refine TW.gn (h := ?_)|(simp only [d1', d2, d3']; refine TW.nm (h := ?_)))) | refine CS.seq fun K hK => ?_|(refine CS.regl mk_box_61 (fun K0 hK0 => ?_); try dsimp only [mp_s, mp_z])|(refine CS.drawl tab mk_box_61 (fun K1 hK1 => ?_); try dsimp only [mp_s, mp_z])|(refine hK _ _ ?_; clear hK K)|(clear hK K; refine hK _ _ ?_; clear hK K)|(clear hK K; clear hK K; refine hK _ _ ?_; clear hK K)|(clear hK K; clear hK K; clear hK K; refine hK _ _ ?_; clear hK K)|((first | refine CS_ret ?_ | refine CS_skip ?_ | refine CS_exit ?_ | rw [if_pos rfl] | rw [if_neg (by decide)]); try dsimp only [thenR, blockR, loopR])|refine CS.blk ?_|refine CS.yes rfl ?_|refine CS.no rfl ?_|simp only [d1', d2, d3'])
        exact hR0 _ _ _ (by exact GS.refl ⟨(by first | exact .inr rfl | exact .inl rfl), _, [], gresT_ok tab rfl, by decide, rfl, rfl, rfl, rfl⟩)
      · have d3' : (((l.map rgc).length : Int) == n) = true := by rw [List.length_map]; exact d3
        rw [d1, d2, d3] at hR0
        repeat (first | (refine TW.tw ?_; (first | (refine TW.nil ?_; (first | (refine hK0 _ _ ?_; clear hK0 K0) | (refine hK1 _ _ _ (by kernel_rfl) ?_; clear hK1 K1)); try dsimp only [mk_box_61, thenR, blockR, loopR, mk_t, mk_f, mk_n]; try simp only [d1', d2, d3', String.reduceEq, if_true, Bool.and_true, Bool.true_and, Int.toNat_natCast])|(refine TW.ca rfl ?_; first | refine TW.C0 (hF := hF _ _ _) (h := ?_)|(refine TW.kc 72 rfl ?_; first | refine TW.C0 (hF := BAnyRight_fs hl) (h := ?_)))|refine TW.gn (h := ?_)|(simp only [d1', d2, d3', String.reduceEq, if_true, Bool.and_true, Bool.true_and]; refine TW.nm (h := ?_)))) | refine CS.seq fun K hK => ?_|(refine CS.regl mk_box_61 (fun K0 hK0 => ?_); try dsimp only [mp_s, mp_z])|(refine CS.drawl tab mk_box_61 (fun K1 hK1 => ?_); try dsimp only [mp_s, mp_z])|(refine hK _ _ ?_; clear hK K)|(clear hK K; refine hK _ _ ?_; clear hK K)|(clear hK K; clear hK K; refine hK _ _ ?_; clear hK K)|(clear hK K; clear hK K; clear hK K; refine hK _ _ ?_; clear hK K)|((first | refine CS_ret ?_ | refine CS_skip ?_ | refine CS_exit ?_ | rw [if_pos rfl] | rw [if_neg (by decide)]); try dsimp only [thenR, blockR, loopR])|refine CS.blk ?_|refine CS.yes rfl ?_|refine CS.no rfl ?_|simp only [d1', d2, d3', String.reduceEq, if_true, Bool.and_true, Bool.true_and])
        exact hR0 _ _ _ (by exact GS.refl ⟨(by first | exact .inr rfl | exact .inl rfl), _, [], gresT_ok tab rfl, by decide, rfl, rfl, rfl, rfl⟩)

theorem BRight1_fs {bw : Bool} {k lo hi : Int} {ex : List (List GV)} (n : Int) : FS Try.prog 61 [.lit (.int .i64 n), .sl bw 3 [[.lit (.int .i64 k), .lit (.int .u32 lo), .lit (.int .u32 hi)]] ex] [] (.lit (.bool (rightv n [(k, lo, hi)]))) [] :=
  BRight_fs (l := [(k, lo, hi)]) n (by simp)

end Go.Gh

