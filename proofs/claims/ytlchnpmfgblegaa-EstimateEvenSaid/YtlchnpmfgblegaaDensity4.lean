import Derived.Test.YtlchnpmfgblegaaDensity3

namespace Go.Gh
open Go.Proofs
set_option linter.unusedVariables false

/-! Layer 14, plain: what a bucket and a span share, as one sum. -/

def pos (a : Int) : Int := if a < 0 then 0 else a
/-- How much of [0, sz) lies in [frm, to), where to may go round once. -/
def ov (sz frm to : Int) : Int := pos (imin sz to - imin sz frm) + pos (imin sz (to - 4294967296))
theorem size_shift {f x y : Int} (h0 : 0 ≤ x) (h1 : x < y) (h2 : y ≤ 4294967295) : size (shift f (x, y)).1 (shift f (x, y)).2 = y - x := by
  unfold shift size far; simp only; split <;> omega

theorem ssum_meet {a1 a2 b1 b2 : Int} (hb1 : u32r b1) (hb2 : u32r b2) (hs : size a1 a2 = 268435456) :
    ssum (meet a1 a2 b1 b2) = ov 268435456 (far a1 b1) (far a1 b1 + size b1 b2) := by
  have r := far_range a1 b1
  have r2 := size_pos hb1 hb2
  have r3 := size_rng b1 b2
  unfold meet runs
  rw [hs]
  generalize far a1 b1 = frm at *
  generalize size b1 b2 = sb at *
  unfold runs0 ov pos imin
  by_cases c1 : frm + sb > 4294967296
  · by_cases c2 : frm < 268435456
    · simp only [c1, c2, if_true, List.cons_append, List.nil_append, glue]
      by_cases c3 : (if 268435456 < frm + sb - 4294967296 then 268435456 else frm + sb - 4294967296) ≥ frm
      · rw [if_pos c3]
        simp only [List.map_cons, List.map_nil, ssum]
        rw [size_shift (by omega) (by (repeat' split) <;> omega) (by (repeat' split) <;> omega)]
        (repeat' split) <;> omega
      · rw [if_neg c3]
        simp only [List.map_cons, List.map_nil, ssum]
        rw [size_shift (by omega) (by (repeat' split) <;> omega) (by (repeat' split) <;> omega), size_shift (by omega) (by (repeat' split) <;> omega) (by (repeat' split) <;> omega)]
        (repeat' split) <;> omega
    · simp only [c1, c2, if_true, if_false, List.cons_append, List.nil_append, glue, List.map_cons, List.map_nil, ssum]
      rw [size_shift (by omega) (by (repeat' split) <;> omega) (by (repeat' split) <;> omega)]
      (repeat' split) <;> omega
  · by_cases c2 : frm < 268435456
    · simp only [c1, c2, if_true, if_false, List.cons_append, List.nil_append, glue, List.map_cons, List.map_nil, ssum]
      rw [size_shift (by omega) (by (repeat' split) <;> omega) (by (repeat' split) <;> omega)]
      (repeat' split) <;> omega
    · simp only [c1, c2, if_false, List.nil_append, glue, List.map_nil, ssum]
      (repeat' split) <;> omega

theorem imin_l {a b : Int} (h : a ≤ b) : imin a b = a := by unfold imin; split <;> omega
theorem imin_r {a b : Int} (h : b ≤ a) : imin a b = b := by unfold imin; split <;> omega
theorem pos_n {a : Int} (h : a ≤ 0) : pos a = 0 := by unfold pos; split <;> omega
theorem pos_p {a : Int} (h : 0 ≤ a) : pos a = a := by unfold pos; split <;> omega
theorem imin_mono (a : Int) {b c : Int} (h : b ≤ c) : imin a b ≤ imin a c := by unfold imin; split <;> split <;> omega

/-- A run that does not go round. -/
theorem ov_lo {K x y : Int} (hK : 0 ≤ K) (h : x ≤ y) (h2 : y ≤ 4294967296) : ov K x y = imin K y - imin K x := by
  unfold ov
  have m := imin_mono K h
  rw [pos_p (by omega)]
  have : pos (imin K (y - 4294967296)) = 0 := pos_n (by unfold imin; split <;> omega)
  omega
/-- A run that goes round. -/
theorem ov_hi {K x y : Int} (hK : 0 ≤ K) (hx : x ≤ 4294967296) (hK2 : K ≤ 4294967296) (h : 4294967296 ≤ y) : ov K x y = K - imin K x + imin K (y - 4294967296) := by
  unfold ov
  have m : imin K x ≤ K := by unfold imin; split <;> omega
  have m2 : 0 ≤ imin K (y - 4294967296) := by unfold imin; split <;> omega
  rw [imin_l (a := K) (b := y) (by omega), pos_p (by omega), pos_p m2]

/-- Where a span ends, seen from a value. -/
theorem far_add {a b1 b2 : Int} (ha : u32r a) (h1 : u32r b1) (h2 : u32r b2) :
    (far a b1 + size b1 b2 = far a b2 ∧ b1 ≠ b2) ∨ far a b1 + size b1 b2 = far a b2 + 4294967296 := by
  unfold size far u32r at *; split <;> omega

theorem ov_two {a b1 b2 : Int} (ha : u32r a) (h1 : u32r b1) (h2 : u32r b2) (h : b1 ≠ b2) :
    ov 268435456 (far a b1) (far a b1 + size b1 b2) + ov 268435456 (far a b2) (far a b2 + size b2 b1) = 268435456 := by
  have e1 : size b1 b2 = far b1 b2 := by unfold size; rw [if_neg h]
  have e2 : size b2 b1 = far b2 b1 := by unfold size; rw [if_neg (Ne.symm h)]
  rw [e1, e2]
  have c1 : far b1 b2 + far b2 b1 = 4294967296 := by unfold far; unfold u32r at *; omega
  have c2 : far a b1 + far b1 b2 = far a b2 ∨ far a b1 + far b1 b2 = far a b2 + 4294967296 := by unfold far; unfold u32r at *; omega
  have r1 := far_range a b1
  have r2 := far_range a b2
  have r3 := far_range b1 b2
  have r4 := far_range b2 b1
  generalize far a b1 = x at *
  generalize far a b2 = y at *
  generalize far b1 b2 = z at *
  generalize far b2 b1 = w at *
  rcases c2 with c | c
  · rw [ov_lo (by decide) (by omega) (by omega), ov_hi (by decide) (by omega) (by decide) (by omega), c, show y + w - 4294967296 = x by omega]; omega
  · rw [ov_hi (by decide) (by omega) (by decide) (by omega), ov_lo (by decide) (by omega) (by omega), c, show y + 4294967296 - 4294967296 = y by omega, show y + w = x by omega]; omega

/-- A bucket's beginning. -/
def bfrom (k : Nat) : Int := ((k : Int) * 268435456 - 1) % 4294967296
theorem bfrom_u32 (k : Nat) : u32r (bfrom k) := by unfold u32r bfrom; omega
theorem bsize {k : Nat} (hk : k < 16) : size (bfrom k) (((k : Int) * 268435456 + 268435455) % 4294967296) = 268435456 := by
  unfold size far bfrom; split <;> omega
theorem share_ov {b1 b2 : Int} (h1 : u32r b1) (h2 : u32r b2) {k : Nat} (hk : k < 16) : share b1 b2 k = ov 268435456 (far (bfrom k) b1) (far (bfrom k) b1 + size b1 b2) :=
  ssum_meet h1 h2 (bsize hk)
theorem share_rg {b1 b2 : Int} (h1 : u32r b1) (h2 : u32r b2) {k : Nat} (hk : k < 16) : 0 ≤ share b1 b2 k ∧ share b1 b2 k ≤ 268435456 := by
  rw [share_ov h1 h2 hk]
  have r1 := far_range (bfrom k) b1
  have r2 := far_range (bfrom k) b2
  have r3 := size_pos h1 h2
  rcases far_add (bfrom_u32 k) h1 h2 with ⟨c, _⟩ | c
  · rw [ov_lo (by decide) (by omega) (by omega)]; unfold imin; (repeat' split) <;> omega
  · have r4 := size_rng b1 b2
    rw [ov_hi (by decide) (by omega) (by decide) (by omega)]; unfold imin; (repeat' split) <;> omega
theorem share_two {b1 b2 : Int} (h1 : u32r b1) (h2 : u32r b2) (h : b1 ≠ b2) {k : Nat} (hk : k < 16) : share b1 b2 k + share b2 b1 k = 268435456 := by
  rw [share_ov h1 h2 hk, share_ov h2 h1 hk]; exact ov_two (bfrom_u32 k) h1 h2 h
theorem share_all {b : Int} (h : u32r b) {k : Nat} (hk : k < 16) : share b b k = 268435456 := by
  rw [share_ov h h hk]
  have r1 := far_range (bfrom k) b
  have e : size b b = 4294967296 := by unfold size; rw [if_pos rfl]
  rw [e, ov_hi (by decide) (by omega) (by decide) (by omega), show far (bfrom k) b + 4294967296 - 4294967296 = far (bfrom k) b by omega]; omega

/-- In which bucket a value is. -/
theorem far_bucket {b : Int} (h : u32r b) {k : Nat} (hk : k < 16) (hb : b / 268435456 ≠ k) : far (bfrom k) b = 0 ∨ 268435456 < far (bfrom k) b := by
  unfold far bfrom u32r at *; omega
theorem share_cut {b1 b2 : Int} (h1 : u32r b1) (h2 : u32r b2) {k : Nat} (hk : k < 16) (n1 : b1 / 268435456 ≠ k) (n2 : b2 / 268435456 ≠ k) :
    share b1 b2 k = 0 ∨ share b1 b2 k = 268435456 := by
  rw [share_ov h1 h2 hk]
  have r1 := far_range (bfrom k) b1
  have r2 := far_range (bfrom k) b2
  have q1 := far_bucket h1 hk n1
  have q2 := far_bucket h2 hk n2
  have r3 := size_pos h1 h2
  have r4 := size_rng b1 b2
  rcases far_add (bfrom_u32 k) h1 h2 with ⟨c, _⟩ | c
  · rw [ov_lo (by decide) (by omega) (by omega), c]; unfold imin; (repeat' split) <;> omega
  · rw [ov_hi (by decide) (by omega) (by decide) (by omega), c]; unfold imin; (repeat' split) <;> omega

theorem term_two {d x y : Int} (hd : 0 ≤ d ∧ d < 4294967296) (hx : 0 ≤ x ∧ x ≤ 268435456) (hy : 0 ≤ y ∧ y ≤ 268435456) (h : x + y = 268435456) :
    (d * x % 18446744073709551616) / 268435456 + (d * y % 18446744073709551616) / 268435456 ≤ d ∧
    d ≤ (d * x % 18446744073709551616) / 268435456 + (d * y % 18446744073709551616) / 268435456 + (if x = 0 ∨ x = 268435456 then 0 else 1) := by
  have e : d * x + d * y = d * 268435456 := by rw [← Int.mul_add, h]
  have p1 : 0 ≤ d * x := Int.mul_nonneg hd.1 hx.1
  have p2 : 0 ≤ d * y := Int.mul_nonneg hd.1 hy.1
  by_cases c : x = 0 ∨ x = 268435456
  · rw [if_pos c]
    rcases c with c | c
    · have e0 : d * x = 0 := by rw [c, Int.mul_zero]
      rw [e0] at e p1 ⊢; omega
    · have e0 : d * y = 0 := by rw [show y = 0 by omega, Int.mul_zero]
      rw [e0] at e p2 ⊢; omega
  · rw [if_neg c]
    generalize d * x = p at *
    generalize d * y = q at *
    omega

theorem wterm_all {d : Nat → Int} (hd : rg d) {b : Int} (h : u32r b) {k : Nat} (hk : k < 16) : wterm d b b k = d k := by
  have := hd k
  rw [wterm, share_all h hk]; omega
theorem wsum_all {d : Nat → Int} (hd : rg d) {b : Int} (h : u32r b) : ∀ k, k ≤ 16 → wsum d b b k = psum d k
  | 0, _ => rfl
  | k + 1, hk => by rw [wsum, psum, wsum_all hd h k (by omega), wterm_all hd h (by omega)]

def cuts (k1 k2 : Nat) : Nat → Int
  | 0 => 0
  | k + 1 => cuts k1 k2 k + (if k = k1 ∨ k = k2 then 1 else 0)
theorem cuts_le (k1 k2 : Nat) : ∀ k, cuts k1 k2 k ≤ (if k1 < k then 1 else 0) + (if k2 < k then 1 else 0) := by
  intro k
  induction k with
  | zero => simp [cuts]
  | succ k ih =>
    rw [cuts]
    (repeat' split at ih) <;> (repeat' split) <;> omega
theorem cuts_two (k1 k2 k : Nat) : cuts k1 k2 k ≤ 2 := by
  have := cuts_le k1 k2 k
  (repeat' split at this) <;> omega

theorem wsum_two {d : Nat → Int} (hd : rg d) {b1 b2 : Int} (h1 : u32r b1) (h2 : u32r b2) (h : b1 ≠ b2) : ∀ k, k ≤ 16 →
    wsum d b1 b2 k + wsum d b2 b1 k ≤ psum d k ∧ psum d k ≤ wsum d b1 b2 k + wsum d b2 b1 k + cuts (b1 / 268435456).toNat (b2 / 268435456).toNat k
  | 0, _ => by simp [wsum, psum, cuts]
  | k + 1, hk => by
    have ih := wsum_two hd h1 h2 h k (by omega)
    have t := term_two (hd k) (share_rg h1 h2 (k := k) (by omega)) (share_rg h2 h1 (k := k) (by omega)) (share_two h1 h2 h (by omega))
    have hc : (if share b1 b2 k = 0 ∨ share b1 b2 k = 268435456 then 0 else 1) ≤ (if k = (b1 / 268435456).toNat ∨ k = (b2 / 268435456).toNat then 1 else (0 : Int)) := by
      by_cases c : k = (b1 / 268435456).toNat ∨ k = (b2 / 268435456).toNat
      · rw [if_pos c]; split <;> omega
      · have n := share_cut h1 h2 (k := k) (by omega) (by unfold u32r at h1; omega) (by unfold u32r at h2; omega)
        rw [if_pos n, if_neg c]; omega
    rw [wsum, wsum, psum, cuts, wterm, wterm]
    omega
end Go.Gh

