import Derived.Test.YtbkahcionjkgjaaOctet

namespace Go.Gh
open Go.Proofs
set_option linter.unusedVariables false
set_option linter.unusedSimpArgs false

/-! Layer 3, plain: bytes of numbers, read again. -/

/-- One byte more. -/
def gstep (v c : Int) : Int := (v * 256 + c) % 18446744073709551616
def getv (l : List Int) : Int := l.foldl gstep 0
def byt (l : List Int) : Prop := ∀ c, c ∈ l → 0 ≤ c ∧ c < 256

theorem gstep_rng (v c : Int) : 0 ≤ gstep v c ∧ gstep v c < 18446744073709551616 := by unfold gstep; omega

theorem or_step {v c : Int} (hc : 0 ≤ c ∧ c < 256) :
    IntKind.u64.wrap ((BitVec.ofInt IntKind.u64.bits (IntKind.u64.wrap (v * 2 ^ min (Int.toNat 8) IntKind.u64.bits)) ||| BitVec.ofInt IntKind.u64.bits c).toNat : Int) = gstep v c := by
  have e : min (Int.toNat 8) IntKind.u64.bits = 8 := rfl
  rw [e, wrap_u64, wrap_u64, BitVec.toNat_or]
  show ((BitVec.ofInt 64 (v * 2 ^ 8 % 18446744073709551616)).toNat ||| (BitVec.ofInt 64 c).toNat : Nat) % (18446744073709551616 : Int) = _
  have h1 : (BitVec.ofInt 64 (v * 2 ^ 8 % 18446744073709551616)).toNat = 2 ^ 8 * (v % 72057594037927936).toNat := by
    rw [BitVec.toNat_ofInt]
    show (v * 256 % 18446744073709551616 % 18446744073709551616).toNat = 256 * (v % 72057594037927936).toNat
    omega
  have h2 : (BitVec.ofInt 64 c).toNat = c.toNat := by
    rw [BitVec.toNat_ofInt]
    show (c % 18446744073709551616).toNat = c.toNat
    omega
  rw [h1, h2, ← Nat.two_pow_add_eq_or_of_lt (by show c.toNat < 256; omega)]
  unfold gstep
  show ((256 * (v % 72057594037927936).toNat + c.toNat : Nat) : Int) % 18446744073709551616 = _
  omega

theorem be_byt (v : Int) : ∀ k, byt (be v k)
  | 0 => fun c h => by simp [be] at h
  | k + 1 => fun c h => by
    rw [be] at h
    rcases List.mem_cons.1 h with rfl | h
    · omega
    · exact be_byt v k c h

theorem nstep (u N : Nat) : (u / 256 % N) * 256 + u % 256 = u % (256 * N) := by
  rw [Nat.mod_mul]; omega

theorem fold_be (n : Nat) : ∀ (k m : Nat), k + m ≤ 8 → (be (n : Int) k).foldl gstep ((n / 2 ^ (8 * k) % 2 ^ (8 * m) : Nat) : Int) = ((n % 2 ^ (8 * (k + m)) : Nat) : Int)
  | 0, m, _ => by simp [be]
  | k + 1, m, h => by
    have e1 : (2 : Nat) ^ (8 * (m + 1)) = 256 * 2 ^ (8 * m) := by rw [Nat.mul_add, Nat.pow_add, Nat.mul_comm]
    have e2 : (2 : Nat) ^ (8 * (k + 1)) = 2 ^ (8 * k) * 256 := by rw [Nat.mul_add, Nat.pow_add]
    have hle : (2 : Nat) ^ (8 * (m + 1)) ≤ 18446744073709551616 := by
      calc (2 : Nat) ^ (8 * (m + 1)) ≤ 2 ^ (8 * 8) := Nat.pow_le_pow_right (by decide) (by omega)
        _ = 18446744073709551616 := by decide
    rw [be, List.foldl_cons]
    have hs : gstep ((n / 2 ^ (8 * (k + 1)) % 2 ^ (8 * m) : Nat) : Int) ((n : Int) / 2 ^ (8 * k) % 256) = ((n / 2 ^ (8 * k) % 2 ^ (8 * (m + 1)) : Nat) : Int) := by
      have hc : ((n : Int) / 2 ^ (8 * k) % 256) = ((n / 2 ^ (8 * k) % 256 : Nat) : Int) := by simp
      have hn := nstep (n / 2 ^ (8 * k)) (2 ^ (8 * m))
      rw [Nat.div_div_eq_div_mul, ← e2, ← e1] at hn
      have hlt : n / 2 ^ (8 * k) % 2 ^ (8 * (m + 1)) < 2 ^ (8 * (m + 1)) := Nat.mod_lt _ (Nat.pow_pos (by decide))
      rw [hc, gstep]
      omega
    rw [hs, fold_be n k (m + 1) (by omega), show k + (m + 1) = k + 1 + m by omega]

theorem getv_be {v : Int} (hv : 0 ≤ v) {k : Nat} (hk : k ≤ 8) : getv (be v k) = v % 2 ^ (8 * k) := by
  obtain ⟨n, rfl⟩ := Int.eq_ofNat_of_zero_le hv
  have := fold_be n k 0 (by omega)
  simp only [Nat.mul_zero, Nat.pow_zero, Nat.mod_one, Nat.add_zero] at this
  unfold getv
  rw [show (0 : Int) = ((0 : Nat) : Int) from rfl, this]
  simp

/-! A reader: what is left, and what is wrong. -/

/-- n bytes of what is left. -/
def tk (l : List Int) (e : Int) (n : Nat) : List Int := if e = 0 ∧ n ≤ l.length then l.take n else []
def tkL (l : List Int) (e : Int) (n : Nat) : List Int := if e = 0 then (if n ≤ l.length then l.drop n else []) else l
def tkE (l : List Int) (e : Int) (n : Nat) : Int := if e = 0 then (if n ≤ l.length then 0 else 3) else e

theorem tk_byt {l : List Int} (h : byt l) (e : Int) (n : Nat) : byt (tk l e n) := by
  unfold tk; split
  · exact fun c hc => h c (List.mem_of_mem_take hc)
  · exact fun c hc => by simp at hc
theorem tk_len (l : List Int) (e : Int) (n : Nat) : (tk l e n).length ≤ n := by
  unfold tk; split
  · simp; omega
  · simp
theorem tkL_byt {l : List Int} (h : byt l) (e : Int) (n : Nat) : byt (tkL l e n) := by
  unfold tkL; split
  · split
    · exact fun c hc => h c (List.mem_of_mem_drop hc)
    · exact fun c hc => by simp at hc
  · exact h
theorem getv_rng (l : List Int) : 0 ≤ getv l ∧ getv l < 18446744073709551616 := by
  unfold getv
  have : ∀ (l : List Int) (a : Int), 0 ≤ a ∧ a < 18446744073709551616 → 0 ≤ l.foldl gstep a ∧ l.foldl gstep a < 18446744073709551616 := by
    intro l
    induction l with
    | nil => exact fun a h => h
    | cons c l ih => exact fun a _ => ih _ (gstep_rng a c)
  exact this l 0 (by decide)
end Go.Gh

