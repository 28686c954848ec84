import Derived.Test.YtjegndlhfgbmnaaRefHas

namespace Go.Gh
open Go.Proofs
set_option linter.unusedVariables false
set_option linter.unusedSimpArgs false

/-! Layer 5: what its functions compute. -/

def rgn (k lo hi : Int) : GV := .agg [.lit (.int .i64 k), .lit (.int .u32 lo), .lit (.int .u32 hi)]
def rgc (r : Int × Int × Int) : List GV := [.lit (.int .i64 r.1), .lit (.int .u32 r.2.1), .lit (.int .u32 r.2.2)]

def bspan (k lo hi : Int) : (Int × Int) × Bool :=
  if k = 1 then ((4294967295, 4294967295), true) else if k = 2 then (((lo - 1) % 4294967296, hi), true) else ((0, 0), false)

theorem bspan_rng {k lo hi : Int} (h2 : u32r hi) : u32r (bspan k lo hi).1.1 ∧ u32r (bspan k lo hi).1.2 := by
  unfold bspan u32r at *; split
  · simp
  · split
    · simp only; omega
    · simp


def bin (k lo hi v : Int) : Bool := (bspan k lo hi).2 && hasv (bspan k lo hi).1.1 (bspan k lo hi).1.2 v


def kindv (k : Int) : Bool := decide (1 ≤ k) && decide (k ≤ 3)



def emptyv (k : Int) : Bool := !(k == 1) && !(k == 2)

def idxv (p : Int → Bool) : List (Int × Int × Int) → Int
  | [] => -1
  | r :: l => if p r.1 then 0 else if idxv p l = -1 then -1 else idxv p l + 1

theorem idxv_ge (p : Int → Bool) : ∀ l, -1 ≤ idxv p l
  | [] => by simp [idxv]
  | r :: l => by have := idxv_ge p l; rw [idxv]; split <;> (try split) <;> omega

theorem idxv_any (p : Int → Bool) : ∀ l, decide (idxv p l ≥ 0) = l.any (fun r => p r.1)
  | [] => by simp [idxv]
  | r :: l => by
    have h1 := idxv_ge p l
    have h2 := idxv_any p l
    rw [idxv, List.any_cons]
    cases hp : p r.1
    · simp only [Bool.false_or, ← h2]
      rw [if_neg (by simp)]
      split
      · rename_i h; rw [h]
      · rw [decide_eq_decide]; omega
    · simp

/-- Past all that aren't so. -/
def idxAt (p : Int → Bool) (l : List (Int × Int × Int)) (i : Nat) : Prop := idxv p l = if idxv p (l.drop i) = -1 then -1 else idxv p (l.drop i) + i


def rightv (n : Int) (l : List (Int × Int × Int)) : Bool := decide (1 ≤ n) && decide (n ≤ 8) && ((l.length : Int) == n) && !(l.any fun r => !kindv r.1)


end Go.Gh

