import Derived.Test.YtnnhmiokgpfmoaaCircle4

namespace Go.Gh
open Go.Proofs
set_option linter.unusedVariables false
set_option linter.unusedSimpArgs false

/-! Layer 1, plain: how many values runs have, and which. -/

def cntR (d : Int) : List (Int × Int) → Int
  | [] => 0
  | r :: l => (if r.1 < d ∧ d ≤ r.2 then 1 else 0) + cntR d l
def totR : List (Int × Int) → Int
  | [] => 0
  | r :: l => (r.2 - r.1) + totR l
def cnt (v : Int) : List (Int × Int) → Int
  | [] => 0
  | p :: l => (if hasv p.1 p.2 v = true then 1 else 0) + cnt v l
def tot : List (Int × Int) → Int
  | [] => 0
  | p :: l => size p.1 p.2 + tot l

/-- Runs that are none. -/
def Vld : List (Int × Int) → Prop
  | [] => True
  | r :: l => (0 ≤ r.1 ∧ r.1 < r.2 ∧ r.2 ≤ 4294967296) ∧ Vld l
def Ord (a S : Int) : List (Int × Int) → Prop
  | [] => a ≤ S
  | r :: l => a ≤ r.1 ∧ r.1 ≤ r.2 ∧ Ord r.2 S l

def stpv (a v : Int) : Int := if v = a then 4294967296 else far a v
theorem stpv_rng {a v : Int} (h1 : u32r a) (h2 : u32r v) : 1 ≤ stpv a v ∧ stpv a v ≤ 4294967296 := by
  unfold stpv far u32r at *; split <;> omega

theorem far_shift {a v p : Int} (hp : 0 ≤ p ∧ p < 4294967296) : far (((a + p % 4294967296) % 4294967296 + 1) % 4294967296) v = (far a v - p - 1) % 4294967296 := by
  unfold far; omega
theorem size_shift {a p q : Int} (h1 : u32r a) (hp : 0 ≤ p ∧ p < q ∧ q ≤ 4294967296) : size (shift a (p, q)).1 (shift a (p, q)).2 = q - p := by
  unfold shift
  simp only
  by_cases hq : q = 4294967296
  · subst hq
    by_cases h0 : p = 0
    · subst h0; unfold size; simp
    · have hne : (a + p % 4294967296) % 4294967296 ≠ (a + 4294967296 % 4294967296) % 4294967296 := by unfold u32r at h1; omega
      unfold size; rw [if_neg hne]; unfold far u32r at *; omega
  · have hne : (a + p % 4294967296) % 4294967296 ≠ (a + q % 4294967296) % 4294967296 := by unfold u32r at h1; omega
    unfold size; rw [if_neg hne]; unfold far u32r at *; omega
theorem hasv_shift {a v p q : Int} (h1 : u32r a) (h2 : u32r v) (hp : 0 ≤ p ∧ p < q ∧ q ≤ 4294967296) : hasv (shift a (p, q)).1 (shift a (p, q)).2 v = decide (p < stpv a v ∧ stpv a v ≤ q) := by
  unfold hasv
  rw [size_shift h1 hp]
  have e : (shift a (p, q)).1 = (a + p % 4294967296) % 4294967296 := rfl
  rw [e, far_shift (by omega), decide_eq_decide]
  have hf := far_range a v
  have hz : v = a ↔ far a v = 0 := by unfold far u32r at *; omega
  unfold stpv
  generalize far a v = D at *
  split <;> omega
theorem hasv_stpv {a b v : Int} (h1 : u32r a) (h2 : u32r b) (h3 : u32r v) : hasv a b v = decide (stpv a v ≤ size a b) := by
  unfold u32r at *
  unfold hasv stpv size far
  rw [decide_eq_decide]
  split <;> split <;> omega

theorem cnt_map {a v : Int} (h1 : u32r a) (h2 : u32r v) : ∀ l, Vld l → cnt v (l.map (shift a)) = cntR (stpv a v) l
  | [], _ => rfl
  | (p, q) :: l, h => by
    rw [List.map_cons, cnt, cntR, cnt_map h1 h2 l h.2, hasv_shift h1 h2 h.1]
    simp only [decide_eq_true_eq]
theorem tot_map {a : Int} (h1 : u32r a) : ∀ l, Vld l → tot (l.map (shift a)) = totR l
  | [], _ => rfl
  | (p, q) :: l, h => by rw [List.map_cons, tot, totR, tot_map h1 l h.2, size_shift h1 h.1]

theorem Ord_le : ∀ {l : List (Int × Int)} {a S : Int}, Ord a S l → a ≤ S
  | [], _, _, h => h
  | r :: l, a, S, h => by have := Ord_le h.2.2; have := h.1; have := h.2.1; omega

theorem cnt_others (d S : Int) : ∀ (l : List (Int × Int)) (a : Int), Ord a S l → cntR d (othersGo a (l ++ [(S, S)])) + cntR d l = if a < d ∧ d ≤ S then 1 else 0
  | [], a, h => by
    have h : a ≤ S := h
    simp only [List.nil_append, othersGo, List.append_nil, cntR]
    split
    · simp only [cntR]; split <;> omega
    · simp only [cntR]; split <;> omega
  | (p, q) :: l, a, h => by
    have ih := cnt_others d S l q h.2.2
    have hle := Ord_le h.2.2
    have h1 : a ≤ p := h.1
    have h2 : p ≤ q := h.2.1
    rw [List.cons_append, othersGo, cntR]
    by_cases c : p > a
    · simp only [if_pos c, List.cons_append, List.nil_append, cntR]
      split at ih <;> split <;> split <;> split <;> omega
    · simp only [if_neg c, List.nil_append]
      split at ih <;> split <;> split <;> omega

theorem tot_others (S : Int) : ∀ (l : List (Int × Int)) (a : Int), Ord a S l → totR (othersGo a (l ++ [(S, S)])) + totR l = S - a
  | [], a, h => by
    have h : a ≤ S := h
    simp only [List.nil_append, othersGo, List.append_nil, totR]
    split
    · simp only [totR]; omega
    · simp only [totR]; omega
  | (p, q) :: l, a, h => by
    have ih := tot_others S l q h.2.2
    have h1 : a ≤ p := h.1
    rw [List.cons_append, othersGo, totR]
    by_cases c : p > a
    · simp only [if_pos c, List.cons_append, List.nil_append, totR]; omega
    · simp only [if_neg c, List.nil_append]; omega

theorem Vld_others (S : Int) (hS : S ≤ 4294967296) : ∀ (l : List (Int × Int)) (a : Int), 0 ≤ a → Ord a S l → Vld (othersGo a (l ++ [(S, S)]))
  | [], a, h0, h => by
    simp only [List.nil_append, othersGo, List.append_nil]
    split
    · exact ⟨⟨h0, by assumption, hS⟩, trivial⟩
    · trivial
  | (p, q) :: l, a, h0, h => by
    have h1 : a ≤ p := h.1
    have h2 : p ≤ q := h.2.1
    have ih := Vld_others S hS l q (by omega) h.2.2
    have := Ord_le h.2.2
    rw [List.cons_append, othersGo]
    by_cases c : p > a
    · simp only [if_pos c, List.cons_append, List.nil_append]
      exact ⟨⟨h0, c, by simp only; omega⟩, ih⟩
    · simp only [if_neg c, List.nil_append]; exact ih

/-- What is to be known of runs. -/
theorem runs_all {a1 a2 b1 b2 : Int} (h1 : u32r a1) (h2 : u32r a2) (h3 : u32r b1) (h4 : u32r b2) :
    Vld (runs a1 a2 b1 b2) ∧ Ord 0 (size a1 a2) (runs a1 a2 b1 b2) ∧
    (∀ d, 1 ≤ d → d ≤ 4294967296 → cntR d (runs a1 a2 b1 b2) = if d ≤ size a1 a2 ∧ ((far a1 b1 < d ∧ d ≤ far a1 b1 + size b1 b2) ∨ (d ≤ far a1 b1 ∧ d + 4294967296 ≤ far a1 b1 + size b1 b2)) then 1 else 0) ∧
    totR (runs a1 a2 b1 b2) = (if far a1 b1 + size b1 b2 > 4294967296 then imin (far a1 b1 + size b1 b2 - 4294967296) (size a1 a2) else 0) + (if far a1 b1 < size a1 a2 then imin (imin (far a1 b1 + size b1 b2) 4294967296) (size a1 a2) - far a1 b1 else 0) := by
  have hp := size_pos h1 h2
  have hp2 := size_pos h3 h4
  have hs := size_rng a1 a2
  have hs2 := size_rng b1 b2
  have hf := far_range a1 b1
  generalize hS : size a1 a2 = S at *
  generalize hT : size b1 b2 = T at *
  generalize hF : far a1 b1 = F at *
  have e : runs a1 a2 b1 b2 = glue (runs0 S F (F + T)) := by unfold runs; rw [hS, hT, hF]
  rw [e]
  unfold runs0
  by_cases c1 : F + T > 4294967296
  · obtain ⟨X, hX⟩ : ∃ X, X = imin (F + T - 4294967296) S := ⟨_, rfl⟩
    obtain ⟨Y, hY⟩ : ∃ Y, Y = imin (imin (F + T) 4294967296) S := ⟨_, rfl⟩
    have kX : (X = F + T - 4294967296 ∧ F + T - 4294967296 ≤ S) ∨ (X = S ∧ S < F + T - 4294967296) := by rw [hX]; unfold imin; split <;> omega
    have kY : Y = S := by rw [hY]; unfold imin; (repeat' split) <;> omega
    rw [← hX, ← hY]
    by_cases c2 : F < S
    · simp only [if_pos c1, if_pos c2, List.cons_append, List.nil_append, glue]
      by_cases c3 : X ≥ F
      · simp only [if_pos c3]
        refine ⟨⟨⟨by simp only; omega, by simp only; omega, by simp only; omega⟩, trivial⟩, ⟨by simp only; omega, by simp only; omega, by simp only [Ord]; omega⟩, fun d hd hd2 => ?_, ?_⟩
        · simp only [cntR]; split <;> split <;> omega
        · simp only [totR]; omega
      · simp only [if_neg c3]
        refine ⟨⟨⟨by simp only; omega, by simp only; omega, by simp only; omega⟩, ⟨by simp only; omega, by simp only; omega, by simp only; omega⟩, trivial⟩, ⟨by simp only; omega, by simp only; omega, by simp only; omega, by simp only; omega, by simp only [Ord]; omega⟩, fun d hd hd2 => ?_, ?_⟩
        · simp only [cntR]; split <;> split <;> split <;> omega
        · simp only [totR]; omega
    · simp only [if_pos c1, if_neg c2, List.append_nil, glue]
      refine ⟨⟨⟨by simp only; omega, by simp only; omega, by simp only; omega⟩, trivial⟩, ⟨by simp only; omega, by simp only; omega, by simp only [Ord]; omega⟩, fun d hd hd2 => ?_, ?_⟩
      · simp only [cntR]; split <;> split <;> omega
      · simp only [totR]; omega
  · by_cases c2 : F < S
    · obtain ⟨Y, hY⟩ : ∃ Y, Y = imin (imin (F + T) 4294967296) S := ⟨_, rfl⟩
      have kY : (Y = F + T ∧ F + T ≤ S) ∨ (Y = S ∧ S < F + T) := by rw [hY]; unfold imin; (repeat' split) <;> omega
      rw [← hY]
      simp only [if_neg c1, if_pos c2, List.nil_append, glue]
      refine ⟨⟨⟨by simp only; omega, by simp only; omega, by simp only; omega⟩, trivial⟩, ⟨by simp only; omega, by simp only; omega, by simp only [Ord]; omega⟩, fun d hd hd2 => ?_, ?_⟩
      · simp only [cntR]; split <;> split <;> omega
      · simp only [totR]; omega
    · simp only [if_neg c1, if_neg c2, List.nil_append, glue]
      refine ⟨trivial, by simp only [Ord]; omega, fun d hd hd2 => ?_, ?_⟩
      · simp only [cntR]; split <;> omega
      · simp only [totR]; omega

theorem cnt_rng (v : Int) : ∀ l, 0 ≤ cnt v l ∧ cnt v l ≤ l.length
  | [] => ⟨Int.le_refl _, Int.le_refl _⟩
  | p :: l => by
    have := cnt_rng v l
    rw [cnt, List.length_cons]
    split <;> omega
theorem tot_rng : ∀ l, 0 ≤ tot l ∧ tot l ≤ l.length * 4294967296
  | [] => ⟨Int.le_refl _, Int.le_refl _⟩
  | p :: l => by
    have := tot_rng l
    have := size_rng p.1 p.2
    rw [tot, List.length_cons]
    omega
end Go.Gh

