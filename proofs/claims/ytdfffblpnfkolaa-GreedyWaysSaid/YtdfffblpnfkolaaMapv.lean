import Derived.Test.YtdfffblpnfkolaaSample
import Derived.Test.YtdfffblpnfkolaaRingv2

namespace Go.Gh
open Go.Proofs
set_option linter.unusedVariables false
set_option linter.unusedSimpArgs false

/-! Maps of links, plain. -/
def mpe (e : Int × (List Int × List (List GV))) : Int × GV := (e.1, .sl false 1 (e.2.1.map uuG) e.2.2)
def lkm (mm : List (Int × (List Int × List (List GV)))) (a : Int) : List Int := match mm.find? (fun e => e.1 == a) with
  | some e => e.2.1
  | none => []
theorem mp_none {mm : List (Int × (List Int × List (List GV)))} {a : Int} (h : mm.find? (fun e => e.1 == a) = none) : (mm.map mpe).find? (fun e => e.1 == a) = none := by
  rw [List.find?_map]
  show Option.map mpe (mm.find? (fun e => e.1 == a)) = none
  rw [h]; rfl
theorem mp_some {mm : List (Int × (List Int × List (List GV)))} {a : Int} {e : Int × (List Int × List (List GV))} (h : mm.find? (fun e => e.1 == a) = some e) : (mm.map mpe).find? (fun e => e.1 == a) = some (e.1, .sl false 1 (e.2.1.map uuG) e.2.2) := by
  rw [List.find?_map]
  show Option.map mpe (mm.find? (fun e => e.1 == a)) = _
  rw [h]; rfl
theorem lkm_none {mm : List (Int × (List Int × List (List GV)))} {a : Int} (h : mm.find? (fun e => e.1 == a) = none) : lkm mm a = [] := by unfold lkm; rw [h]
theorem lkm_some {mm : List (Int × (List Int × List (List GV)))} {a : Int} {e : Int × (List Int × List (List GV))} (h : mm.find? (fun e => e.1 == a) = some e) : lkm mm a = e.2.1 := by unfold lkm; rw [h]
theorem mp_push (mm : List (Int × (List Int × List (List GV)))) (a : Int) (k : List Int) (x : List (List GV)) : mm.map mpe ++ [(a, .sl false 1 (k.map uuG) x)] = (mm ++ [(a, (k, x))]).map mpe := by rw [List.map_append]; rfl

/-! A walk by chance. -/
def onr (L K : List Int) : List Int := K.filter fun q => decide (q ∈ L)
theorem onr_take {L K : List Int} {i : Nat} (h : i < K.length) : onr L (K.take (i + 1)) = onr L (K.take i) ++ (if K[i] ∈ L then [K[i]] else []) := by
  unfold onr
  rw [List.take_succ_eq_append_getElem h, List.filter_append]
  congr 1
  by_cases c : K[i] ∈ L
  · rw [if_pos c]; simp [c]
  · rw [if_neg c]; simp [c]
def wys (L : List Int) (mm : List (Int × (List Int × List (List GV)))) (a : Int) : List Int := nxt L a :: onr L (lkm mm a)
def wst (L : List Int) (mm : List (Int × (List Int × List (List GV)))) (p : Int × Int) : Int × Int := ((wys L mm p.1).getD (rollV p.2 ((wys L mm p.1).length : Int)).toNat 0, rollS p.2 ((wys L mm p.1).length : Int))
def wit (L : List Int) (mm : List (Int × (List Int × List (List GV)))) (p : Int × Int) : Nat → Int × Int
  | 0 => p
  | i + 1 => wst L mm (wit L mm p i)
def wkl (L : List Int) (mm : List (Int × (List Int × List (List GV)))) (p : Int × Int) (n : Nat) : List Int := (List.range (n + 1)).map fun j => (wit L mm p j).1
theorem wkl_succ (L : List Int) (mm : List (Int × (List Int × List (List GV)))) (p : Int × Int) (n : Nat) : wkl L mm p (n + 1) = wkl L mm p n ++ [(wit L mm p (n + 1)).1] := by unfold wkl; rw [List.range_succ, List.map_append]; rfl
theorem wkl_len (L : List Int) (mm : List (Int × (List Int × List (List GV)))) (p : Int × Int) (n : Nat) : (wkl L mm p n).length = n + 1 := by simp [wkl]
theorem stepV_rng (s : Int) : 0 ≤ stepV s ∧ stepV s < 18446744073709551616 := by
  unfold stepV mix3 xorv; rw [wrap_u64]; omega
theorem roll_in (s : Int) {n : Nat} (h0 : 0 < n) (h1 : n ≤ 1000000) : ∃ k : Nat, k < n ∧ rollV s (n : Int) = (k : Int) := by
  have hs := stepV_rng s
  unfold rollV
  rw [if_neg (by omega), show IntKind.u64.wrap (n : Int) = (n : Int) by rw [wrap_u64]; omega, Int.tmod_eq_emod_of_nonneg hs.1]
  have h2 := Int.emod_nonneg (stepV s) (show (n : Int) ≠ 0 by omega)
  have h3 := Int.emod_lt_of_pos (stepV s) (show (0 : Int) < n by omega)
  refine ⟨(stepV s % (n : Int)).toNat, by omega, ?_⟩
  rw [wrap_i64 _ (by omega) (by omega)]; omega
end Go.Gh

