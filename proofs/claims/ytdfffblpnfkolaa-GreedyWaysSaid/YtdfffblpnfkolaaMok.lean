import Derived.Test.YtdfffblpnfkolaaPathv

namespace Go.Gh
open Go.Proofs
set_option linter.unusedVariables false
set_option linter.unusedSimpArgs false

/-! Maps of links, from lists of them. -/
def lnG (p : List Int × List (List GV)) : List GV := [.sl false 1 (p.1.map uuG) p.2]
/-- What the map has, so far. -/
def Mok (L : List Int) (i : Nat) (mm : List (Int × (List Int × List (List GV)))) : Prop := (∀ e, e ∈ mm → e.2.1.length ≤ 20) ∧ ∀ e, e ∈ mm → ∃ j, j < i ∧ L[j]? = some e.1
theorem Mok.nil (L : List Int) : Mok L 0 [] := ⟨fun e h => by simp at h, fun e h => by simp at h⟩
theorem Mok.push {L : List Int} {i : Nat} {mm : List (Int × (List Int × List (List GV)))} (h : Mok L i mm) (hi : i < L.length) {k : List Int} (hk : k.length ≤ 20) (x : List (List GV)) : Mok L (i + 1) (mm ++ [(L[i], (k, x))]) := by
  refine ⟨fun e he => ?_, fun e he => ?_⟩
  · rcases List.mem_append.1 he with h1 | h1
    · exact h.1 e h1
    · rw [List.mem_singleton.1 h1]; exact hk
  · rcases List.mem_append.1 he with h1 | h1
    · obtain ⟨j, a, b⟩ := h.2 e h1; exact ⟨j, by omega, b⟩
    · rw [List.mem_singleton.1 h1]; exact ⟨i, by omega, List.getElem?_eq_getElem hi⟩
theorem Mok.new {L : List Int} (hL : Rg L) {i : Nat} {mm : List (Int × (List Int × List (List GV)))} (h : Mok L i mm) (hi : i < L.length) : (mm.map mpe).find? (fun e => e.1 == L[i]) = none := by
  apply mp_none
  rw [List.find?_eq_none]
  intro e he hh
  obtain ⟨j, hj, hje⟩ := h.2 e he
  have hjl : j < L.length := by omega
  rw [List.getElem?_eq_getElem hjl] at hje
  have e1 : L[j] = L[i] := by
    have := Option.some.inj hje
    simp at hh; rw [this]; exact hh
  have := rising_inj hL.r hjl hi e1
  omega
end Go.Gh

