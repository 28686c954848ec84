import Derived.Test.YtlchnpmfgblegaaTab

/-! Densities among the arguments. -/

namespace Go.Gh

theorem rd_u32s : ∀ (n : Nat) {gs : List GV}, RdL (List.replicate n (.int .u32)) gs → ∃ l : List Int, gs = l.map lu ∧ l.length = n ∧ ∀ x, x ∈ l → 0 ≤ x ∧ x < 4294967296
  | 0, gs, h => by
    simp only [List.replicate_zero, RdL] at h
    exact ⟨[], h, rfl, fun x hx => by simp at hx⟩
  | n + 1, gs, h => by
    rw [List.replicate_succ] at h
    simp only [RdL, Rd] at h
    obtain ⟨_, gs', rfl, ⟨a, rfl, h1, h2⟩, h⟩ := h
    obtain ⟨l, rfl, hl, hx⟩ := rd_u32s n h
    have e1 : IntKind.u32.min = 0 := by decide
    have e2 : IntKind.u32.max = 4294967295 := by decide
    refine ⟨a :: l, rfl, by simp [hl], fun x h => ?_⟩
    rcases List.mem_cons.1 h with rfl | h
    · omega
    · exact hx x h

theorem rd_dens {gs : List GV} (h : RdL (List.replicate 16 (.int .u32)) gs) : ∃ d : Nat → Int, gs = dg d ∧ ∀ k, 0 ≤ d k ∧ d k < 4294967296 := by
  obtain ⟨l, rfl, hl, hx⟩ := rd_u32s 16 h
  refine ⟨fun k => l.getD k 0, ?_, fun k => ?_⟩
  · apply List.ext_getElem?
    intro k
    by_cases hk : k < 16
    · rw [dg_at _ hk, List.getElem?_map, List.getElem?_eq_getElem (by omega), List.getD_eq_getElem?_getD, List.getElem?_eq_getElem (by omega)]; rfl
    · rw [List.getElem?_eq_none (by simp; omega), List.getElem?_eq_none (by rw [dg_len]; omega)]
  · show 0 ≤ l.getD k 0 ∧ l.getD k 0 < 4294967296
    rw [List.getD_eq_getElem?_getD]
    cases e : l[k]? with
    | none => simp
    | some x => exact hx x (List.mem_of_getElem? e)

theorem rd_u32 {n : Int} (h : IntKind.u32.min ≤ n ∧ n ≤ IntKind.u32.max) : 0 ≤ n ∧ n < 4294967296 := by
  have e1 : IntKind.u32.min = 0 := by decide
  have e2 : IntKind.u32.max = 4294967295 := by decide
  omega
end Go.Gh

