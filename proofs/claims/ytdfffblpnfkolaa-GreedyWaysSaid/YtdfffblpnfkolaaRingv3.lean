import Derived.Test.YtdfffblpnfkolaaRingv2
import Derived.Test.YtdfffblpnfkolaaCircle

namespace Go.Gh
set_option linter.unusedVariables false
set_option linter.unusedSimpArgs false

/-! Layer 11, plain: who owns what. -/
theorem posn_mod {L : List Int} (h : Rg L) (v : Int) (hl : 0 < L.length) : posn L v % L.length = if posn L v = L.length then 0 else posn L v := by
  have := posn_le L v
  split
  · rename_i c; rw [c, Nat.mod_self]
  · exact Nat.mod_eq_of_lt (by omega)
theorem own_at {L : List Int} (hl : 0 < L.length) (v : Int) : ownv L v = L[posn L v % L.length]'(Nat.mod_lt _ hl) := getD_at _
theorem own_mem {L : List Int} (hl : 0 < L.length) (v : Int) : ownv L v ∈ L := by rw [own_at hl]; exact List.getElem_mem _
theorem prv_at {L : List Int} (h : Rg L) {a : Nat} (ha : a < L.length) : prv L L[a] = L[(a + L.length - 1) % L.length]'(Nat.mod_lt _ (by omega)) := by
  unfold prv; rw [posn_self h.r ha]; exact getD_at _
theorem prv_first {L : List Int} (h : Rg L) (hl : 0 < L.length) : prv L (L[0]) = L[L.length - 1] := by
  rw [prv_at h hl]
  have : (0 + L.length - 1) % L.length = L.length - 1 := by rw [Nat.zero_add]; exact Nat.mod_eq_of_lt (by omega)
  simp only [this]
theorem prv_later {L : List Int} (h : Rg L) {a : Nat} (ha : a + 1 < L.length) : prv L (L[a + 1]) = L[a] := by
  rw [prv_at h ha]
  have : (a + 1 + L.length - 1) % L.length = a := by rw [show a + 1 + L.length - 1 = a + L.length by omega, Nat.add_mod_right]; exact Nat.mod_eq_of_lt (by omega)
  simp only [this]
theorem hasv_iff {a b v : Int} (ha : 0 ≤ a ∧ a < 4294967296) (hb : 0 ≤ b ∧ b < 4294967296) (hv : 0 ≤ v ∧ v < 4294967296) : hasv a b v = true ↔ a = b ∨ (a < b ∧ a < v ∧ v ≤ b) ∨ (b < a ∧ (a < v ∨ v ≤ b)) := by
  unfold hasv size far
  rw [decide_eq_true_eq]
  split <;> omega
/-- Each value has one owner. -/
theorem own_has {L : List Int} (h : Rg L) {a : Nat} (ha : a < L.length) {v : Int} (hv : 0 ≤ v ∧ v < 4294967296) : hasv (prv L L[a]) L[a] v = (L[a] == ownv L v) := by
  have hl : 0 < L.length := by omega
  have hpl := posn_le L v
  have hm := posn_mod h v hl
  have hua := h.u _ (List.getElem_mem ha)
  have ho : ownv L v = L[posn L v % L.length]'(Nat.mod_lt _ hl) := own_at hl v
  have key : (L[a] == ownv L v) = decide (a = posn L v % L.length) := by
    rw [ho, Bool.eq_iff_iff, beq_iff_eq, decide_eq_true_eq]
    exact ⟨fun e => rising_inj h.r ha _ e, fun e => by simp only [← e]⟩
  rw [key, hm, Bool.eq_iff_iff, decide_eq_true_eq]
  have hlt : ∀ k (hk : k < L.length), k < posn L v → L[k] < v := fun k hk => posn_lt hk
  have hge : ∀ k (hk : k < L.length), posn L v ≤ k → v ≤ L[k] := fun k hk => posn_ge hk h.r
  cases a with
  | zero =>
    have hu1 := h.u _ (List.getElem_mem (show L.length - 1 < L.length by omega))
    rw [prv_first h hl, hasv_iff hu1 hua hv]
    have hle := rising_le h.r (show L.length - 1 < L.length by omega) (show 0 ≤ L.length - 1 by omega)
    by_cases c : posn L v = L.length
    · rw [if_pos c]
      have h1 := hlt (L.length - 1) (by omega) (by omega)
      refine ⟨fun _ => rfl, fun _ => ?_⟩
      omega
    · rw [if_neg c]
      have h1 := hge (L.length - 1) (by omega) (by omega)
      by_cases c0 : posn L v = 0
      · have h0 := hge 0 hl (by omega)
        refine ⟨fun _ => c0.symm, fun _ => ?_⟩
        omega
      · have h0 := hlt 0 hl (by omega)
        refine ⟨fun hh => ?_, fun e => absurd e.symm c0⟩
        have : (0 : Nat) = L.length - 1 ∨ L[0] < L[L.length - 1] := by
          rcases Nat.eq_zero_or_pos (L.length - 1) with e | e
          · exact .inl e.symm
          · exact .inr (List.pairwise_iff_getElem.1 h.r 0 (L.length - 1) hl (by omega) e)
        rcases this with e | e
        · simp only [← e] at h1; omega
        · omega
  | succ a =>
    have hu1 := h.u _ (List.getElem_mem (show a < L.length by omega))
    rw [prv_later h ha, hasv_iff hu1 hua hv]
    have hs := List.pairwise_iff_getElem.1 h.r a (a + 1) (by omega) ha (by omega)
    have h2 : L[a] < v ↔ a < posn L v := ⟨fun c => by
      rcases Nat.lt_or_ge a (posn L v) with d | d
      · exact d
      · have := hge a (by omega) d; omega, fun c => hlt a (by omega) c⟩
    have h3 : v ≤ L[a + 1] ↔ posn L v ≤ a + 1 := ⟨fun c => by
      rcases Nat.lt_or_ge (a + 1) (posn L v) with d | d
      · have := hlt (a + 1) ha d; omega
      · exact d, fun c => hge (a + 1) ha c⟩
    split <;> omega

theorem own_is {L : List Int} (h : Rg L) {v x : Int} (hx : x ∈ L) (hc : (v ≤ x ∧ ∀ y, y ∈ L → v ≤ y → x ≤ y) ∨ ((∀ y, y ∈ L → y < v) ∧ ∀ y, y ∈ L → x ≤ y)) : ownv L v = x := by
  obtain ⟨a, ha, rfl⟩ := List.mem_iff_getElem.1 hx
  have hl : 0 < L.length := by omega
  have hm := posn_mod h v hl
  have hpl := posn_le L v
  have e : posn L v % L.length = a := by
    rw [hm]
    rcases hc with ⟨h1, h2⟩ | ⟨h1, h2⟩
    · have hp : posn L v = a := posn_is (Nat.le_of_lt ha) (fun k hk hka => by
        have h3 := List.pairwise_iff_getElem.1 h.r k a hk ha hka
        rcases Int.lt_or_le L[k] v with c | c
        · exact c
        · have := h2 _ (List.getElem_mem hk) c; omega) (fun k hk hka => by have := rising_le h.r hk hka; omega)
      rw [hp, if_neg (by omega)]
    · have hp : posn L v = L.length := posn_is (Nat.le_refl _) (fun k hk _ => h1 _ (List.getElem_mem hk)) (fun k hk hka => by omega)
      rw [if_pos hp]
      have h3 := h2 _ (List.getElem_mem hl)
      rcases Nat.eq_zero_or_pos a with c | c
      · exact c.symm
      · have := List.pairwise_iff_getElem.1 h.r 0 a hl ha c; omega
  rw [own_at hl]; simp only [e]
theorem own_spec {L : List Int} (h : Rg L) (hl : 0 < L.length) (v : Int) : (v ≤ ownv L v ∧ ∀ y, y ∈ L → v ≤ y → ownv L v ≤ y) ∨ ((∀ y, y ∈ L → y < v) ∧ ∀ y, y ∈ L → ownv L v ≤ y) := by
  have hm := posn_mod h v hl
  have hpl := posn_le L v
  rw [own_at hl]
  by_cases c : posn L v = L.length
  · right
    rw [if_pos c] at hm
    refine ⟨fun y hy => ?_, fun y hy => ?_⟩
    · obtain ⟨k, hk, rfl⟩ := List.mem_iff_getElem.1 hy
      exact posn_lt hk (by omega)
    · obtain ⟨k, hk, rfl⟩ := List.mem_iff_getElem.1 hy
      simp only [hm]
      exact rising_le h.r hk (Nat.zero_le _)
  · left
    rw [if_neg c] at hm
    simp only [hm]
    refine ⟨posn_ge (by omega) h.r (Nat.le_refl _), fun y hy hvy => ?_⟩
    obtain ⟨k, hk, rfl⟩ := List.mem_iff_getElem.1 hy
    rcases Nat.lt_or_ge k (posn L v) with d | d
    · have := posn_lt hk d; omega
    · exact rising_le h.r hk d
/-- A point more takes a part of one span alone. -/
theorem own_ins {L : List Int} (h : Rg L) (hl : 0 < L.length) {p v : Int} (hp : p ∉ L) (hr : Rg (insp L p)) (hne : ownv (insp L p) v ≠ p) : ownv (insp L p) v = ownv L v := by
  have hl2 : 0 < (insp L p).length := by rw [insp_len]; omega
  have hm := own_mem hl2 v
  have hm2 : ownv (insp L p) v ∈ L := (insp_mem.1 hm).resolve_left hne
  refine (own_is h hm2 ?_).symm
  rcases own_spec hr hl2 v with ⟨h1, h2⟩ | ⟨h1, h2⟩
  · exact .inl ⟨h1, fun y hy => h2 y (insp_mem.2 (.inr hy))⟩
  · exact .inr ⟨fun y hy => h1 y (insp_mem.2 (.inr hy)), fun y hy => h2 y (insp_mem.2 (.inr hy))⟩

/-- The spans so far. -/
def szs (L : List Int) (i : Nat) : Int := if i = 0 then 0 else 4294967296 - (L.getD (L.length - 1) 0 - L.getD (i - 1) 0)
theorem szs_step {L : List Int} (h : Rg L) {i : Nat} (hi : i < L.length) : szs L (i + 1) = szs L i + size (prv L L[i]) L[i] := by
  have hl : 0 < L.length := by omega
  have hu := h.u _ (List.getElem_mem hi)
  have hz := h.u _ (List.getElem_mem (show L.length - 1 < L.length by omega))
  unfold szs
  rw [if_neg (by omega), getD_at (show L.length - 1 < L.length by omega), show i + 1 - 1 = i by omega, getD_at hi]
  cases i with
  | zero =>
    rw [if_pos rfl, prv_first h hl]
    have hle := rising_le h.r (show L.length - 1 < L.length by omega) (show 0 ≤ L.length - 1 by omega)
    unfold size far
    split <;> omega
  | succ i =>
    rw [if_neg (by omega), prv_later h hi, show i + 1 - 1 = i by omega, getD_at (show i < L.length by omega)]
    have hs := List.pairwise_iff_getElem.1 h.r i (i + 1) (by omega) hi (by omega)
    have hu1 := h.u _ (List.getElem_mem (show i < L.length by omega))
    unfold size far
    split <;> omega
theorem szs_rng {L : List Int} (h : Rg L) {i : Nat} (hi : i ≤ L.length) : 0 ≤ szs L i ∧ szs L i ≤ 4294967296 := by
  unfold szs
  split
  · decide
  · rw [getD_at (show L.length - 1 < L.length by omega), getD_at (show i - 1 < L.length by omega)]
    have hz := h.u _ (List.getElem_mem (show L.length - 1 < L.length by omega))
    have hy := h.u _ (List.getElem_mem (show i - 1 < L.length by omega))
    have := rising_le h.r (show L.length - 1 < L.length by omega) (show i - 1 ≤ L.length - 1 by omega)
    omega
theorem szs_all {L : List Int} (h : 0 < L.length) : szs L L.length = 4294967296 := by
  unfold szs; rw [if_neg (by omega)]; omega
end Go.Gh

