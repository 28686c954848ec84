import Derived.Test.YtdfffblpnfkolaaRingv

namespace Go.Gh
set_option linter.unusedVariables false
set_option linter.unusedSimpArgs false

/-! Layer 11, plain: round a ring. -/
theorem rising_inj {l : List Int} (hr : rising l) {a b : Nat} (ha : a < l.length) (hb : b < l.length) (h : l[a] = l[b]) : a = b := by
  rcases Nat.lt_trichotomy a b with c | c | c
  · have := List.pairwise_iff_getElem.1 hr a b ha hb c; omega
  · exact c
  · have := List.pairwise_iff_getElem.1 hr b a hb ha c; omega
theorem rising_le {l : List Int} (hr : rising l) {a b : Nat} (hb : b < l.length) (h : a ≤ b) : l[a]'(by omega) ≤ l[b] := by
  rcases Nat.eq_or_lt_of_le h with c | c
  · subst c; exact Int.le_refl _
  · have := List.pairwise_iff_getElem.1 hr a b (by omega) hb c; omega
theorem getD_at {l : List Int} {a : Nat} (h : a < l.length) : l.getD a 0 = l[a] := by
  rw [List.getD_eq_getElem?_getD, List.getElem?_eq_getElem h]; rfl
theorem posn_self {l : List Int} (hr : rising l) {a : Nat} (ha : a < l.length) : posn l l[a] = a :=
  posn_is (Nat.le_of_lt ha) (fun k hk h => List.pairwise_iff_getElem.1 hr k a hk ha h) (fun k hk h => rising_le hr hk h)
/-- Where one goes on behind a point. -/
theorem posn_next {l : List Int} (h : Rg l) {a : Nat} (ha : a < l.length) : posn l ((l[a] + 1) % 4294967296) % l.length = (a + 1) % l.length := by
  have hu := h.u _ (List.getElem_mem ha)
  by_cases c : l[a] = 4294967295
  · have e : (l[a] + 1) % 4294967296 = 0 := by omega
    have hp : posn l 0 = 0 := posn_is (Nat.zero_le _) (fun k hk h => absurd h (Nat.not_lt_zero _)) (fun k hk _ => (h.u _ (List.getElem_mem hk)).1)
    have hl : a + 1 = l.length := by
      rcases Nat.lt_or_ge (a + 1) l.length with c2 | c2
      · have := List.pairwise_iff_getElem.1 h.r a (a + 1) ha c2 (by omega)
        have := h.u _ (List.getElem_mem c2)
        omega
      · omega
    rw [e, hp, hl, Nat.mod_self, Nat.zero_mod]
  · have e : (l[a] + 1) % 4294967296 = l[a] + 1 := Int.emod_eq_of_lt (by omega) (by omega)
    have hp : posn l (l[a] + 1) = a + 1 := posn_is (by omega) (fun k hk hka => by have := rising_le h.r ha (show k ≤ a by omega); omega) (fun k hk hka => by
      have := List.pairwise_iff_getElem.1 h.r a k ha hk (by omega); omega)
    rw [e, hp]
theorem nxt_at {l : List Int} (h : Rg l) {a : Nat} (ha : a < l.length) : nxt l l[a] = l[(a + 1) % l.length]'(Nat.mod_lt _ (by omega)) := by
  unfold nxt ownv
  rw [posn_next h ha, getD_at]

/-- The i-th behind a value. -/
def rt (l : List Int) (p : Int) (i : Nat) : Int := l.getD ((posn l ((p + 1) % 4294967296) + i) % l.length) 0
theorem rt_zero (l : List Int) (p : Int) : rt l p 0 = nxt l p := rfl
theorem rt_at {l : List Int} (hl : 0 < l.length) (p : Int) (i : Nat) : rt l p i = l[(posn l ((p + 1) % 4294967296) + i) % l.length]'(Nat.mod_lt _ hl) := getD_at _
theorem rt_mem {l : List Int} (hl : 0 < l.length) (p : Int) (i : Nat) : rt l p i ∈ l := by rw [rt_at hl]; exact List.getElem_mem _
theorem rt_next {l : List Int} (h : Rg l) (hl : 0 < l.length) (p : Int) (i : Nat) : nxt l (rt l p i) = rt l p (i + 1) := by
  have e : ((posn l ((p + 1) % 4294967296) + i) % l.length + 1) % l.length = (posn l ((p + 1) % 4294967296) + (i + 1)) % l.length := by rw [Nat.mod_add_mod, Nat.add_assoc]
  rw [rt_at hl, nxt_at h, rt_at hl]
  simp only [e]
theorem mod_inj {n k i j : Nat} (hi : i < n) (hj : j < n) (h : (k + i) % n = (k + j) % n) : i = j := by
  have hn : 0 < n := by omega
  have ha : k % n < n := Nat.mod_lt _ hn
  rw [← Nat.mod_add_mod, ← Nat.mod_add_mod k n j] at h
  generalize k % n = a at *
  have m : ∀ x, x < n → (a + x) % n = if a + x < n then a + x else a + x - n := fun x hx => by
    split
    · rename_i c; exact Nat.mod_eq_of_lt c
    · rename_i c; rw [Nat.mod_eq_sub_mod (by omega), Nat.mod_eq_of_lt (by omega)]
  rw [m i hi, m j hj] at h
  split at h <;> split at h <;> omega
theorem rt_inj {l : List Int} (h : Rg l) (p : Int) {i j : Nat} (hi : i < l.length) (hj : j < l.length) (e : rt l p i = rt l p j) : i = j := by
  have hl : 0 < l.length := by omega
  rw [rt_at hl, rt_at hl] at e
  exact mod_inj hi hj (rising_inj h.r _ _ e)
theorem rt_self {l : List Int} (h : Rg l) {p : Int} (hp : p ∈ l) : rt l p (l.length - 1) = p := by
  obtain ⟨b, hb, rfl⟩ := List.mem_iff_getElem.1 hp
  have hl : 0 < l.length := by omega
  have hn := posn_next h hb
  rw [rt_at hl]
  have e : (posn l ((l[b] + 1) % 4294967296) + (l.length - 1)) % l.length = b := by
    rw [Nat.add_mod, hn, ← Nat.add_mod, show b + 1 + (l.length - 1) = b + l.length by omega, Nat.add_mod_right, Nat.mod_eq_of_lt hb]
  simp only [e]
/-- How many others there are. -/
def oth (l : List Int) (p : Int) : Nat := if p ∈ l then l.length - 1 else l.length
theorem oth_le (l : List Int) (p : Int) : oth l p ≤ l.length := by unfold oth; split <;> omega
theorem rt_ne {l : List Int} (h : Rg l) (p : Int) {i : Nat} (hi : i < oth l p) : rt l p i ≠ p := by
  have hl := oth_le l p
  intro e
  have hp : p ∈ l := by rw [← e]; exact rt_mem (by omega) p i
  have := rt_inj h p (i := i) (j := l.length - 1) (by omega) (by omega) (by rw [e, rt_self h hp])
  unfold oth at hi
  rw [if_pos hp] at hi
  omega
theorem rt_end {l : List Int} (h : Rg l) (p : Int) (hl : 0 < l.length) : rt l p (oth l p) = p ∨ (0 < oth l p ∧ rt l p (oth l p) = rt l p 0) := by
  unfold oth
  split
  · rename_i hp; exact .inl (rt_self h hp)
  · right
    refine ⟨hl, ?_⟩
    rw [rt_at hl, rt_at hl]
    simp only [Nat.add_mod_right, Nat.add_zero]

def hrs (l : List Int) (p : Int) (i : Nat) : List Int := (List.range i).map (rt l p)
theorem hrs_len (l : List Int) (p : Int) (i : Nat) : (hrs l p i).length = i := by simp [hrs]
theorem hrs_succ (l : List Int) (p : Int) (i : Nat) : hrs l p (i + 1) = hrs l p i ++ [rt l p i] := by simp [hrs, List.range_succ]
theorem hrs_at (l : List Int) (p : Int) {i k : Nat} (h : k < i) : (hrs l p i)[k]? = some (rt l p k) := by simp [hrs, h]
def heirs (l : List Int) (p n : Int) : List Int := hrs l p (min (oth l p) n.toNat)
end Go.Gh

