import Derived.Test.YtdfffblpnfkolaaGhZjn

namespace Go.Gh
set_option linter.unusedVariables false
set_option linter.unusedSimpArgs false

/-! Layer 11, plain: lists of points that rise. -/

/-- How many of them are ahead of a value. -/
def posn : List Int → Int → Nat
  | [], _ => 0
  | x :: l, v => if x < v then posn l v + 1 else 0
theorem posn_cons (x : Int) (l : List Int) (v : Int) : posn (x :: l) v = if x < v then posn l v + 1 else 0 := rfl
def rising (l : List Int) : Prop := l.Pairwise (· < ·)
theorem posn_le : ∀ (l : List Int) (v : Int), posn l v ≤ l.length
  | [], _ => Nat.le_refl _
  | x :: l, v => by
    have := posn_le l v
    unfold posn; split <;> simp <;> omega
theorem posn_lt : ∀ {l : List Int} {v : Int} {k : Nat} (h : k < l.length), k < posn l v → l[k] < v
  | [], _, _, h, _ => by simp at h
  | x :: l, v, k, h, hk => by
    unfold posn at hk
    split at hk
    · rename_i c
      cases k with
      | zero => exact c
      | succ k => exact posn_lt (l := l) (by simpa using h) (by omega)
    · omega
theorem posn_ge : ∀ {l : List Int} {v : Int} {k : Nat} (h : k < l.length), rising l → posn l v ≤ k → v ≤ l[k]
  | [], _, _, h, _, _ => by simp at h
  | x :: l, v, k, h, hr, hk => by
    unfold posn at hk
    have hr1 := (List.pairwise_cons.1 hr).1
    have hr2 := (List.pairwise_cons.1 hr).2
    split at hk
    · rename_i c
      cases k with
      | zero => omega
      | succ k => exact posn_ge (l := l) (by simpa using h) hr2 (by omega)
    · rename_i c
      cases k with
      | zero => simpa using c
      | succ k =>
        have := hr1 (l[k]'(by simpa using h)) (List.getElem_mem _)
        simp only [List.getElem_cons_succ]
        omega
/-- It's what parts the lesser ones from the others. -/
theorem posn_is {l : List Int} {v : Int} {i : Nat} (hi : i ≤ l.length) (h1 : ∀ k (h : k < l.length), k < i → l[k] < v) (h2 : ∀ k (h : k < l.length), i ≤ k → v ≤ l[k]) : posn l v = i := by
  induction l generalizing i with
  | nil => simp at hi; subst hi; rfl
  | cons x l ih =>
    rw [posn_cons]
    cases i with
    | zero =>
      have := h2 0 (by simp) (Nat.le_refl _)
      simp only [List.getElem_cons_zero] at this
      rw [if_neg (by omega)]
    | succ i =>
      have := h1 0 (by simp) (by omega)
      simp only [List.getElem_cons_zero] at this
      rw [if_pos this, ih (by simpa using hi) (fun k h hk => h1 (k + 1) (Nat.succ_lt_succ h) (by omega)) (fun k h hk => h2 (k + 1) (Nat.succ_lt_succ h) (by omega))]
theorem posn_mem {l : List Int} {v : Int} (hr : rising l) : v ∈ l ↔ ∃ h : posn l v < l.length, l[posn l v] = v := by
  constructor
  · intro hm
    obtain ⟨k, hk, e⟩ := List.mem_iff_getElem.1 hm
    have : posn l v = k := by
      refine posn_is (Nat.le_of_lt hk) (fun j hj hjk => ?_) (fun j hj hkj => ?_)
      · rw [← e]; exact List.pairwise_iff_getElem.1 hr j k hj hk hjk
      · rcases Nat.eq_or_lt_of_le hkj with h | h
        · subst h; omega
        · have := List.pairwise_iff_getElem.1 hr k j hk hj h
          omega
    subst this
    exact ⟨hk, e⟩
  · rintro ⟨h, e⟩
    rw [← e]; exact List.getElem_mem _

/-- One more. -/
def insp (l : List Int) (v : Int) : List Int := l.take (posn l v) ++ v :: l.drop (posn l v)
theorem insp_len (l : List Int) (v : Int) : (insp l v).length = l.length + 1 := by
  have := posn_le l v
  unfold insp; simp; omega
theorem insp_mem {l : List Int} {v x : Int} : x ∈ insp l v ↔ x = v ∨ x ∈ l := by
  unfold insp
  rw [List.mem_append, List.mem_cons]
  constructor
  · rintro (h | h | h)
    · exact .inr (List.mem_of_mem_take h)
    · exact .inl h
    · exact .inr (List.mem_of_mem_drop h)
  · rintro (h | h)
    · exact .inr (.inl h)
    · rw [← List.take_append_drop (posn l v) l] at h
      rcases List.mem_append.1 h with h | h
      · exact .inl h
      · exact .inr (.inr h)
theorem insp_cons (x : Int) (l : List Int) (v : Int) : insp (x :: l) v = if x < v then x :: insp l v else v :: x :: l := by
  unfold insp
  rw [posn_cons]
  split <;> simp
theorem insp_rising : ∀ {l : List Int} {v : Int}, rising l → v ∉ l → rising (insp l v)
  | [], v, _, _ => by simp [insp, posn, rising]
  | x :: l, v, hr, hm => by
    obtain ⟨h1, h2⟩ := List.pairwise_cons.1 hr
    have hx : v ≠ x := fun e => hm (e ▸ List.mem_cons_self ..)
    have hm2 : v ∉ l := fun e => hm (List.mem_cons_of_mem _ e)
    rw [insp_cons]
    split
    · rename_i c
      refine List.pairwise_cons.2 ⟨fun y hy => ?_, insp_rising h2 hm2⟩
      rcases insp_mem.1 hy with h | h
      · omega
      · exact h1 y h
    · rename_i c
      refine List.pairwise_cons.2 ⟨fun y hy => ?_, hr⟩
      rcases List.mem_cons.1 hy with h | h
      · omega
      · have := h1 y h; omega

/-- One less. -/
def dropp (l : List Int) (v : Int) : List Int := l.filter (fun x => x != v)
theorem dropp_rising {l : List Int} (h : rising l) (v : Int) : rising (dropp l v) := h.filter _
theorem dropp_mem {l : List Int} {v x : Int} : x ∈ dropp l v ↔ x ∈ l ∧ x ≠ v := by simp [dropp]
theorem dropp_at : ∀ {l : List Int} {v : Int}, rising l → v ∈ l → dropp l v = l.take (posn l v) ++ l.drop (posn l v + 1)
  | [], _, _, h => by simp at h
  | x :: l, v, hr, hm => by
    obtain ⟨h1, h2⟩ := List.pairwise_cons.1 hr
    rw [posn_cons]
    by_cases c : x < v
    · rw [if_pos c]
      have hm2 : v ∈ l := by rcases List.mem_cons.1 hm with h | h; · omega
                             · exact h
      have hx : (x != v) = true := by simp; omega
      have := dropp_at h2 hm2
      unfold dropp at this ⊢
      rw [List.filter_cons, if_pos hx, this]; rfl
    · have e : x = v := by
        rcases List.mem_cons.1 hm with h | h
        · exact h.symm
        · have := h1 v h; omega
      subst e
      rw [if_neg c]
      unfold dropp
      rw [List.filter_cons, if_neg (by simp), List.filter_eq_self.2 fun y hy => by have := h1 y hy; simp; omega]
      rfl
theorem dropp_not {l : List Int} {v : Int} (h : v ∉ l) : dropp l v = l := by
  unfold dropp; exact List.filter_eq_self.2 fun y hy => by simp; rintro rfl; exact h hy
theorem dropp_len {l : List Int} {v : Int} (hr : rising l) (h : v ∈ l) : (dropp l v).length + 1 = l.length := by
  obtain ⟨hp, _⟩ := (posn_mem hr).1 h
  rw [dropp_at hr h]; simp; omega
theorem dropp_insp {l : List Int} {v : Int} (hr : rising l) (h : v ∉ l) : dropp (insp l v) v = l := by
  unfold dropp insp
  rw [List.filter_append, List.filter_cons, if_neg (by simp), ← List.filter_append, List.take_append_drop]
  exact dropp_not h
/-- Two that have the same ones are the same. -/
theorem rising_ext : ∀ {l r : List Int}, rising l → rising r → (∀ x, x ∈ l ↔ x ∈ r) → l = r
  | [], [], _, _, _ => rfl
  | [], y :: r, _, _, h => by have := (h y).2 (List.mem_cons_self ..); simp at this
  | x :: l, [], _, _, h => by have := (h x).1 (List.mem_cons_self ..); simp at this
  | x :: l, y :: r, hl, hr, h => by
    obtain ⟨h1, h2⟩ := List.pairwise_cons.1 hl
    obtain ⟨h3, h4⟩ := List.pairwise_cons.1 hr
    have e : x = y := by
      rcases List.mem_cons.1 ((h x).1 (List.mem_cons_self ..)) with a | a
      · exact a
      · rcases List.mem_cons.1 ((h y).2 (List.mem_cons_self ..)) with b | b
        · exact b.symm
        · have := h3 x a; have := h1 y b; omega
    subst e
    rw [rising_ext h2 h4 fun z => ?_]
    constructor
    · intro hz
      rcases List.mem_cons.1 ((h z).1 (List.mem_cons_of_mem _ hz)) with a | a
      · subst a; have := h1 z hz; omega
      · exact a
    · intro hz
      rcases List.mem_cons.1 ((h z).2 (List.mem_cons_of_mem _ hz)) with a | a
      · subst a; have := h3 z hz; omega
      · exact a

/-- What a ring answers. -/
def addE (l : List Int) (v : Int) : Int := if v ∈ l then 7 else if 64 ≤ l.length then 5 else 0
def addL (l : List Int) (v : Int) : List Int := if v ∈ l then l else if 64 ≤ l.length then l else insp l v
def drpE (l : List Int) (v : Int) : Int := if v ∈ l then 0 else 6
def ownv (l : List Int) (v : Int) : Int := l.getD (posn l v % l.length) 0
def nxt (l : List Int) (v : Int) : Int := ownv l ((v + 1) % 4294967296)
def prv (l : List Int) (v : Int) : Int := l.getD ((posn l v + l.length - 1) % l.length) 0
structure Rg (l : List Int) : Prop where
  r : rising l
  u : ∀ x, x ∈ l → 0 ≤ x ∧ x < 4294967296
  n : l.length ≤ 64
theorem Rg.nil : Rg [] := ⟨.nil, fun x h => by simp at h, by decide⟩
theorem Rg.add {l : List Int} (h : Rg l) {v : Int} (hv : 0 ≤ v ∧ v < 4294967296) : Rg (addL l v) := by
  unfold addL
  split
  · exact h
  · split
    · exact h
    · rename_i c1 c2
      refine ⟨insp_rising h.r c1, fun x hx => ?_, by rw [insp_len]; omega⟩
      rcases insp_mem.1 hx with e | e
      · rw [e]; exact hv
      · exact h.u x e
theorem Rg.drop {l : List Int} (h : Rg l) (v : Int) : Rg (dropp l v) :=
  ⟨dropp_rising h.r v, fun x hx => h.u x (dropp_mem.1 hx).1, Nat.le_trans (List.length_filter_le ..) h.n⟩
end Go.Gh

