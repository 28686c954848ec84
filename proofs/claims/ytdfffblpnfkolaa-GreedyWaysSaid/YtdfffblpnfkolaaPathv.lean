import Derived.Test.YtdfffblpnfkolaaMapv
import Derived.Test.YtdfffblpnfkolaaGreedy2
import Derived.Test.YtdfffblpnfkolaaRingv3

namespace Go.Gh
set_option linter.unusedVariables false
set_option linter.unusedSimpArgs false

/-! Layer 13, plain: ways by any links. -/
theorem own_far {L : List Int} (h : Rg L) {p v : Int} (hp : p ∈ L) (hv : 0 ≤ v ∧ v < 4294967296) (hne : ownv L v ≠ p) : far p v ≤ far p (ownv L v) := by
  have hl : 0 < L.length := List.length_pos_of_mem hp
  have ho := h.u _ (own_mem hl v)
  have hp2 := h.u _ hp
  generalize ho' : ownv L v = o at *
  have hs := own_spec h hl v
  rw [ho'] at hs
  unfold far
  rcases hs with ⟨a, b⟩ | ⟨a, b⟩
  · by_cases c : v ≤ p
    · have := b p hp c; omega
    · omega
  · have e1 := a p hp
    have e2 := b p hp
    omega
theorem own_near {L : List Int} (h : Rg L) {v y : Int} (hv : 0 ≤ v ∧ v < 4294967296) (hy : y ∈ L) : far v (ownv L v) ≤ far v y := by
  have hl : 0 < L.length := List.length_pos_of_mem hy
  have ho := h.u _ (own_mem hl v)
  have hy2 := h.u _ hy
  have hs := own_spec h hl v
  generalize ownv L v = o at *
  unfold far
  rcases hs with ⟨a, b⟩ | ⟨a, b⟩
  · by_cases c : v ≤ y
    · have := b y hy c; omega
    · omega
  · have e1 := a y hy
    have e2 := b y hy
    omega
theorem far_inj {p x y : Int} (hx : 0 ≤ x ∧ x < 4294967296) (hy : 0 ≤ y ∧ y < 4294967296) (h : far p x = far p y) : x = y := by unfold far at h; omega
theorem far_next {p y : Int} (hp : 0 ≤ p ∧ p < 4294967296) (hy : 0 ≤ y ∧ y < 4294967296) (h : y ≠ p) : far ((p + 1) % 4294967296) y = far p y - 1 := by unfold far; omega
/-- The next point is the owner, or lies ahead of what is looked for. -/
theorem nxt_near {L : List Int} (h : Rg L) {p v : Int} (hp : p ∈ L) (hv : 0 ≤ v ∧ v < 4294967296) (hne : ownv L v ≠ p) : nxt L p ∈ L ∧ (nxt L p = ownv L v ∨ far p (nxt L p) < far p v) := by
  have hl : 0 < L.length := List.length_pos_of_mem hp
  have hp2 := h.u _ hp
  have hnm : nxt L p ∈ L := own_mem hl _
  have hom : ownv L v ∈ L := own_mem hl v
  have hn2 := h.u _ hnm
  have ho2 := h.u _ hom
  have a1 : far ((p + 1) % 4294967296) (nxt L p) ≤ far ((p + 1) % 4294967296) (ownv L v) := own_near h (by omega) hom
  have a2 := own_near h hv hnm
  have a3 := own_far h hp hv hne
  refine ⟨hnm, ?_⟩
  rw [far_next hp2 ho2 hne] at a1
  by_cases c : far p (nxt L p) < far p v
  · exact .inr c
  · left
    generalize nxt L p = x at *
    generalize ownv L v = o at *
    unfold far at *
    omega
theorem gfd_near {L : List Int} {p v : Int} : ∀ (k : List Int) {best : Int}, best ∈ L → far p best < far p v → gfd L p v k best ∈ L ∧ far p (gfd L p v k best) < far p v ∧ far p best ≤ far p (gfd L p v k best)
  | [], best, h1, h2 => ⟨h1, h2, Int.le_refl _⟩
  | q :: k, best, h1, h2 => by
    show gfd L p v k (gst L p v best q) ∈ L ∧ far p (gfd L p v k (gst L p v best q)) < far p v ∧ far p best ≤ far p (gfd L p v k (gst L p v best q))
    unfold gst
    by_cases c : q ∈ L ∧ far p q < far p v ∧ far p best < far p q
    · rw [if_pos c]
      have := gfd_near k c.1 c.2.1
      exact ⟨this.1, this.2.1, by have := this.2.2; omega⟩
    · rw [if_neg c]; exact gfd_near k h1 h2
theorem far_less {p y v : Int} (hp : 0 ≤ p ∧ p < 4294967296) (hy : 0 ≤ y ∧ y < 4294967296) (hv : 0 ≤ v ∧ v < 4294967296) (h0 : 0 < far p y) (h : far p y < far p v) : far y v < far p v := by unfold far at *; omega
theorem nxt_ne {L : List Int} (h : Rg L) {p v : Int} (hp : p ∈ L) (hne : ownv L v ≠ p) : nxt L p ≠ p := fun e => by
  have hl : 0 < L.length := List.length_pos_of_mem hp
  have hp2 := h.u _ hp
  have hom : ownv L v ∈ L := own_mem hl v
  have ho2 := h.u _ hom
  have a1 : far ((p + 1) % 4294967296) (nxt L p) ≤ far ((p + 1) % 4294967296) (ownv L v) := own_near h (by omega) hom
  rw [e] at a1
  generalize ownv L v = o at *
  unfold far at a1
  omega
theorem gnx_step {L : List Int} (h : Rg L) {p v : Int} (k : List Int) (hp : p ∈ L) (hv : 0 ≤ v ∧ v < 4294967296) (hne : ownv L v ≠ p) : ∃ y, gnx L k p v = (y, true) ∧ y ∈ L ∧ (y = ownv L v ∨ far y v < far p v) := by
  have hp2 := h.u _ hp
  obtain ⟨n1, n2⟩ := nxt_near h hp hv hne
  have n3 := nxt_ne h hp hne
  have hn2 := h.u _ n1
  by_cases c : nxt L p = ownv L v
  · exact ⟨nxt L p, by rw [gnx_yes hp hne, if_pos c], n1, .inl c⟩
  · have n4 := n2.resolve_left c
    obtain ⟨g1, g2, g3⟩ := gfd_near k n1 n4
    have hg := h.u _ g1
    refine ⟨gfd L p v k (nxt L p), by rw [gnx_yes hp hne, if_neg c], g1, .inr (far_less hp2 hg hv ?_ g2)⟩
    have : 0 < far p (nxt L p) := by
      have := far_inj (p := p) hn2 hp2
      unfold far at *
      omega
    omega
/-- A way: each point's next one, up to the owner. -/
def Pth (L : List Int) (mm : List (Int × (List Int × List (List GV)))) (v : Int) : List Int → Prop
  | [] => False
  | [x] => x ∈ L ∧ ownv L v = x
  | x :: y :: t => x ∈ L ∧ ownv L v ≠ x ∧ gnx L (lkm mm x) x v = (y, true) ∧ (y = ownv L v ∨ far y v < far x v) ∧ Pth L mm v (y :: t)
theorem pth_ex {L : List Int} (h : Rg L) (mm : List (Int × (List Int × List (List GV)))) {v : Int} (hv : 0 ≤ v ∧ v < 4294967296) : ∀ (n : Nat) {a : Int}, a ∈ L → (far a v).toNat ≤ n → ∃ t, Pth L mm v (a :: t) := by
  intro n
  induction n with
  | zero =>
    intro a ha hn
    by_cases c : ownv L v = a
    · exact ⟨[], ha, c⟩
    · obtain ⟨y, e1, e2, e3⟩ := gnx_step h (lkm mm a) ha hv c
      rcases e3 with e3 | e3
      · exact ⟨[y], ha, c, e1, .inl e3, e2, e3.symm⟩
      · have := far_range y v; omega
  | succ n ih =>
    intro a ha hn
    by_cases c : ownv L v = a
    · exact ⟨[], ha, c⟩
    · obtain ⟨y, e1, e2, e3⟩ := gnx_step h (lkm mm a) ha hv c
      rcases e3 with e3 | e3
      · exact ⟨[y], ha, c, e1, .inl e3, e2, e3.symm⟩
      · have h0 := far_range y v
        obtain ⟨t, ht⟩ := ih e2 (by omega)
        exact ⟨y :: t, ha, c, e1, .inr e3, ht⟩
theorem pth_sub {L : List Int} {mm : List (Int × (List Int × List (List GV)))} {v : Int} : ∀ {P : List Int}, Pth L mm v P → ∀ x, x ∈ P → x ∈ L
  | [], h, _, _ => h.elim
  | [z], h, x, hx => by rw [List.mem_singleton.1 hx]; exact h.1
  | z :: y :: t, h, x, hx => by
    rcases List.mem_cons.1 hx with e | e
    · rw [e]; exact h.1
    · exact pth_sub h.2.2.2.2 x e
theorem pth_far {L : List Int} {mm : List (Int × (List Int × List (List GV)))} {v : Int} : ∀ {t : List Int} {x : Int}, Pth L mm v (x :: t) → ∀ z, z ∈ t → ownv L v ≠ x ∧ (z = ownv L v ∨ far z v < far x v)
  | [], x, h, z, hz => by simp at hz
  | y :: t, x, h, z, hz => by
    refine ⟨h.2.1, ?_⟩
    rcases List.mem_cons.1 hz with e | e
    · rw [e]; exact h.2.2.2.1
    · obtain ⟨i1, i2⟩ := pth_far h.2.2.2.2 z e
      rcases i2 with i2 | i2
      · exact .inl i2
      · rcases h.2.2.2.1 with e3 | e3
        · exact absurd e3.symm i1
        · exact .inr (by omega)
theorem pth_nd {L : List Int} {mm : List (Int × (List Int × List (List GV)))} {v : Int} : ∀ {P : List Int}, Pth L mm v P → P.Nodup
  | [], h => h.elim
  | [z], h => by simp
  | x :: y :: t, h => List.nodup_cons.2 ⟨fun hx => by
      obtain ⟨i1, i2⟩ := pth_far h x hx
      rcases i2 with i2 | i2
      · exact i1 i2.symm
      · omega, pth_nd h.2.2.2.2⟩
theorem nd_len : ∀ {P L : List Int}, P.Nodup → (∀ x, x ∈ P → x ∈ L) → P.length ≤ L.length
  | [], L, _, _ => Nat.zero_le _
  | x :: t, L, hn, hs => by
    have hx := hs x (List.mem_cons_self ..)
    obtain ⟨n1, n2⟩ := List.nodup_cons.1 hn
    have := nd_len (L := L.erase x) n2 fun y hy => (List.mem_erase_of_ne fun e => n1 (by rw [← e]; exact hy)).2 (hs y (List.mem_cons_of_mem _ hy))
    rw [List.length_erase_of_mem hx] at this
    have := List.length_pos_of_mem hx
    rw [List.length_cons]; omega
theorem pth_pos {L : List Int} {mm : List (Int × (List Int × List (List GV)))} {v : Int} {P : List Int} (h : Pth L mm v P) : 0 < P.length := by
  cases P with
  | nil => exact h.elim
  | cons x t => exact Nat.succ_pos _
theorem pth_last {L : List Int} {mm : List (Int × (List Int × List (List GV)))} {v : Int} : ∀ {P : List Int} (h : Pth L mm v P) {j : Nat} (hj : j + 1 = P.length), P[j]'(by omega) = ownv L v
  | [], h, _, _ => h.elim
  | [z], h, j, hj => by
    have : j = 0 := by simpa using hj
    subst this
    exact h.2.symm
  | x :: y :: t, h, 0, hj => by simp at hj
  | x :: y :: t, h, j + 1, hj => pth_last h.2.2.2.2 (j := j) (by simpa using hj)
theorem pth_step {L : List Int} {mm : List (Int × (List Int × List (List GV)))} {v : Int} : ∀ {P : List Int} (h : Pth L mm v P) {j : Nat} (hj : j + 1 < P.length), ownv L v ≠ P[j] ∧ gnx L (lkm mm P[j]) P[j] v = (P[j + 1], true) ∧ (P[j + 1] = ownv L v ∨ far P[j + 1] v < far P[j] v)
  | [], h, _, _ => h.elim
  | [z], h, j, hj => by simp at hj
  | x :: y :: t, h, 0, hj => ⟨h.2.1, h.2.2.1, h.2.2.2.1⟩
  | x :: y :: t, h, j + 1, hj => pth_step h.2.2.2.2 (j := j) (by simpa using hj)
end Go.Gh

