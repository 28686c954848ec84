import Derived.Test.YtnnhmiokgpfmoaaCoverv2

namespace Go.Gh
set_option linter.unusedVariables false
set_option linter.unusedSimpArgs false

/-! Layer 2, plain: pieces; gaps lie apart. -/
theorem arc_add {F d D st : Int} (h0 : 0 ≤ D) (h1 : 0 ≤ st) (h2 : D + st ≤ 4294967296) : arc F (D + st) d ↔ arc F D d ∨ arc ((F + D) % 4294967296) st d := by
  unfold arc
  obtain ⟨u, hu⟩ : ∃ u, (d - F - 1) % 4294967296 = u := ⟨_, rfl⟩
  have e : (d - (F + D) % 4294967296 - 1) % 4294967296 = (u - D) % 4294967296 := by omega
  rw [e, hu]
  have : 0 ≤ u ∧ u < 4294967296 := by omega
  clear e hu
  omega
theorem far_step {s x D : Int} : far s ((x + D) % 4294967296) = (far s x + D) % 4294967296 := by unfold far; omega
theorem size_step {x st : Int} (hx : u32r x) (h0 : 1 ≤ st) (h1 : st < 4294967296) : size x ((x + st) % 4294967296) = st := by
  unfold u32r at hx; unfold size far; split <;> omega
theorem size_rest {x1 x2 D : Int} (h1 : u32r x1) (h2 : u32r x2) (h0 : 0 ≤ D) (hD : D < size x1 x2) : size ((x1 + D) % 4294967296) x2 = size x1 x2 - D := by
  unfold u32r at *; unfold size far at *; split <;> split at * <;> omega
/-- What is covered of a span, so far. -/
def Sofar (s1 s2 x1 : Int) (D : Int) (B : List (Int × Int)) : Prop := Nm (size s1 s2) (-1) B ∧ ∀ d, inC B d ↔ (1 ≤ d ∧ d ≤ size s1 s2) ∧ arc (far s1 x1) D d
theorem Sofar.zero (s1 s2 x1 : Int) : Sofar s1 s2 x1 0 [] := ⟨trivial, fun d => ⟨fun h => h.elim, fun h => by have := h.2; unfold arc at this; omega⟩⟩
theorem Sofar.add {s1 s2 x1 D st e : Int} {B : List (Int × Int)} (h1 : u32r s1) (h2 : u32r s2) (h : Sofar s1 s2 x1 D B) (h0 : 0 ≤ D) (hst : 0 ≤ st) (hD : D + st ≤ 4294967296) (he : u32r e) (hz : size ((x1 + D) % 4294967296) e = st) : Sofar s1 s2 x1 (D + st) (cvr s1 s2 B ((x1 + D) % 4294967296, e)) := by
  have hs : okS ((x1 + D) % 4294967296, e) := ⟨by simp only; omega, he⟩
  refine ⟨cvr_nm h1 h2 h.1 hs, fun d => ?_⟩
  rw [cvr_in h1 h2 h.1 hs, h.2, runs_arc h1 h2 hs]
  simp only
  rw [hz, far_step, arc_add h0 hst hD]
  constructor
  · rintro (⟨a, b⟩ | ⟨a, b⟩)
    · exact ⟨a, .inl b⟩
    · exact ⟨a, .inr b⟩
  · rintro ⟨a, b | b⟩
    · exact .inl ⟨a, b⟩
    · exact .inr ⟨a, b⟩
theorem Sofar.all {s1 s2 x1 x2 : Int} {B : List (Int × Int)} (h1 : u32r s1) (h2 : u32r s2) (h3 : u32r x1) (h4 : u32r x2) (h : Sofar s1 s2 x1 (size x1 x2) B) : B = cvr s1 s2 [] (x1, x2) := by
  have hs : okS (x1, x2) := ⟨h3, h4⟩
  refine Nm_ext h.1 (cvr_nm h1 h2 (l := []) trivial hs) fun d => ?_
  rw [h.2, cvr_in h1 h2 (l := []) trivial hs, runs_arc h1 h2 hs]
  constructor
  · exact .inr
  · rintro (a | a)
    · exact a.elim
    · exact a

/-! Gaps lie within, in order, apart. -/
theorem Ord.low {a b S : Int} (hab : a ≤ b) : ∀ {l : List (Int × Int)}, Ord b S l → Ord a S l
  | [], h => Int.le_trans hab h
  | r :: l, h => ⟨Int.le_trans hab h.1, h.2⟩
theorem Ord_others (S : Int) : ∀ (l : List (Int × Int)) (a : Int), Ord a S l → Ord a S (othersGo a (l ++ [(S, S)]))
  | [], a, h => by
    have h : a ≤ S := h
    simp only [List.nil_append, othersGo, List.append_nil]
    split
    · exact ⟨Int.le_refl _, h, Int.le_refl _⟩
    · exact h
  | (p, q) :: l, a, h => by
    have ih := Ord_others S l q h.2.2
    have e1 : a ≤ p := h.1
    have e2 : p ≤ q := h.2.1
    simp only [List.cons_append, othersGo]
    split
    · exact ⟨Int.le_refl _, e1, ih.low e2⟩
    · exact ih.low (by omega)
theorem Ord_next {S : Int} : ∀ {l : List (Int × Int)} {a : Int} {i : Nat} (h : i + 1 < l.length), Ord a S l → l[i].2 ≤ l[i + 1].1
  | [], _, _, h, _ => by simp at h
  | r :: [], _, i, h, _ => by simp at h
  | r :: x :: l, a, 0, h, o => o.2.2.1
  | r :: x :: l, a, i + 1, h, o => by
    have := Ord_next (l := x :: l) (i := i) (by simpa using h) o.2.2
    simpa using this
theorem gap_meet {s1 s2 : Int} (h1 : u32r s1) (h2 : u32r s2) {r : Int × Int} (hr : 0 ≤ r.1 ∧ r.1 < r.2 ∧ r.2 ≤ size s1 s2) : meet s1 s2 (shift s1 r).1 (shift s1 r).2 = [shift s1 r] := by
  obtain ⟨p, q⟩ := r
  unfold meet
  rw [runs_shift h1 h2 hr]; rfl
theorem gap_apart {s1 s2 : Int} (h1 : u32r s1) (h2 : u32r s2) {r y : Int × Int} (hr : 0 ≤ r.1 ∧ r.1 < r.2 ∧ r.2 ≤ size s1 s2) (hy : okS y) (hn : ∀ d, r.1 < d → d ≤ r.2 → ¬ inC (runs s1 s2 y.1 y.2) d) : meet (shift s1 r).1 (shift s1 r).2 y.1 y.2 = [] := by
  have hS := size_rng s1 s2
  have hg := shift_ok h1 r
  have hz : size (shift s1 r).1 (shift s1 r).2 = r.2 - r.1 := size_shift h1 (p := r.1) (q := r.2) (by omega)
  have hp := runs_prp hg.1 hg.2 hy.1 hy.2
  have key : ∀ d, ¬ inC (runs (shift s1 r).1 (shift s1 r).2 y.1 y.2) d := fun d hd => by
    rw [runs_arc hg.1 hg.2 hy, hz] at hd
    refine hn (r.1 + d) (by omega) (by omega) ((runs_arc h1 h2 hy).2 ⟨by omega, ?_⟩)
    have h3 := hd.2
    unfold arc at h3 ⊢
    have e : (r.1 + d - far s1 y.1 - 1) % 4294967296 = (d - far (shift s1 r).1 y.1 - 1) % 4294967296 := by
      unfold far shift; simp only; omega
    rw [e]; exact h3
  unfold meet
  cases e : runs (shift s1 r).1 (shift s1 r).2 y.1 y.2 with
  | nil => rfl
  | cons x t =>
    rw [e] at key hp
    have hx := hp x (List.mem_cons_self ..)
    exact (key x.2 (.inl ⟨hx.2.1, Int.le_refl _⟩)).elim
theorem gap_row {s1 : Int} (h1 : u32r s1) {r t : Int × Int} (hr : 0 ≤ r.1 ∧ r.1 < 4294967296) (ht : 0 ≤ t.2 ∧ t.2 ≤ r.1) : ¬ far s1 (shift s1 r).1 < far s1 (shift s1 t).2 := by
  unfold u32r at h1
  unfold far shift; simp only; omega
end Go.Gh

