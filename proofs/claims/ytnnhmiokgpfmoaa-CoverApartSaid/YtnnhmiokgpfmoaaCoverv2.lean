import Derived.Test.YtnnhmiokgpfmoaaCoverv

namespace Go.Gh
set_option linter.unusedVariables false
set_option linter.unusedSimpArgs false

/-! Layer 2, plain: what spans cover; gaps. -/
def okS (s : Int × Int) : Prop := (0 ≤ s.1 ∧ s.1 < 4294967296) ∧ (0 ≤ s.2 ∧ s.2 < 4294967296)
def cvr (a b : Int) (l : List (Int × Int)) (s : Int × Int) : List (Int × Int) := caddL l (runs a b s.1 s.2)
theorem cvr_nm {a b : Int} (h1 : u32r a) (h2 : u32r b) {l : List (Int × Int)} (hl : Nm (size a b) (-1) l) {s : Int × Int} (hs : okS s) : Nm (size a b) (-1) (cvr a b l s) := (caddL_ok hl (runs_prp h1 h2 hs.1 hs.2)).1
theorem cvr_in {a b : Int} (h1 : u32r a) (h2 : u32r b) {l : List (Int × Int)} (hl : Nm (size a b) (-1) l) {s : Int × Int} (hs : okS s) (d : Int) : inC (cvr a b l s) d ↔ inC l d ∨ inC (runs a b s.1 s.2) d := (caddL_ok hl (runs_prp h1 h2 hs.1 hs.2)).2 d
def gaps (a b : Int) (l : List (Int × Int)) : List (Int × Int) := (others l (size a b)).map (shift a)

theorem cntR_pos (d : Int) : ∀ l, 0 ≤ cntR d l
  | [] => Int.le_refl _
  | r :: l => by have := cntR_pos d l; rw [cntR]; split <;> omega
theorem inC_cnt {d : Int} : ∀ {l : List (Int × Int)}, inC l d ↔ 1 ≤ cntR d l
  | [] => by simp [inC, cntR]
  | r :: l => by
    have := cntR_pos d l
    rw [inC, cntR, inC_cnt (l := l)]
    split <;> omega
/-- An arc of the circle, by steps. -/
def arc (F T d : Int) : Prop := (d - F - 1) % 4294967296 < T
theorem runs_arc {a b : Int} (h1 : u32r a) (h2 : u32r b) {s : Int × Int} (hs : okS s) {d : Int} : inC (runs a b s.1 s.2) d ↔ (1 ≤ d ∧ d ≤ size a b) ∧ arc (far a s.1) (size s.1 s.2) d := by
  have hS := size_rng a b
  have hf := far_range a s.1
  have hT := size_rng s.1 s.2
  constructor
  · intro h
    have hp := runs_prp h1 h2 hs.1 hs.2
    obtain ⟨r, hr, q1, q2⟩ := inC_mem.1 h
    have hpr := hp r hr
    have hd : 1 ≤ d ∧ d ≤ size a b := by omega
    refine ⟨hd, ?_⟩
    have hc := (runs_all h1 h2 hs.1 hs.2).2.2.1 d hd.1 (by omega)
    have h1' := inC_cnt.1 h
    rw [hc] at h1'
    unfold arc
    split at h1' <;> omega
  · rintro ⟨hd, ha⟩
    refine inC_cnt.2 ?_
    rw [(runs_all h1 h2 hs.1 hs.2).2.2.1 d hd.1 (by omega), if_pos]
    · exact Int.le_refl _
    · refine ⟨hd.2, ?_⟩
      unfold arc at ha
      omega
/-- Spans, covered in order. -/
def cvs (a b : Int) (l : List (Int × Int)) (ys : List (Int × Int)) : List (Int × Int) := ys.foldl (cvr a b) l
theorem cvs_ok {a b : Int} (h1 : u32r a) (h2 : u32r b) : ∀ {ys l : List (Int × Int)}, Nm (size a b) (-1) l → (∀ y, y ∈ ys → okS y) → Nm (size a b) (-1) (cvs a b l ys) ∧ ∀ d, inC (cvs a b l ys) d ↔ inC l d ∨ ∃ y, y ∈ ys ∧ inC (runs a b y.1 y.2) d
  | [], l, hl, _ => ⟨hl, fun d => by simp [cvs]⟩
  | y :: ys, l, hl, hy => by
    have h0 := hy y (List.mem_cons_self ..)
    obtain ⟨j1, j2⟩ := cvs_ok h1 h2 (ys := ys) (cvr_nm h1 h2 hl h0) fun x hx => hy x (List.mem_cons_of_mem _ hx)
    refine ⟨j1, fun d => ?_⟩
    show inC (cvs a b (cvr a b l y) ys) d ↔ _
    rw [j2, cvr_in h1 h2 hl h0, or_assoc]
    simp
theorem cvs_snoc (a b : Int) (l : List (Int × Int)) {ys : List (Int × Int)} {i : Nat} (h : i < ys.length) : cvs a b l (ys.take (i + 1)) = cvr a b (cvs a b l (ys.take i)) ys[i] := by
  unfold cvs; rw [List.take_succ_eq_append_getElem h, List.foldl_append]; rfl
/-- Covered twice, the same is left. -/
theorem cvr_twice {a b : Int} (h1 : u32r a) (h2 : u32r b) {l : List (Int × Int)} (hl : Nm (size a b) (-1) l) {s : Int × Int} (hs : okS s) : cvr a b (cvr a b l s) s = cvr a b l s := by
  have h3 := cvr_nm h1 h2 hl hs
  refine Nm_ext (cvr_nm h1 h2 h3 hs) h3 fun d => ?_
  rw [cvr_in h1 h2 h3 hs, cvr_in h1 h2 hl hs]
  constructor
  · rintro (h | h)
    · exact h
    · exact .inr h
  · exact .inl
theorem cvs_alike {a b : Int} (h1 : u32r a) (h2 : u32r b) {ys zs : List (Int × Int)} (hy : ∀ y, y ∈ ys → okS y) (h : ∀ x, x ∈ zs ↔ x ∈ ys) : cvs a b [] zs = cvs a b [] ys := by
  obtain ⟨a1, a2⟩ := cvs_ok h1 h2 (ys := zs) (l := []) trivial fun y hz => hy y ((h y).1 hz)
  obtain ⟨b1, b2⟩ := cvs_ok h1 h2 (ys := ys) (l := []) trivial hy
  refine Nm_ext a1 b1 fun d => ?_
  rw [a2, b2]
  constructor
  · rintro (q | ⟨y, q, r⟩)
    · exact .inl q
    · exact .inr ⟨y, (h y).1 q, r⟩
  · rintro (q | ⟨y, q, r⟩)
    · exact .inl q
    · exact .inr ⟨y, (h y).2 q, r⟩

/-! Gaps. -/
theorem ord_of {S : Int} {l : List (Int × Int)} (hS : 0 ≤ S) (h : Nm S (-1) l) : Ord 0 S l := by
  cases l with
  | nil => exact hS
  | cons x l => exact h.ord (.inl (by have := h.1; have := h.2.1; have := h.2.2.1; omega)) 0 (by omega) hS
theorem others_prp {S : Int} (hS : 0 ≤ S ∧ S ≤ 4294967296) {l : List (Int × Int)} (h : Nm S (-1) l) : Vld (others l S) ∧ Prp S (others l S) := by
  have ho := ord_of hS.1 h
  have hv := Vld_others S hS.2 l 0 (Int.le_refl _) ho
  refine ⟨hv, fun r hr => ?_⟩
  have hd : r.1 < r.2 ∧ 0 ≤ r.1 := by
    have : ∀ (l : List (Int × Int)), Vld l → ∀ r, r ∈ l → 0 ≤ r.1 ∧ r.1 < r.2 := fun l => by
      induction l with
      | nil => intro _ r h; simp at h
      | cons x l ih =>
        intro v r h
        rcases List.mem_cons.1 h with e | e
        · subst e; exact ⟨v.1.1, v.1.2.1⟩
        · exact ih v.2 r e
    have := this _ hv r hr
    exact ⟨this.2, this.1⟩
  have hc := cnt_others r.2 S l 0 ho
  have hi : inC (others l S) r.2 := inC_mem.2 ⟨r, hr, hd.1, Int.le_refl _⟩
  have h1 := inC_cnt.1 hi
  have h2 := cntR_pos r.2 l
  change cntR r.2 (others l S) + cntR r.2 l = _ at hc
  refine ⟨hd.2, hd.1, ?_⟩
  split at hc <;> omega
theorem others_in {S : Int} (hS : 0 ≤ S) {l : List (Int × Int)} (h : Nm S (-1) l) {d : Int} : inC (others l S) d ↔ (1 ≤ d ∧ d ≤ S) ∧ ¬ inC l d := by
  have hc := cnt_others d S l 0 (ord_of hS h)
  change cntR d (others l S) + cntR d l = _ at hc
  have h1 := cntR_pos d l
  have h2 := cntR_pos d (others l S)
  rw [inC_cnt, inC_cnt]
  split at hc <;> omega
theorem shift_ok {a : Int} (h1 : u32r a) (r : Int × Int) : okS (shift a r) := by unfold shift okS; simp only; omega
theorem shift_far {a : Int} (h1 : u32r a) {p q : Int} (hp : 0 ≤ p ∧ p < 4294967296) : far a (shift a (p, q)).1 = p := by unfold shift far; simp only; unfold u32r at h1; omega
/-- A part of a span has itself. -/
theorem runs_shift {a b : Int} (h1 : u32r a) (h2 : u32r b) {p q : Int} (hp : 0 ≤ p ∧ p < q ∧ q ≤ size a b) : runs a b (shift a (p, q)).1 (shift a (p, q)).2 = [(p, q)] := by
  have hS := size_rng a b
  have e1 := shift_far (q := q) h1 (p := p) (by omega)
  have e2 := size_shift h1 (p := p) (q := q) (by omega)
  unfold runs runs0
  rw [e1, e2, if_neg (by omega), if_pos (by omega), List.nil_append]
  show [(p, imin (imin (p + (q - p)) 4294967296) (size a b))] = [(p, q)]
  congr 2
  unfold imin
  split <;> split <;> omega
theorem gaps_ok {a : Int} (h1 : u32r a) (b : Int) (l : List (Int × Int)) : ∀ y, y ∈ gaps a b l → okS y := fun y hy => by
  obtain ⟨r, _, rfl⟩ := List.mem_map.1 hy
  exact shift_ok h1 r
/-- What is covered, and the gaps, are all. -/
theorem cvs_gaps {a b : Int} (h1 : u32r a) (h2 : u32r b) {l : List (Int × Int)} (hl : Nm (size a b) (-1) l) : cvs a b l (gaps a b l) = [(0, size a b)] := by
  have hS := size_rng a b
  have hp := size_pos h1 h2
  obtain ⟨a1, a2⟩ := cvs_ok h1 h2 hl (gaps_ok h1 b l)
  refine Nm_ext a1 (lo' := -1) ⟨by show (-1 : Int) < 0; decide, by show 0 < size a b; omega, Int.le_refl _, trivial⟩ fun d => ?_
  rw [a2]
  have ho := others_in (S := size a b) (by omega) hl (d := d)
  have hpr := (others_prp (S := size a b) ⟨by omega, by omega⟩ hl).2
  have key : (∃ y, y ∈ gaps a b l ∧ inC (runs a b y.1 y.2) d) ↔ inC (others l (size a b)) d := by
    constructor
    · rintro ⟨y, hy, h⟩
      obtain ⟨r, hr, rfl⟩ := List.mem_map.1 hy
      rw [runs_shift h1 h2 (hpr r hr)] at h
      rcases h with h | h
      · exact inC_mem.2 ⟨r, hr, h⟩
      · exact h.elim
    · intro h
      obtain ⟨r, hr, h⟩ := inC_mem.1 h
      refine ⟨shift a r, List.mem_map.2 ⟨r, hr, rfl⟩, ?_⟩
      rw [runs_shift h1 h2 (hpr r hr)]
      exact .inl h
  rw [key, ho]
  constructor
  · rintro (h | h)
    · have := hl.rng h; exact .inl ⟨by simp only; omega, by simp only; omega⟩
    · exact .inl ⟨by simp only; omega, by simp only; omega⟩
  · rintro (h | h)
    · by_cases q : inC l d
      · exact .inl q
      · exact .inr ⟨by simp only at h; omega, q⟩
    · exact h.elim
end Go.Gh

