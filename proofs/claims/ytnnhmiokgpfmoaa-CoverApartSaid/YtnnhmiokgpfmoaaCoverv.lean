import Derived.Test.YtnnhmiokgpfmoaaCircleLaw

namespace Go.Gh
set_option linter.unusedVariables false
set_option linter.unusedSimpArgs false

/-! Layer 2, plain: runs that rise and are apart. -/
def Nm (S lo : Int) : List (Int × Int) → Prop
  | [] => True
  | r :: l => lo < r.1 ∧ r.1 < r.2 ∧ r.2 ≤ S ∧ Nm S r.2 l
def inC : List (Int × Int) → Int → Prop
  | [], _ => False
  | r :: l, d => (r.1 < d ∧ d ≤ r.2) ∨ inC l d
theorem Nm.low {S lo lo' : Int} : ∀ {l : List (Int × Int)}, Nm S lo l → lo' ≤ lo → Nm S lo' l
  | [], _, _ => trivial
  | r :: l, h, hl => ⟨by have := h.1; omega, h.2⟩
theorem Nm.rng {S : Int} : ∀ {l : List (Int × Int)} {lo d : Int}, Nm S lo l → inC l d → lo + 1 < d ∧ d ≤ S
  | [], _, _, _, h => h.elim
  | r :: l, lo, d, h, hd => by
    obtain ⟨h1, h2, h3, h4⟩ := h
    rcases hd with hd | hd
    · omega
    · have := Nm.rng h4 hd; omega
theorem inC_app {d : Int} : ∀ {l r : List (Int × Int)}, inC (l ++ r) d ↔ inC l d ∨ inC r d
  | [], r => by simp [inC]
  | x :: l, r => by rw [List.cons_append, inC, inC, inC_app (l := l), or_assoc]
theorem inC_mem {d : Int} : ∀ {l : List (Int × Int)}, inC l d ↔ ∃ r, r ∈ l ∧ r.1 < d ∧ d ≤ r.2
  | [] => by simp [inC]
  | x :: l => by
    rw [inC, inC_mem (l := l)]
    constructor
    · rintro (h | ⟨r, hr, h⟩)
      · exact ⟨x, List.mem_cons_self .., h⟩
      · exact ⟨r, List.mem_cons_of_mem _ hr, h⟩
    · rintro ⟨r, hr, h⟩
      rcases List.mem_cons.1 hr with e | e
      · subst e; exact .inl h
      · exact .inr ⟨r, e, h⟩
theorem Nm_first {S : Int} {x y : Int × Int} {l r : List (Int × Int)} {lo lo' : Int} (hl : Nm S lo (x :: l)) (hr : Nm S lo' (y :: r)) (h : ∀ d, inC (x :: l) d → inC (y :: r) d) : y.1 ≤ x.1 := by
  have h1 := h (x.1 + 1) (.inl ⟨by omega, by have := hl.2.1; omega⟩)
  have := hr.2.1
  rcases h1 with h1 | h1
  · omega
  · have := (hr.2.2.2).rng h1; omega
theorem Nm_last {S : Int} {x y : Int × Int} {l r : List (Int × Int)} {lo lo' : Int} (hl : Nm S lo (x :: l)) (hr : Nm S lo' (y :: r)) (e : x.1 = y.1) (h : ∀ d, inC (y :: r) d → inC (x :: l) d) : y.2 ≤ x.2 := by
  rcases Int.lt_or_le x.2 y.2 with c | c
  · have h1 := h (x.2 + 1) (.inl ⟨by have := hl.2.1; omega, by omega⟩)
    rcases h1 with h1 | h1
    · omega
    · have := (hl.2.2.2).rng h1; omega
  · exact c
/-- Two that cover the same are the same. -/
theorem Nm_ext {S : Int} : ∀ {l r : List (Int × Int)} {lo lo' : Int}, Nm S lo l → Nm S lo' r → (∀ d, inC l d ↔ inC r d) → l = r
  | [], [], _, _, _, _, _ => rfl
  | [], y :: r, _, _, _, hr, h => ((h y.2).2 (.inl ⟨hr.2.1, Int.le_refl _⟩)).elim
  | x :: l, [], _, _, hl, _, h => ((h x.2).1 (.inl ⟨hl.2.1, Int.le_refl _⟩)).elim
  | x :: l, y :: r, _, _, hl, hr, h => by
    have e1 : x.1 = y.1 := Int.le_antisymm (Nm_first hr hl fun d => (h d).2) (Nm_first hl hr fun d => (h d).1)
    have e2 : x.2 = y.2 := Int.le_antisymm (Nm_last hr hl e1.symm fun d => (h d).1) (Nm_last hl hr e1 fun d => (h d).2)
    have e : x = y := Prod.ext e1 e2
    subst e
    rw [Nm_ext hl.2.2.2 hr.2.2.2 fun d => ?_]
    constructor
    · intro hd
      have := (hl.2.2.2).rng hd
      rcases (h d).1 (.inr hd) with c | c
      · omega
      · exact c
    · intro hd
      have := (hr.2.2.2).rng hd
      rcases (h d).2 (.inr hd) with c | c
      · omega
      · exact c

/-! How the program covers a run. -/
def scan : List (Int × Int) → Int × Int → List (Int × Int) × (Int × Int)
  | [], r => ([], r)
  | x :: l, r => if x.2 < r.1 ∨ x.1 > r.2 then (x :: (scan l r).1, (scan l r).2) else scan l (if x.1 < r.1 then x.1 else r.1, if x.2 > r.2 then x.2 else r.2)
def cins (a : Int) : List (Int × Int) → Nat
  | [] => 0
  | x :: l => if x.1 < a then cins a l + 1 else 0
def insR (o : List (Int × Int)) (r : Int × Int) : List (Int × Int) := o.take (cins r.1 o) ++ [r] ++ o.drop (cins r.1 o)
def cadd (l : List (Int × Int)) (r : Int × Int) : List (Int × Int) := insR (scan l r).1 (scan l r).2
theorem cins_le (a : Int) : ∀ l, cins a l ≤ l.length
  | [] => Nat.le_refl _
  | x :: l => by
    have := cins_le a l
    unfold cins; split <;> simp <;> omega
theorem insR_cons (x : Int × Int) (o : List (Int × Int)) (r : Int × Int) : insR (x :: o) r = if x.1 < r.1 then x :: insR o r else r :: x :: o := by
  unfold insR
  rw [cins]
  split <;> simp
theorem scan_lo {S : Int} : ∀ {l : List (Int × Int)} {lo : Int} {r : Int × Int}, Nm S lo l → lo < r.1 → lo < (scan l r).2.1
  | [], _, _, _, h => h
  | x :: l, lo, r, hl, h => by
    have hl2 : Nm S lo l := hl.2.2.2.low (by have := hl.1; have := hl.2.1; omega)
    rw [scan]
    split
    · exact scan_lo hl2 h
    · refine scan_lo hl2 ?_
      have := hl.1
      simp only; split <;> omega
theorem scan_far {S : Int} : ∀ {l : List (Int × Int)} {lo : Int} {r : Int × Int}, Nm S lo l → r.2 ≤ lo → scan l r = (l, r)
  | [], _, _, _, _ => rfl
  | x :: l, lo, r, hl, h => by
    have h1 := hl.1
    have h2 := hl.2.1
    rw [scan, if_pos (Or.inr (by omega)), scan_far hl.2.2.2 (by omega)]
theorem cadd_ok {S : Int} : ∀ {l : List (Int × Int)} {lo : Int} {r : Int × Int}, Nm S lo l → lo < r.1 → r.1 < r.2 → r.2 ≤ S → Nm S lo (cadd l r) ∧ ∀ d, inC (cadd l r) d ↔ inC l d ∨ (r.1 < d ∧ d ≤ r.2)
  | [], lo, r, _, h1, h2, h3 => ⟨⟨h1, h2, h3, trivial⟩, fun d => by simp [cadd, scan, insR, cins, inC]⟩
  | x :: l, lo, r, hl, h1, h2, h3 => by
    obtain ⟨k1, k2, k3, k4⟩ := hl
    by_cases c1 : x.2 < r.1
    · have e : cadd (x :: l) r = x :: cadd l r := by
        have hlo := scan_lo k4 c1
        unfold cadd
        rw [scan, if_pos (Or.inl c1)]
        simp only
        rw [insR_cons, if_pos (by omega)]
      obtain ⟨i1, i2⟩ := cadd_ok k4 c1 h2 h3
      rw [e]
      refine ⟨⟨k1, k2, k3, i1⟩, fun d => ?_⟩
      rw [inC, inC, i2, or_assoc]
    · by_cases c2 : x.1 > r.2
      · have e : cadd (x :: l) r = r :: x :: l := by
          unfold cadd
          rw [scan, if_pos (Or.inr c2), scan_far k4 (by omega)]
          simp only
          rw [insR_cons, if_neg (by omega)]
        rw [e]
        refine ⟨⟨h1, h2, h3, by omega, k2, k3, k4⟩, fun d => ?_⟩
        rw [inC, or_comm]
      · have e : cadd (x :: l) r = cadd l (if x.1 < r.1 then x.1 else r.1, if x.2 > r.2 then x.2 else r.2) := by
          unfold cadd
          rw [scan, if_neg (by omega)]
        obtain ⟨i1, i2⟩ := cadd_ok (l := l) (lo := lo) (r := (if x.1 < r.1 then x.1 else r.1, if x.2 > r.2 then x.2 else r.2)) (k4.low (by omega)) (by simp only; split <;> omega) (by simp only; split <;> split <;> omega) (by simp only; split <;> omega)
        rw [e]
        refine ⟨i1, fun d => ?_⟩
        rw [i2, inC]
        simp only
        constructor
        · rintro (h | h)
          · exact .inl (.inr h)
          · split at h <;> split at h <;> first | (exact .inr (by omega)) | (exact .inl (.inl (by omega))) | (by_cases q : x.1 < d ∧ d ≤ x.2; exact .inl (.inl q); exact .inr (by omega))
        · rintro ((h | h) | h)
          · right; split <;> split <;> omega
          · exact .inl h
          · right; split <;> split <;> omega
def caddL (l : List (Int × Int)) (rs : List (Int × Int)) : List (Int × Int) := rs.foldl cadd l
/-- Runs that are none, of so many steps. -/
def Prp (S : Int) (rs : List (Int × Int)) : Prop := ∀ r, r ∈ rs → 0 ≤ r.1 ∧ r.1 < r.2 ∧ r.2 ≤ S
theorem caddL_ok {S : Int} : ∀ {rs l : List (Int × Int)}, Nm S (-1) l → Prp S rs → Nm S (-1) (caddL l rs) ∧ ∀ d, inC (caddL l rs) d ↔ inC l d ∨ inC rs d
  | [], l, hl, _ => ⟨hl, fun d => by simp [caddL, inC]⟩
  | r :: rs, l, hl, hr => by
    have h0 := hr r (List.mem_cons_self ..)
    obtain ⟨i1, i2⟩ := cadd_ok hl (r := r) (by omega) h0.2.1 h0.2.2
    obtain ⟨j1, j2⟩ := caddL_ok (rs := rs) i1 fun x hx => hr x (List.mem_cons_of_mem _ hx)
    refine ⟨j1, fun d => ?_⟩
    show inC (caddL (cadd l r) rs) d ↔ _
    rw [j2, i2, inC, or_assoc]

/-! How the document does. -/
def posU (a : Int) : List (Int × Int) → Nat
  | [] => 0
  | x :: l => if x.1 ≤ a then posU a l + 1 else 0
def insS (o : List (Int × Int)) (x : Int × Int) : List (Int × Int) := o.take (posU x.1 o) ++ [x] ++ o.drop (posU x.1 o)
def srt (l : List (Int × Int)) : List (Int × Int) := l.foldl insS []
def Srt (l : List (Int × Int)) : Prop := l.Pairwise (fun x y => x.1 ≤ y.1)
theorem posU_le (a : Int) : ∀ l, posU a l ≤ l.length
  | [] => Nat.le_refl _
  | x :: l => by
    have := posU_le a l
    unfold posU; split <;> simp <;> omega
theorem insS_cons (y : Int × Int) (o : List (Int × Int)) (x : Int × Int) : insS (y :: o) x = if y.1 ≤ x.1 then y :: insS o x else x :: y :: o := by
  unfold insS
  rw [posU]
  split <;> simp
theorem insS_mem {o : List (Int × Int)} {x y : Int × Int} : y ∈ insS o x ↔ y = x ∨ y ∈ o := by
  induction o with
  | nil => simp [insS, posU]
  | cons z o ih =>
    rw [insS_cons]
    split
    · simp only [List.mem_cons, ih]
      constructor
      · rintro (h | h | h)
        · exact .inr (.inl h)
        · exact .inl h
        · exact .inr (.inr h)
      · rintro (h | h | h)
        · exact .inr (.inl h)
        · exact .inl h
        · exact .inr (.inr h)
    · simp
theorem insS_srt {x : Int × Int} : ∀ {o : List (Int × Int)}, Srt o → Srt (insS o x)
  | [], _ => by simp [insS, posU, Srt]
  | y :: o, h => by
    obtain ⟨h1, h2⟩ := List.pairwise_cons.1 h
    rw [insS_cons]
    split
    · rename_i c
      refine List.pairwise_cons.2 ⟨fun z hz => ?_, insS_srt h2⟩
      rcases insS_mem.1 hz with e | e
      · rw [e]; exact c
      · exact h1 z e
    · rename_i c
      refine List.pairwise_cons.2 ⟨fun z hz => ?_, h⟩
      rcases List.mem_cons.1 hz with e | e
      · rw [e]; omega
      · have := h1 z e; omega
theorem insS_len (o : List (Int × Int)) (x : Int × Int) : (insS o x).length = o.length + 1 := by
  have := posU_le x.1 o
  unfold insS; simp; omega
theorem srt_snoc {l : List (Int × Int)} {i : Nat} (h : i < l.length) : srt (l.take (i + 1)) = insS (srt (l.take i)) l[i] := by
  unfold srt; rw [List.take_succ_eq_append_getElem h, List.foldl_append]; rfl
theorem srt_ok : ∀ (k : Nat) {l : List (Int × Int)}, k ≤ l.length → Srt (srt (l.take k)) ∧ (srt (l.take k)).length = k ∧ ∀ x, x ∈ srt (l.take k) ↔ x ∈ l.take k
  | 0, l, _ => ⟨by rw [List.take_zero]; exact .nil, by rw [List.take_zero]; rfl, fun x => by rw [List.take_zero]; exact Iff.rfl⟩
  | k + 1, l, hk => by
    have hkl : k < l.length := by omega
    obtain ⟨h1, h2, h3⟩ := srt_ok k (l := l) (by omega)
    rw [srt_snoc hkl]
    refine ⟨insS_srt h1, by rw [insS_len, h2], fun x => ?_⟩
    rw [insS_mem, h3, List.take_succ_eq_append_getElem hkl, List.mem_append, List.mem_singleton, or_comm]
def mgo : Int × Int → List (Int × Int) → List (Int × Int)
  | c, [] => [c]
  | c, y :: l => if c.2 ≥ y.1 then mgo (c.1, if y.2 > c.2 then y.2 else c.2) l else c :: mgo y l
def mrg : List (Int × Int) → List (Int × Int)
  | [] => []
  | x :: l => mgo x l
theorem mgo_ok {S : Int} : ∀ {l : List (Int × Int)} {lo : Int} {c : Int × Int}, Srt (c :: l) → lo < c.1 → c.1 < c.2 → c.2 ≤ S → (∀ y, y ∈ l → y.1 < y.2 ∧ y.2 ≤ S) → Nm S lo (mgo c l) ∧ ∀ d, inC (mgo c l) d ↔ (c.1 < d ∧ d ≤ c.2) ∨ inC l d
  | [], lo, c, _, h1, h2, h3, _ => ⟨⟨h1, h2, h3, trivial⟩, fun d => Iff.rfl⟩
  | y :: l, lo, c, hs, h1, h2, h3, hl => by
    obtain ⟨s1, s2⟩ := List.pairwise_cons.1 hs
    obtain ⟨s3, s4⟩ := List.pairwise_cons.1 s2
    have hy := hl y (List.mem_cons_self ..)
    have hl2 : ∀ z, z ∈ l → z.1 < z.2 ∧ z.2 ≤ S := fun z hz => hl z (List.mem_cons_of_mem _ hz)
    have hcy := s1 y (List.mem_cons_self ..)
    rw [mgo]
    split
    · rename_i g
      obtain ⟨i1, i2⟩ := mgo_ok (l := l) (lo := lo) (c := (c.1, if y.2 > c.2 then y.2 else c.2)) (List.pairwise_cons.2 ⟨fun z hz => s1 z (List.mem_cons_of_mem _ hz), s4⟩) h1 (by simp only; split <;> omega) (by simp only; split <;> omega) hl2
      refine ⟨i1, fun d => ?_⟩
      rw [i2, inC]
      simp only
      constructor
      · rintro (h | h)
        · by_cases q : c.1 < d ∧ d ≤ c.2
          · exact .inl q
          · refine .inr (.inl ?_); split at h <;> omega
        · exact .inr (.inr h)
      · rintro (h | h | h)
        · left; split <;> omega
        · left; split <;> omega
        · exact .inr h
    · rename_i g
      obtain ⟨i1, i2⟩ := mgo_ok (l := l) (lo := c.2) (c := y) s2 (by omega) hy.1 hy.2 hl2
      refine ⟨⟨h1, h2, h3, i1⟩, fun d => ?_⟩
      rw [inC, i2, inC]
theorem mrg_ok {S : Int} {l : List (Int × Int)} (hs : Srt l) (hp : Prp S l) : Nm S (-1) (mrg l) ∧ ∀ d, inC (mrg l) d ↔ inC l d := by
  cases l with
  | nil => exact ⟨trivial, fun d => Iff.rfl⟩
  | cons x l =>
    have h0 := hp x (List.mem_cons_self ..)
    exact mgo_ok hs (by omega) h0.2.1 h0.2.2 fun y hy => (hp y (List.mem_cons_of_mem _ hy)).2
theorem Nm.prp {S : Int} : ∀ {l : List (Int × Int)} {lo : Int}, -1 ≤ lo → Nm S lo l → Prp S l
  | [], _, _, _ => fun r h => by simp at h
  | x :: l, lo, h0, h => fun r hr => by
    have h1 := h.1
    have h2 := h.2.1
    rcases List.mem_cons.1 hr with e | e
    · subst e; exact ⟨by omega, h2, h.2.2.1⟩
    · exact Nm.prp (by omega) h.2.2.2 r e
/-- Both cover alike. -/
theorem cover_same {S : Int} {l rs : List (Int × Int)} (hl : Nm S (-1) l) (hr : Prp S rs) : mrg (srt (l ++ rs)) = caddL l rs := by
  obtain ⟨a1, a2⟩ := caddL_ok hl hr
  obtain ⟨s1, s2, s3⟩ := srt_ok (l ++ rs).length (l := l ++ rs) (Nat.le_refl _)
  rw [List.take_length] at s1 s2 s3
  have hp : Prp S (srt (l ++ rs)) := fun r h => by
    rcases List.mem_append.1 ((s3 r).1 h) with c | c
    · exact hl.prp (Int.le_refl _) r c
    · exact hr r c
  obtain ⟨b1, b2⟩ := mrg_ok s1 hp
  refine Nm_ext b1 a1 fun d => ?_
  rw [b2, a2, ← inC_app, inC_mem, inC_mem]
  constructor
  · rintro ⟨r, h, q⟩; exact ⟨r, (s3 r).1 h, q⟩
  · rintro ⟨r, h, q⟩; exact ⟨r, (s3 r).2 h, q⟩

/-! How much is covered. -/
theorem Nm.tot {S : Int} : ∀ {l : List (Int × Int)} {lo : Int}, -1 ≤ lo → Nm S lo l → 0 ≤ totR l ∧ (l ≠ [] → totR l ≤ S - lo - 1)
  | [], _, _, _ => ⟨Int.le_refl _, fun h => absurd rfl h⟩
  | x :: l, lo, h0, h => by
    have h1 := h.1
    have h2 := h.2.1
    have h3 := h.2.2.1
    have ih := Nm.tot (l := l) (lo := x.2) (by omega) h.2.2.2
    rw [totR]
    refine ⟨by omega, fun _ => ?_⟩
    by_cases e : l = []
    · subst e; simp only [totR]; omega
    · have := ih.2 e; omega
theorem Nm.tot_le {S : Int} {l : List (Int × Int)} (h : Nm S (-1) l) (hS : 0 ≤ S) : 0 ≤ totR l ∧ totR l ≤ S := by
  obtain ⟨a, b⟩ := h.tot (Int.le_refl _)
  by_cases e : l = []
  · subst e; exact ⟨a, hS⟩
  · have := b e; exact ⟨a, by omega⟩
theorem Nm.ord {S : Int} : ∀ {l : List (Int × Int)} {lo : Int}, Nm S lo l → lo < S ∨ l = [] → ∀ a, a ≤ lo + 1 → a ≤ S → Ord a S l
  | [], _, _, _, a, _, h => h
  | x :: l, lo, h, _, a, ha, hS => ⟨by have := h.1; omega, by have := h.2.1; omega, by
      by_cases e : l = []
      · subst e; exact h.2.2.1
      · cases l with
        | nil => exact absurd rfl e
        | cons y l =>
          have k := h.2.2.2
          exact Nm.ord k (.inl (by have := k.1; have := k.2.1; have := k.2.2.1; omega)) x.2 (by omega) h.2.2.1⟩
theorem tot_snoc : ∀ (l : List (Int × Int)) (r : Int × Int), totR (l ++ [r]) = totR l + (r.2 - r.1)
  | [], r => by simp [totR]
  | x :: l, r => by rw [List.cons_append, totR, totR, tot_snoc l r]; omega
theorem runs_prp {a1 a2 b1 b2 : Int} (h1 : u32r a1) (h2 : u32r a2) (h3 : u32r b1) (h4 : u32r b2) : Prp (size a1 a2) (runs a1 a2 b1 b2) := by
  obtain ⟨v, o, _⟩ := runs_all h1 h2 h3 h4
  have key : ∀ (l : List (Int × Int)) (a S : Int), Vld l → Ord a S l → Prp S l := fun l => by
    induction l with
    | nil => intro a S _ _ r h; simp at h
    | cons x l ih =>
      intro a S v o r hr
      rcases List.mem_cons.1 hr with e | e
      · subst e; have := Ord_le o.2.2; exact ⟨v.1.1, v.1.2.1, this⟩
      · exact ih _ _ v.2 o.2.2 r e
  exact key _ _ _ v o
end Go.Gh

