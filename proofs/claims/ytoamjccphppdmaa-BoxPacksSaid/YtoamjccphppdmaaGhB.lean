import Derived.Test.YtoamjccphppdmaaGhA

namespace Go.Gh

/-! The state of the objects, step by step. -/

theorem SR.heap {Γ : Ctx} {D : Nat → Prop} {ι : Nat → Hd} {M : Nat → GO} {w w' : World} (h : SR Γ D ι M w) (e : w'.heap = w.heap) : SR Γ D ι M w' := by
  refine ⟨fun id => ?_, h.liv, h.inj, fun b hb => by rw [e]; exact h.lt b hb, h.own, h.dj⟩
  exact (h.obj id).mono (fun g v hv => hv.mono (fun _ h => h) (fun _ h => h) (fun _ h => h) (fun _ _ => rfl) (fun b _ => by rw [e])) (fun g v hv => hv.mono (fun _ h => h) fun b _ => by rw [e]) (fun b _ _ => by rw [e])

theorem SR.dom {Γ : Ctx} {D D' : Nat → Prop} {ι : Nat → Hd} {M : Nat → GO} {w : World} (h : SR Γ D ι M w) (hD : ∀ i, D i → D' i) : SR Γ D' ι M w :=
  ⟨fun id => (h.obj id).mono (fun _ _ hv => hv.mono (fun _ h => h) (fun _ h => h) hD (fun _ _ => rfl) (fun _ _ => rfl)) (fun _ _ h => h) (fun _ _ _ => rfl),
   fun id hid => hD id (h.liv id hid), h.inj, h.lt, h.own, h.dj⟩

/-- An object let go. -/
def setF (M : Nat → GO) (id : Nat) (o : GO) : Nat → GO := fun i => if i = id then o else M i

theorem SR.drop {Γ : Ctx} {D : Nat → Prop} {ι : Nat → Hd} {M M' : Nat → GO} {w : World} (h : SR Γ D ι M w) (hM : ∀ i, M' i = .dead ∨ M' i = M i) : SR Γ D ι M' w := by
  refine ⟨fun id => ?_, fun id hid => h.liv id ?_, fun i j b hi hj => h.inj i j b ?_ ?_, h.lt, fun id b hid => h.own id b ?_, h.dj⟩
  · rcases hM id with e | e <;> rw [e]
    · trivial
    · exact h.obj id
  · rcases hM id with e | e <;> simp_all
  · rcases hM i with e | e <;> simp_all
  · rcases hM j with e | e <;> simp_all
  · rcases hM id with e | e <;> simp_all

/-- What stands in an object's block is written anew. -/
theorem SR.put {Γ : Ctx} {D : Nat → Prop} {ι : Nat → Hd} {M : Nat → GO} {w w' : World} (h : SR Γ D ι M w) {id : Nat} {o : GO} (hid : M id ≠ .dead)
    (hs : w.heap.size ≤ w'.heap.size) (hw : ∀ b, (ι id).A ≠ some b → b < w.heap.size → w'.heap[b]? = w.heap[b]?)
    (ho : OR (VR Γ.Im Γ.Bw D ι w') (VP Γ.Im w') w' (ι id) o) : SR Γ D ι (setF M id o) w' := by
  have hblk : ∀ b, Γ.Im b ∨ Γ.Bw b → w'.heap[b]? = w.heap[b]? := fun b hb =>
    hw b (fun e => h.own id b hid e (hb.elim .inl fun x => .inr (.inl x))) (h.lt b (hb.elim .inl fun x => .inr (.inl x)))
  have hVR : ∀ g v, VR Γ.Im Γ.Bw D ι w g v → VR Γ.Im Γ.Bw D ι w' g v := fun g v hv =>
    hv.mono (fun _ h => h) (fun _ h => h) (fun _ h => h) (fun _ _ => rfl) hblk
  have hne : ∀ i, setF M id o i ≠ .dead → M i ≠ .dead := fun i hi => by
    unfold setF at hi; split at hi
    · rename_i e; rw [e]; exact hid
    · exact hi
  refine ⟨fun i => ?_, fun i hi => h.liv i (hne i hi), fun i j b hi hj => h.inj i j b (hne i hi) (hne j hj), fun b hb => Nat.lt_of_lt_of_le (h.lt b hb) hs,
    fun i b hi => h.own i b (hne i hi), h.dj⟩
  by_cases e : i = id
  · subst e; simpa [setF] using ho
  · simp only [setF, if_neg e]
    refine (h.obj i).mono hVR (fun g v hv => hv.mono (fun _ h => h) fun b hb => hblk b (.inl hb)) fun b hdead hb => hw b (fun hb' => e (h.inj i id b hdead hid hb hb')) ((h.obj i).lt hdead hb)

/-- A new object; one of the old ones may have been let go with it, and its block be the new one's. -/
theorem SR.new {Γ : Ctx} {D D' : Nat → Prop} {ι ι' : Nat → Hd} {M M' : Nat → GO} {w w' : World} (h : SR Γ D ι M w) {nb : Nat} {o : GO} (hn : ¬ D nb)
    (hD : ∀ i, D' i ↔ D i ∨ i = nb) (hι : ∀ i, D i → ι' i = ι i) (hM : ∀ i, i ≠ nb → M' i = .dead ∨ M' i = M i) (hMn : M' nb = o)
    (hs : w.heap.size ≤ w'.heap.size)
    (hw : ∀ b, b < w.heap.size → (ι' nb).A ≠ some b → (∀ id, M id ≠ .dead → M' id = .dead → (ι id).A ≠ some b) → w'.heap[b]? = w.heap[b]?)
    (hb : ∀ b, (ι' nb).A = some b → w.heap.size ≤ b ∨ ∃ id, M id ≠ .dead ∧ M' id = .dead ∧ (ι id).A = some b)
    (ho : OR (VR Γ.Im Γ.Bw D' ι' w') (VP Γ.Im w') w' (ι' nb) o) : SR Γ D' ι' M' w' := by
  have hout : ∀ b, (ι' nb).A = some b → ¬ Γ.has b := fun b e hh => by
    rcases hb b e with h1 | ⟨id, h1, _, h3⟩
    · have := h.lt b hh; omega
    · exact h.own id b h1 h3 hh
  have hblk : ∀ b, Γ.Im b ∨ Γ.Bw b → w'.heap[b]? = w.heap[b]? := fun b hb' =>
    have hh : Γ.has b := hb'.elim .inl fun x => .inr (.inl x)
    hw b (h.lt b hh) (fun e => hout b e hh) (fun i hi _ e => h.own i b hi e hh)
  have hVR : ∀ g v, VR Γ.Im Γ.Bw D ι w g v → VR Γ.Im Γ.Bw D' ι' w' g v := fun g v hv =>
    hv.mono (fun _ h => h) (fun _ h => h) (fun i hi => (hD i).2 (.inl hi)) hι hblk
  have hold : ∀ i, M' i ≠ .dead → i ≠ nb → M i ≠ .dead ∧ M' i = M i := fun i hi hin => by
    rcases hM i hin with e | e
    · exact absurd e hi
    · exact ⟨e ▸ hi, e⟩
  have hclash : ∀ i b, M' i ≠ .dead → i ≠ nb → (ι' nb).A = some b → (ι' i).A = some b → False := fun i b hi hin e1 e2 => by
    obtain ⟨h1, h2⟩ := hold i hi hin
    rw [hι i (h.liv i h1)] at e2
    rcases hb b e1 with h3 | ⟨id, h3, h4, h5⟩
    · have := (h.obj i).lt h1 e2; omega
    · have := h.inj i id b h1 h3 e2 h5
      subst this
      exact hi h4
  refine ⟨fun i => ?_, fun i hi => ?_, fun i j b hi hj ei ej => ?_, fun b hb' => Nat.lt_of_lt_of_le (h.lt b hb') hs, fun i b hi ei => ?_, h.dj⟩
  · by_cases e : i = nb
    · subst e; rw [hMn]; exact ho
    · rcases hM i e with e1 | e1
      · rw [e1]; trivial
      · rw [e1]
        by_cases hd : M i = .dead
        · rw [hd]; trivial
        · rw [hι i (h.liv i hd)]
          refine (h.obj i).mono hVR (fun g v hv => hv.mono (fun _ h => h) fun b hb => hblk b (.inl hb)) fun b _ hb' => hw b ((h.obj i).lt hd hb') (fun e2 => hclash i b (e1 ▸ hd) e e2 (by rw [hι i (h.liv i hd)]; exact hb')) fun j hj hj' ej => ?_
          have := h.inj i j b hd hj hb' ej
          subst this
          rw [e1] at hj'
          exact hd hj'
  · by_cases e : i = nb
    · exact (hD i).2 (.inr e)
    · exact (hD i).2 (.inl (h.liv i (hold i hi e).1))
  · by_cases e1 : i = nb
    · by_cases e2 : j = nb
      · rw [e1, e2]
      · subst e1; exact (hclash j b hj e2 ei ej).elim
    · by_cases e2 : j = nb
      · subst e2; exact (hclash i b hi e1 ej ei).elim
      · obtain ⟨h1, _⟩ := hold i hi e1
        obtain ⟨h2, _⟩ := hold j hj e2
        rw [hι i (h.liv i h1)] at ei
        rw [hι j (h.liv j h2)] at ej
        exact h.inj i j b h1 h2 ei ej
  · by_cases e : i = nb
    · subst e; exact hout b ei
    · obtain ⟨h1, _⟩ := hold i hi e
      rw [hι i (h.liv i h1)] at ei
      exact h.own i b h1 ei

/-- A row that is read alone from now on. -/
theorem SR.freeze {Γ : Ctx} {D : Nat → Prop} {ι : Nat → Hd} {M M' : Nat → GO} {w : World} (h : SR Γ D ι M w) {id : Nat} (hid : M id ≠ .dead)
    (hM' : ∀ i, M' i = if i = id then .dead else M i) :
    SR ⟨fun b => Γ.Im b ∨ (ι id).A = some b, Γ.Bw, Γ.Fz⟩ D ι M' w := by
  have hne : ∀ i, M' i ≠ .dead → i ≠ id ∧ M i ≠ .dead := fun i hi => by
    rw [hM'] at hi; split at hi
    · exact absurd rfl hi
    · rename_i e; exact ⟨e, hi⟩
  refine ⟨fun i => ?_, fun i hi => h.liv i (hne i hi).2, fun i j b hi hj => h.inj i j b (hne i hi).2 (hne j hj).2, ?_, ?_, ?_⟩
  · rw [hM']; split
    · trivial
    · exact (h.obj i).mono (fun g v hv => hv.mono (fun _ => .inl) (fun _ h => h) (fun _ h => h) (fun _ _ => rfl) (fun _ _ => rfl)) (fun g v hv => hv.mono (fun _ => .inl) (fun _ _ => rfl)) (fun _ _ _ => rfl)
  · rintro b ((hb | hb) | hb)
    · exact h.lt b (.inl hb)
    · exact (h.obj id).lt hid hb
    · exact h.lt b (.inr hb)
  · rintro i b hi hb ((h1 | h1) | h1)
    · exact h.own i b (hne i hi).2 hb (.inl h1)
    · exact (hne i hi).1 (h.inj i id b (hne i hi).2 hid hb h1)
    · exact h.own i b (hne i hi).2 hb (.inr h1)
  · intro b
    refine ⟨?_, ?_, (h.dj b).2.2⟩
    · rintro (h1 | h1) h2
      · exact (h.dj b).1 h1 h2
      · exact h.own id b hid h1 (.inr (.inl h2))
    · rintro (h1 | h1) h2
      · exact (h.dj b).2.1 h1 h2
      · exact h.own id b hid h1 (.inr (.inr h2))

/-! One operation. -/

def updF (M : Nat → GO) (ups : List (Nat × GO)) (nb : Nat) (news : List GO) : Nat → GO := fun i =>
  if nb ≤ i ∧ i < nb + news.length then news.getD (i - nb) .dead else ((ups.find? (·.1 == i)).map (·.2)).getD (M i)

abbrev Rho := Operand → GV

/-- From ghost operands ρ, and objects M (of which those numbered 'ids' count), operation o makes g, turns objects 'ups', and makes new ones, numbered from nb on. -/
def OpS (P : Program) (o : Oper) (ρ : Rho) (nb : Nat) (M0 : Nat → GO) (ids : List Nat) (g : GV) (ups : List (Nat × GO)) (news : List GO) : Prop :=
  ∀ (Γ : Ctx) (D : Nat → Prop) (ι : Nat → Hd) (M : Nat → GO) (w : World) (a : Act) (K : Act → World → Prop) (Q : Exit → Act → World → Prop),
    SR Γ D ι M w → (∀ x, x ∈ o.op.operands → VR Γ.Im Γ.Bw D ι w (ρ x) (a.eval x)) → (∀ id, id ∈ ids → M id = M0 id) →
    (∀ i, nb ≤ i → i < nb + news.length → ¬ D i) →
    (∀ (Im' : Nat → Prop) (ι' : Nat → Hd) (v' : Value) (w' : World), Keep Γ w w' → (∀ b, Γ.Im b → Im' b) → (∀ i, D i → ι' i = ι i) →
      SR ⟨Im', Γ.Bw, Γ.Fz⟩ (fun i => D i ∨ (nb ≤ i ∧ i < nb + news.length)) ι' (updF M ups nb news) w' →
      VR Im' Γ.Bw (fun i => D i ∨ (nb ≤ i ∧ i < nb + news.length)) ι' w' g v' → K (a.put o.dst v') w') → o.wp P a w K Q

theorem updF_nil (M : Nat → GO) (nb : Nat) : updF M [] nb [] = M := by
  funext i
  unfold updF
  rw [if_neg (by simp only [List.length_nil]; omega)]
  rfl

theorem updF_one (M : Nat → GO) (nb : Nat) (id : Nat) (o : GO) : updF M [(id, o)] nb [] = setF M id o := by
  funext i
  unfold updF setF
  rw [if_neg (by simp only [List.length_nil]; omega)]
  by_cases e : i = id
  · subst e; simp
  · have : (id == i) = false := by simpa using fun h => e h.symm
    simp [this, e]

theorem dom_nil (D : Nat → Prop) (nb : Nat) : (fun i => D i ∨ (nb ≤ i ∧ i < nb + ([] : List GO).length)) = D := by
  funext i
  simp only [List.length_nil, Nat.add_zero, eq_iff_iff]
  constructor
  · rintro (h | h)
    · exact h
    · omega
  · exact .inl

/-- What reads alone. -/
theorem OpS.quiet {P : Program} {o : Oper} {ρ : Rho} {nb : Nat} {M0 : Nat → GO} {ids : List Nat} {g : GV}
    (h : ∀ (Γ : Ctx) (D : Nat → Prop) (ι : Nat → Hd) (M : Nat → GO) (w : World) (a : Act), SR Γ D ι M w →
      (∀ x, x ∈ o.op.operands → VR Γ.Im Γ.Bw D ι w (ρ x) (a.eval x)) → (∀ id, id ∈ ids → M id = M0 id) →
      ∃ v', VR Γ.Im Γ.Bw D ι w g v' ∧ (execOp a.eval o).run P w = .ok (.value v') w) : OpS P o ρ nb M0 ids g [] [] := by
  intro Γ D ι M w a K Q hS hV hM _ hk
  obtain ⟨v', hv, hr⟩ := h Γ D ι M w a hS hV hM
  have := hk Γ.Im ι v' w (Keep.refl _ _) (fun _ h => h) (fun _ _ => rfl)
  rw [updF_nil, dom_nil] at this
  unfold Oper.wp
  rw [hr]
  exact this hS hv

/-- What makes one object, in a block of its own. -/
theorem OpS.make {P : Program} {o : Oper} {ρ : Rho} {nb : Nat} {M0 : Nat → GO} {ids : List Nat} {g : GV} {ob : GO}
    (h : ∀ (Γ : Ctx) (D : Nat → Prop) (ι : Nat → Hd) (M : Nat → GO) (w : World) (a : Act), SR Γ D ι M w →
      (∀ x, x ∈ o.op.operands → VR Γ.Im Γ.Bw D ι w (ρ x) (a.eval x)) → (∀ id, id ∈ ids → M id = M0 id) → ¬ D nb →
      ∃ (hd : Hd) (v' : Value) (w' : World), (execOp a.eval o).run P w = .ok (.value v') w' ∧ w'.os = w.os ∧ w'.tape = w.tape ∧ w'.output = w.output ∧
        w.heap.size ≤ w'.heap.size ∧ (∀ b, b < w.heap.size → w'.heap[b]? = w.heap[b]?) ∧ (∀ b, hd.A = some b → w.heap.size ≤ b) ∧
        (∀ (D' : Nat → Prop) (ι' : Nat → Hd), (∀ i, D i → D' i) → D' nb → (∀ i, D i → ι' i = ι i) → ι' nb = hd →
          OR (VR Γ.Im Γ.Bw D' ι' w') (VP Γ.Im w') w' hd ob ∧ VR Γ.Im Γ.Bw D' ι' w' g v')) : OpS P o ρ nb M0 ids g [] [ob] := by
  intro Γ D ι M w a K Q hS hV hM hf hk
  have hn : ¬ D nb := hf nb (Nat.le_refl _) (by simp)
  obtain ⟨hd, v', w', hr, h1, h2, h3, h4, h5, h6, h7⟩ := h Γ D ι M w a hS hV hM hn
  have hD : (fun i => D i ∨ (nb ≤ i ∧ i < nb + [ob].length)) = fun i => D i ∨ i = nb := by
    funext i; simp only [List.length_singleton, eq_iff_iff]
    constructor <;> rintro (h | h) <;> first | exact .inl h | (right; omega)
  have := hk Γ.Im (fun i => if i = nb then hd else ι i) v' w' ⟨h1, h2, h3, h4, fun b hb => h5 b (hS.lt b hb)⟩ (fun _ h => h)
    (fun i hi => by rw [if_neg]; rintro rfl; exact hn hi)
  rw [hD] at this
  obtain ⟨h8, h9⟩ := h7 (fun i => D i ∨ i = nb) (fun i => if i = nb then hd else ι i) (fun _ => .inl) (.inr rfl)
    (fun i hi => by rw [if_neg]; rintro rfl; exact hn hi) (by simp)
  unfold Oper.wp
  rw [hr]
  refine this (hS.new hn (fun i => Iff.rfl) (fun i hi => by rw [if_neg]; rintro rfl; exact hn hi) (o := ob) ?_ ?_ h4 ?_ ?_ ?_) h9
  · intro i hi
    right
    unfold updF
    rw [if_neg (by simp; omega)]
    rfl
  · unfold updF
    rw [if_pos (by simp)]
    simp
  · intro b hb _ _; exact h5 b hb
  · intro b hb; simp at hb; exact .inl (h6 b hb)
  · simpa using h8

/-- What writes into one object. -/
theorem OpS.write {P : Program} {o : Oper} {ρ : Rho} {nb : Nat} {M0 : Nat → GO} {id : Nat} {ob : GO} (hid : M0 id ≠ .dead)
    (h : ∀ (Γ : Ctx) (D : Nat → Prop) (ι : Nat → Hd) (M : Nat → GO) (w : World) (a : Act), SR Γ D ι M w →
      (∀ x, x ∈ o.op.operands → VR Γ.Im Γ.Bw D ι w (ρ x) (a.eval x)) → M id = M0 id →
      ∃ (w' : World), ((execOp a.eval o).run P w = .ok .skip w') ∧ w'.os = w.os ∧ w'.tape = w.tape ∧ w'.output = w.output ∧
        w.heap.size ≤ w'.heap.size ∧ (∀ b, (ι id).A ≠ some b → w'.heap[b]? = w.heap[b]?) ∧
        ((∀ g v, VR Γ.Im Γ.Bw D ι w g v → VR Γ.Im Γ.Bw D ι w' g v) → (∀ g v, VP Γ.Im w g v → VP Γ.Im w' g v) → OR (VR Γ.Im Γ.Bw D ι w') (VP Γ.Im w') w' (ι id) ob)) : OpS P o ρ nb M0 [id] .any [(id, ob)] [] := by
  intro Γ D ι M w a K Q hS hV hM _ hk
  have hMi := hM id (by simp)
  obtain ⟨w', hr, h1, h2, h3, h4, h5, h6⟩ := h Γ D ι M w a hS hV hMi
  have hld : M id ≠ .dead := by rw [hMi]; exact hid
  have hkp : Keep Γ w w' := ⟨h1, h2, h3, h4, fun b hb => h5 b fun e => hS.own id b hld e hb⟩
  have hVR : ∀ g v, VR Γ.Im Γ.Bw D ι w g v → VR Γ.Im Γ.Bw D ι w' g v := fun g v hv =>
    hv.mono (fun _ h => h) (fun _ h => h) (fun _ h => h) (fun _ _ => rfl) fun b hb => hkp.block b (hb.elim .inl fun x => .inr (.inl x))
  have := hk Γ.Im ι undef w' hkp (fun _ h => h) (fun _ _ => rfl)
  rw [updF_one, dom_nil] at this
  unfold Oper.wp
  rw [hr]
  exact this (hS.put hld h4 (fun b hb _ => h5 b hb) (h6 hVR fun g v hv => hv.mono (fun _ h => h) fun b hb => hkp.block b (.inl hb))) (.imm (.any _))

end Go.Gh
