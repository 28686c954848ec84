import Derived.Test.YtoamjccphppdmaaGhN

namespace Go.Gh

def rhoOf (σ : List GV) : Rho
  | .tmp t => σ.getD t .any
  | .const v => .lit v
  | .global _ => .any
  | .func f => .lit (.func (.func f) #[] #[])

def putS (σ : List GV) (d : Option Tmp) (g : GV) : List GV :=
  match d with
  | some t => σ.set t g
  | none => σ

def updL (M : List GO) (ups : List (Nat × GO)) (news : List GO) : List GO :=
  match ups with
  | [] => M ++ news
  | ups => M.mapIdx (fun i o => ((ups.find? (·.1 == i)).map (·.2)).getD o) ++ news

theorem getM_updL (M : List GO) (ups : List (Nat × GO)) (news : List GO) (hu : ∀ x, x ∈ ups → x.1 < M.length) : getM (updL M ups news) = updF (getM M) ups M.length news := by
  have gen : getM (M.mapIdx (fun i o => ((ups.find? (·.1 == i)).map (·.2)).getD o) ++ news) = updF (getM M) ups M.length news := by
    funext i
    unfold updF getM
    by_cases h1 : i < M.length
    · rw [if_neg (by omega), List.getD_eq_getElem?_getD, List.getElem?_append_left (by simpa using h1)]
      simp [h1]
    · by_cases h2 : i < M.length + news.length
      · rw [if_pos (by omega)]
        simp only [List.getD_eq_getElem?_getD]
        rw [List.getElem?_append_right (by simp; omega)]
        simp
      · rw [if_neg (by omega)]
        have : ups.find? (·.1 == i) = none := by
          rw [List.find?_eq_none]
          intro x hx
          have := hu x hx
          simp; omega
        rw [this]
        simp only [List.getD_eq_getElem?_getD]
        rw [List.getElem?_eq_none (by simp; omega), List.getElem?_eq_none (by omega)]
        rfl
  cases ups with
  | nil =>
    rw [← gen]
    have : M.mapIdx (fun i o => (((([] : List (Nat × GO)).find? (·.1 == i)).map (·.2)).getD o)) = M := by
      apply List.ext_getElem?
      intro i
      simp
    rw [this]; rfl
  | cons x l => exact gen

theorem updL_length (M : List GO) (ups : List (Nat × GO)) (news : List GO) : (updL M ups news).length = M.length + news.length := by
  cases ups <;> simp [updL]

/-- What a skipped operation leaves. -/
def gundef : GV := .lit (.tuple #[])

/-- Is this operation wanted? -/
def gwant (ops : Array Oper) (σ : List GV) (o : Oper) : Option Bool :=
  match o.guard with
  | none => some true
  | some (j, want) => match (ops[j]?).bind (·.dst) with
    | some d => match σ[d]? with
      | some (.lit (.bool b)) => some (b == want)
      | some (.lit (.tuple _)) => some false
      | _ => none
    | none => none

/-- What an operation did. -/
structure Rec where
  dst : Option Tmp
  ids : List Nat
  g : GV
  ups : List (Nat × GO)
  nb : Nat
  news : List GO

/-- A region's operations, in the text's order. -/
inductive TR (P : Program) (ops : Array Oper) : List Oper → List GV → List GO → List Rec → List GV → List GO → Prop
  | nil (σ M) : TR P ops [] σ M [] σ M
  | skip {o rest σ M tr σ' M'} (hg : gwant ops σ o = some false) (h : TR P ops rest (putS σ o.dst gundef) M tr σ' M') :
      TR P ops (o :: rest) σ M (⟨o.dst, [], gundef, [], M.length, []⟩ :: tr) σ' M'
  | step {o rest σ M tr σ' M' ids g ups news} (hg : gwant ops σ o = some true) (hs : OpS P o (rhoOf σ) M.length (getM M) ids g ups news)
      (hu : ∀ x, x ∈ ups → x.1 < M.length) (h : TR P ops rest (putS σ o.dst g) (updL M ups news) tr σ' M') :
      TR P ops (o :: rest) σ M (⟨o.dst, ids, g, ups, M.length, news⟩ :: tr) σ' M'

def SL (Γ : Ctx) (D : Nat → Prop) (ι : Nat → Hd) (w : World) (σ : List GV) (a : Act) : Prop :=
  a.tmps.size = σ.length ∧ ∀ (t : Nat) g, σ[t]? = some g → VR Γ.Im Γ.Bw D ι w g (a.tmps.getD t undef)

theorem SL.mono {Γ Γ' : Ctx} {D D' : Nat → Prop} {ι ι' : Nat → Hd} {w w' : World} {σ : List GV} {a : Act} (h : SL Γ D ι w σ a) (hI : ∀ b, Γ.Im b → Γ'.Im b) (hB : ∀ b, Γ.Bw b → Γ'.Bw b) (hD : ∀ i, D i → D' i)
    (hι : ∀ i, D i → ι' i = ι i) (hw : ∀ b, Γ.Im b ∨ Γ.Bw b → w'.heap[b]? = w.heap[b]?) : SL Γ' D' ι' w' σ a :=
  ⟨h.1, fun t g hg => (h.2 t g hg).mono hI hB hD hι hw⟩

theorem SL.eval {Γ : Ctx} {D : Nat → Prop} {ι : Nat → Hd} {w : World} {σ : List GV} {a : Act} (h : SL Γ D ι w σ a) (x : Operand) : VR Γ.Im Γ.Bw D ι w (rhoOf σ x) (a.eval x) := by
  cases x with
  | tmp t =>
    show VR _ _ _ _ _ (σ.getD t .any) (a.tmps.getD t undef)
    by_cases ht : t < σ.length
    · have : σ.getD t .any = σ[t] := by simp [ht]
      rw [this]
      exact h.2 t _ (List.getElem?_eq_getElem ht)
    · have : σ.getD t .any = .any := by rw [List.getD_eq_getElem?_getD, List.getElem?_eq_none (Nat.le_of_not_lt ht)]; rfl
      rw [this]
      exact .imm (.any _)
  | const v => exact .litv v
  | global g => exact .imm (.any _)
  | func f => exact .litv _

theorem SL.put {Γ : Ctx} {D : Nat → Prop} {ι : Nat → Hd} {w : World} {σ : List GV} {a : Act} (h : SL Γ D ι w σ a) (d : Option Tmp) {g : GV} {v : Value} (hv : VR Γ.Im Γ.Bw D ι w g v) : SL Γ D ι w (putS σ d g) (a.put d v) := by
  cases d with
  | none => exact h
  | some t =>
    refine ⟨by simp [Act.put, putS, h.1], fun t' g' hg => ?_⟩
    simp only [putS] at hg
    by_cases e : t = t'
    · subst e
      by_cases ht : t < σ.length
      · rw [List.getElem?_set_self ht] at hg
        cases hg
        have ht' : t < a.tmps.size := by rw [h.1]; exact ht
        have : (a.put (some t) v).tmps.getD t undef = v := by simp [Act.put, ht']
        rw [this]; exact hv
      · rw [List.getElem?_eq_none (by rw [List.length_set]; exact Nat.le_of_not_lt ht)] at hg; cases hg
    · rw [List.getElem?_set_ne e] at hg
      have : (a.put (some t) v).tmps.getD t' undef = a.tmps.getD t' undef := by
        simp only [Act.put, Array.getD_eq_getD_getElem?]
        rw [Array.getElem?_setIfInBounds_ne e]
      rw [this]; exact h.2 t' g' hg

theorem gwant_sound {ops : Array Oper} {σ : List GV} {o : Oper} {b : Bool} {Γ : Ctx} {D : Nat → Prop} {ι : Nat → Hd} {w : World} {a : Act} (h : gwant ops σ o = some b) (hs : SL Γ D ι w σ a) :
    Region.wanted o (yielded ops a.tmps) = b := by
  unfold gwant at h
  unfold Region.wanted
  split at h
  · rename_i hg
    rw [hg]; cases h; rfl
  · rename_i j want hg
    rw [hg]
    split at h
    · rename_i d hd
      split at h
      · rename_i b' hb
        cases h
        have h1 := (hs.2 d _ hb).lit_inv
        have hlt : d < a.tmps.size := by rw [hs.1]; exact (List.getElem?_eq_some_iff.1 hb).1
        have h2 : a.tmps[d]? = some (.bool b') := by
          rw [Array.getElem?_eq_getElem hlt]
          have e : a.tmps.getD d undef = a.tmps[d] := by simp [hlt]
          rw [← e, h1]
        simp only [yielded, hd, Option.bind_some, h2]
        cases b' <;> cases want <;> rfl
      · rename_i u hb
        cases h
        have h1 := (hs.2 d _ hb).lit_inv
        have hlt : d < a.tmps.size := by rw [hs.1]; exact (List.getElem?_eq_some_iff.1 hb).1
        have h2 : a.tmps[d]? = some (.tuple u) := by
          rw [Array.getElem?_eq_getElem hlt]
          have e : a.tmps.getD d undef = a.tmps[d] := by simp [hlt]
          rw [← e, h1]
        simp only [yielded, hd, Option.bind_some, h2]
        cases want <;> rfl
      · cases h
    · cases h

/-- What a code does, from these slots and objects: it ends so, with these. The first m objects keep their numbers. -/
def CS (P : Program) (m : Nat) (c : Code) (σ : List GV) (M : List GO) (R : Exit → List GV → List GO → Prop) : Prop :=
  ∀ (Γ : Ctx) (ι : Nat → Hd) (w : World) (a : Act) (Q : Exit → Act → World → Prop), m ≤ M.length → SR Γ (· < M.length) ι (getM M) w → SL Γ (· < M.length) ι w σ a → a.defers = [] →
    (∀ (e : Exit) (σ' : List GV) (M' : List GO) (Im' : Nat → Prop) (ι' : Nat → Hd) (w' : World) (a' : Act), R e σ' M' → Keep Γ w w' → (∀ b, Γ.Im b → Im' b) → (∀ i, i < m → ι' i = ι i) → m ≤ M'.length →
      SR ⟨Im', Γ.Bw, Γ.Fz⟩ (· < M'.length) ι' (getM M') w' → SL ⟨Im', Γ.Bw, Γ.Fz⟩ (· < M'.length) ι' w' σ' a' → a'.defers = [] → Q e a' w') → c.wp P Q a w

theorem put_defers {a : Act} {d : Option Tmp} {v : Value} : (a.put d v).defers = a.defers := by cases d <;> rfl

/-- In the text's order. -/
theorem seq_ops {P : Program} {ops : Array Oper} : ∀ {rest : List Oper} {σ : List GV} {M : List GO} {tr : List Rec} {σ' : List GV} {M' : List GO}, TR P ops rest σ M tr σ' M' →
    ∀ (Γ : Ctx) (ι : Nat → Hd) (w : World) (a : Act) (Q : Exit → Act → World → Prop), SR Γ (· < M.length) ι (getM M) w → SL Γ (· < M.length) ι w σ a → a.defers = [] →
    (∀ (Im' : Nat → Prop) (ι' : Nat → Hd) (w' : World) (a' : Act), Keep Γ w w' → (∀ b, Γ.Im b → Im' b) → (∀ i, i < M.length → ι' i = ι i) → M.length ≤ M'.length →
      SR ⟨Im', Γ.Bw, Γ.Fz⟩ (· < M'.length) ι' (getM M') w' → SL ⟨Im', Γ.Bw, Γ.Fz⟩ (· < M'.length) ι' w' σ' a' → a'.defers = [] → Q .normal a' w') → wpList P ops Q rest a w := by
  intro rest σ M tr σ' M' h
  induction h with
  | nil σ M => exact fun Γ ι w a Q hS hL hd hk => hk Γ.Im ι w a (Keep.refl _ _) (fun _ h => h) (fun _ _ => rfl) (Nat.le_refl _) hS hL hd
  | skip hg _ ih =>
    intro Γ ι w a Q hS hL hd hk
    unfold wpList
    rw [if_neg (by rw [gwant_sound hg hL]; simp)]
    exact ih Γ ι w _ Q hS (hL.put _ (.imm (.lit _))) (by rw [put_defers]; exact hd) hk
  | @step o rest σ M tr σ' M' ids g ups news hg hs hu _ ih =>
    intro Γ ι w a Q hS hL hd hk
    unfold wpList
    rw [if_pos (gwant_sound hg hL)]
    refine .inl (hs Γ (· < M.length) ι (getM M) w a _ Q hS (fun x _ => hL.eval x) (fun _ _ => rfl) (fun i h1 _ => by omega) fun Im' ι' v' w' hkp hI hι hS' hV' => ?_)
    have hD : (fun i => i < M.length ∨ (M.length ≤ i ∧ i < M.length + news.length)) = (· < (updL M ups news).length) := by
      funext i; rw [updL_length]; simp only [eq_iff_iff]; omega
    rw [hD, ← getM_updL M ups news hu] at hS'
    rw [hD] at hV'
    have hL' : SL ⟨Im', Γ.Bw, Γ.Fz⟩ (· < (updL M ups news).length) ι' w' (putS σ o.dst g) (a.put o.dst v') :=
      (hL.mono (Γ' := ⟨Im', Γ.Bw, Γ.Fz⟩) (D' := (· < (updL M ups news).length)) hI (fun _ h => h) (fun i hi => by show i < _; rw [updL_length]; have : i < M.length := hi; omega) hι fun b hb => hkp.block b (hb.elim .inl fun x => .inr (.inl x))).put _ hV'
    refine ih ⟨Im', Γ.Bw, Γ.Fz⟩ ι' w' _ Q hS' hL' (by rw [put_defers]; exact hd) fun Im'' ι'' w'' a'' h1 h2 h3 h4 h5 h6 h7 => ?_
    refine hk Im'' ι'' w'' a'' (hkp.trans h1 fun b hb => ?_) (fun b hb => h2 b (hI b hb)) (fun i hi => (h3 i (by rw [updL_length]; omega)).trans (hι i hi)) (by rw [updL_length] at h4; omega) h5 h6 h7
    rcases hb with h | h | h
    · exact .inl (hI b h)
    · exact .inr (.inl h)
    · exact .inr (.inr h)

theorem CS_region {P : Program} {m id : Nat} {ops : Array Oper} {σ σ' : List GV} {M M' : List GO} {tr : List Rec} {R : Exit → List GV → List GO → Prop}
    (h : TR P ops ops.toList σ M tr σ' M') (hR : R .normal σ' M') : CS P m (.region id ops false) σ M R := by
  intro Γ ι w a Q hm hS hL hd hk
  refine wp_region_list (seq_ops h Γ ι w a Q hS hL hd fun Im' ι' w' a' h1 h2 h3 h4 h5 h6 h7 => ?_)
  exact hk .normal σ' M' Im' ι' w' a' hR h1 h2 (fun i hi => h3 i (by omega)) (by omega) h5 h6 h7

end Go.Gh
