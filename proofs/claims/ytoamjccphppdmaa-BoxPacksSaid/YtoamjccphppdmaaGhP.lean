import Derived.Test.YtoamjccphppdmaaGhO

namespace Go.Gh
section
variable {P : Program} {m : Nat} {σ : List GV} {M : List GO} {R R' : Exit → List GV → List GO → Prop}

theorem CS.mono {c : Code} (h : CS P m c σ M R) (hR : ∀ e σ M, R e σ M → R' e σ M) : CS P m c σ M R' :=
  fun Γ ι w a Q hm hS hL hd hk => h Γ ι w a Q hm hS hL hd fun e σ' M' Im' ι' w' a' hr => hk e σ' M' Im' ι' w' a' (hR e σ' M' hr)

theorem CS_skip (h : R .normal σ M) : CS P m .skip σ M R :=
  fun Γ ι w a _ hm hS hL hd hk => wp_skip (hk .normal σ M Γ.Im ι w a h (Keep.refl _ _) (fun _ h => h) (fun _ _ => rfl) hm hS hL hd)

theorem CS_ret (h : R .ret σ M) : CS P m .ret σ M R :=
  fun Γ ι w a _ hm hS hL hd hk => wp_ret (hk .ret σ M Γ.Im ι w a h (Keep.refl _ _) (fun _ h => h) (fun _ _ => rfl) hm hS hL hd)

theorem CS_exit {id : Nat} (h : R (.exit id) σ M) : CS P m (.exit id) σ M R :=
  fun Γ ι w a _ hm hS hL hd hk => wp_exit (hk (.exit id) σ M Γ.Im ι w a h (Keep.refl _ _) (fun _ h => h) (fun _ _ => rfl) hm hS hL hd)

theorem keep_trans {Γ : Ctx} {Im' : Nat → Prop} {w w' w'' : World} (h1 : Keep Γ w w') (hI : ∀ b, Γ.Im b → Im' b) (h2 : Keep ⟨Im', Γ.Bw, Γ.Fz⟩ w' w'') : Keep Γ w w'' :=
  h1.trans h2 fun b hb => by
    rcases hb with h | h | h
    · exact .inl (hI b h)
    · exact .inr (.inl h)
    · exact .inr (.inr h)

theorem CS_seq {x y : Code} (h : CS P m x σ M fun e σ' M' => match e with | .normal => CS P m y σ' M' R | e => R e σ' M') : CS P m (.seq x y) σ M R := by
  intro Γ ι w a Q hm hS hL hd hk
  refine wp_seq (h Γ ι w a _ hm hS hL hd fun e σ' M' Im' ι' w' a' hr h1 h2 h3 h4 h5 h6 h7 => ?_)
  cases e with
  | normal =>
    refine hr ⟨Im', Γ.Bw, Γ.Fz⟩ ι' w' a' Q h4 h5 h6 h7 fun e σ'' M'' Im'' ι'' w'' a'' k0 k1 k2 k3 k4 k5 k6 k7 => ?_
    exact hk e σ'' M'' Im'' ι'' w'' a'' k0 (keep_trans h1 h2 k1) (fun b hb => k2 b (h2 b hb)) (fun i hi => (k3 i hi).trans (h3 i hi)) k4 k5 k6 k7
  | exit id => exact hk _ σ' M' Im' ι' w' a' hr h1 h2 h3 h4 h5 h6 h7
  | goto l => exact hk _ σ' M' Im' ι' w' a' hr h1 h2 h3 h4 h5 h6 h7
  | ret => exact hk _ σ' M' Im' ι' w' a' hr h1 h2 h3 h4 h5 h6 h7
  | panic ch => exact hk _ σ' M' Im' ι' w' a' hr h1 h2 h3 h4 h5 h6 h7
  | outgrown => exact hk _ σ' M' Im' ι' w' a' hr h1 h2 h3 h4 h5 h6 h7

theorem CS_cond {x : Operand} {t : Bool} {a b : Code} (hx : rhoOf σ x = .lit (.bool t)) (h : CS P m (bif t then a else b) σ M R) : CS P m (.cond x a b) σ M R := by
  intro Γ ι w ac Q hm hS hL hd hk
  have h1 := (hx ▸ hL.eval x).lit_inv
  refine wp_cond h1 ?_
  cases t
  · exact h Γ ι w ac Q hm hS hL hd hk
  · exact h Γ ι w ac Q hm hS hL hd hk

theorem CS_block {id : Nat} {c : Code} (h : CS P m c σ M fun e σ' M' => match e with | .exit id' => if id' = id then R .normal σ' M' else R (.exit id') σ' M' | e => R e σ' M') : CS P m (.block id c) σ M R := by
  intro Γ ι w a Q hm hS hL hd hk
  refine wp_block (h Γ ι w a _ hm hS hL hd fun e σ' M' Im' ι' w' a' hr h1 h2 h3 h4 h5 h6 h7 => ?_)
  cases e with
  | exit id' =>
    simp only [Exit.inBlock]
    split
    · rename_i e
      simp only [e, if_true] at hr
      exact hk _ σ' M' Im' ι' w' a' hr h1 h2 h3 h4 h5 h6 h7
    · rename_i e
      simp only [e, if_false] at hr
      exact hk _ σ' M' Im' ι' w' a' hr h1 h2 h3 h4 h5 h6 h7
  | normal => exact hk _ σ' M' Im' ι' w' a' hr h1 h2 h3 h4 h5 h6 h7
  | goto l => exact hk _ σ' M' Im' ι' w' a' hr h1 h2 h3 h4 h5 h6 h7
  | ret => exact hk _ σ' M' Im' ι' w' a' hr h1 h2 h3 h4 h5 h6 h7
  | panic ch => exact hk _ σ' M' Im' ι' w' a' hr h1 h2 h3 h4 h5 h6 h7
  | outgrown => exact hk _ σ' M' Im' ι' w' a' hr h1 h2 h3 h4 h5 h6 h7

end

/-! Forgetting: only these slots, only these objects, numbered anew. -/

def nslots (keep live : List Nat) (σ : List GV) : List GV :=
  σ.mapIdx fun t g => if live.contains t && gin keep g then ren (keep.idxOf ·) g else .any

def nobjs (keep : List Nat) (M : List GO) : List GO :=
  keep.map fun id => if ginO keep (getM M id) then renO (keep.idxOf ·) (getM M id) else .dead

theorem norm_SR {Γ : Ctx} {ι : Nat → Hd} {M : List GO} {w : World} (hS : SR Γ (· < M.length) ι (getM M) w) {keep : List Nat} (hn : keep.Nodup) :
    SR Γ (· < (nobjs keep M).length) (fun j => ι (keep.getD j 0)) (getM (nobjs keep M)) w := by
  have hlen : (nobjs keep M).length = keep.length := by simp [nobjs]
  have hget : ∀ j, getM (nobjs keep M) j ≠ .dead → ∃ hj : j < keep.length, ginO keep (getM M keep[j]) = true ∧ getM (nobjs keep M) j = renO (keep.idxOf ·) (getM M keep[j]) ∧ getM M keep[j] ≠ .dead := fun j hj => by
    by_cases h : j < keep.length
    · have e : getM (nobjs keep M) j = if ginO keep (getM M keep[j]) then renO (keep.idxOf ·) (getM M keep[j]) else .dead := by
        show (nobjs keep M).getD j .dead = _
        simp [nobjs, h]
      rw [e] at hj
      split at hj
      · rename_i hg
        refine ⟨h, hg, by rw [e, if_pos hg], fun h2 => ?_⟩
        rw [h2] at hj; exact hj rfl
      · exact absurd rfl hj
    · exfalso
      apply hj
      show (nobjs keep M).getD j .dead = _
      rw [List.getD_eq_getElem?_getD, List.getElem?_eq_none (by omega)]; rfl
  have hgd : ∀ j (hj : j < keep.length), keep.getD j 0 = keep[j] := fun j hj => by simp [hj]
  have hidx : ∀ i, i ∈ keep → keep.idxOf i < (nobjs keep M).length ∧ ι (keep.getD (keep.idxOf i) 0) = ι i := fun i hi => by
    have h1 : keep.idxOf i < keep.length := List.idxOf_lt_length_iff.2 hi
    exact ⟨by rw [hlen]; exact h1, by rw [hgd _ h1, List.getElem_idxOf]⟩
  refine ⟨fun j => ?_, fun j hj => ?_, fun i j b hi hj ei ej => ?_, hS.lt, fun j b hj ej => ?_, hS.dj⟩
  · by_cases hd : getM (nobjs keep M) j = .dead
    · rw [hd]; trivial
    · obtain ⟨hj, hg, e, _⟩ := hget j hd
      rw [e, hgd j hj]
      exact ((hS.obj keep[j]).monoP (allO_gin hg) (V' := VR Γ.Im Γ.Bw (· ∈ keep) ι w) (fun g v h1 h2 => h2.restrict h1) fun _ _ h => h).ren fun g v hv => hv.ren hidx
  · rw [hlen]; exact (hget j hj).1
  · obtain ⟨h1, _, _, h2⟩ := hget i hi
    obtain ⟨h3, _, _, h4⟩ := hget j hj
    rw [hgd i h1] at ei
    rw [hgd j h3] at ej
    exact (List.getElem_inj hn).1 (hS.inj _ _ b h2 h4 ei ej)
  · obtain ⟨h1, _, _, h2⟩ := hget j hj
    rw [hgd j h1] at ej
    exact hS.own _ b h2 ej

theorem norm_VR {Im Bw : Nat → Prop} {D : Nat → Prop} {ι : Nat → Hd} {w : World} {keep : List Nat} {g : GV} {v : Value} (h : VR Im Bw D ι w g v) (hg : gin keep g = true) :
    VR Im Bw (· < keep.length) (fun j => ι (keep.getD j 0)) w (ren (keep.idxOf ·) g) v :=
  (h.restrict hg).ren fun i hi => by
    have h1 : keep.idxOf i < keep.length := List.idxOf_lt_length_iff.2 hi
    refine ⟨h1, ?_⟩
    have : keep.getD (keep.idxOf i) 0 = i := by simp [h1, List.getElem_idxOf]
    show ι (keep.getD (keep.idxOf i) 0) = ι i
    rw [this]

theorem norm_SL {Γ : Ctx} {D : Nat → Prop} {ι : Nat → Hd} {w : World} {σ : List GV} {a : Act} (h : SL Γ D ι w σ a) (keep live : List Nat) :
    SL Γ (· < keep.length) (fun j => ι (keep.getD j 0)) w (nslots keep live σ) a := by
  refine ⟨by simp [nslots, h.1], fun t g hg => ?_⟩
  simp only [nslots, List.getElem?_mapIdx, Option.map_eq_some_iff] at hg
  obtain ⟨x, hx, rfl⟩ := hg
  split
  · rename_i hc
    simp only [Bool.and_eq_true] at hc
    exact norm_VR (h.2 t x hx) hc.2
  · exact .imm (.any _)

/-- The first m objects keep their numbers. -/
def pins (m : Nat) (keep : List Nat) : Bool := (List.range m).all fun i => keep[i]? == some i

theorem pins_get {m : Nat} {keep : List Nat} (h : pins m keep = true) {i : Nat} (hi : i < m) : i < keep.length ∧ keep.getD i 0 = i := by
  have := List.all_eq_true.1 h i (by simpa using hi)
  simp only [beq_iff_eq] at this
  exact ⟨(List.getElem?_eq_some_iff.1 this).1, by simp [this]⟩

theorem CS_norm {P : Program} {m : Nat} {c : Code} {σ : List GV} {M : List GO} {R : Exit → List GV → List GO → Prop} (keep live : List Nat) (hn : keep.Nodup) (hp : pins m keep = true)
    (h : CS P m c (nslots keep live σ) (nobjs keep M) R) : CS P m c σ M R := by
  intro Γ ι w a Q hm hS hL hd hk
  have hlen : (nobjs keep M).length = keep.length := by simp [nobjs]
  have hmk : m ≤ keep.length := by
    rcases Nat.eq_zero_or_pos m with h0 | h0
    · omega
    · have := (pins_get hp (i := m - 1) (by omega)).1; omega
  refine h Γ _ w a Q (by omega) (norm_SR hS hn) (by have := norm_SL hL keep live; rw [← hlen] at this; exact this) hd fun e σ' M' Im' ι' w' a' h0 h1 h2 h3 h4 h5 h6 h7 => ?_
  refine hk e σ' M' Im' ι' w' a' h0 h1 h2 (fun i hi => ?_) h4 h5 h6 h7
  rw [h3 i hi]
  show ι (keep.getD i 0) = ι i
  rw [(pins_get hp hi).2]

/-! Loops. -/

/-- At a loop's head. -/
def HeadWp (P : Program) (c : Code) (Q : Exit → Act → World → Prop) (a : Act) (w : World) : Prop :=
  ∀ (b : Frame) (k : List Item) (cs : List Frame), ∃ e a' w', Q e a' w' ∧ Arrives P (lone (b.at a (.code c :: .inLoop c :: k)) cs w) b k cs e a' w'

theorem HeadWp_of {P : Program} {c : Code} {Q : Exit → Act → World → Prop} {a : Act} {w : World} (h : c.wp P (Exit.then (HeadWp P c Q) Q) a w) : HeadWp P c Q a w := by
  intro b k cs
  obtain ⟨e, a₁, w₁, hq, harr⟩ := h b (.inLoop c :: k) cs
  cases e with
  | normal =>
    obtain ⟨e₂, a₂, w₂, hq₂, harr₂⟩ := hq b k cs
    exact ⟨e₂, a₂, w₂, hq₂, .of_steps (Steps.trans harr (.one step_inLoop)) harr₂⟩
  | exit id => exact ⟨_, a₁, w₁, hq, .pass (x := .inLoop c) rfl (fun _ _ => .inl (by simp)) harr⟩
  | goto l => exact ⟨_, a₁, w₁, hq, .pass (x := .inLoop c) rfl (fun _ _ => .inl (by simp)) harr⟩
  | ret => exact ⟨_, a₁, w₁, hq, .pass (x := .inLoop c) rfl (fun _ _ => .inl (by simp)) harr⟩
  | panic ch => exact ⟨_, a₁, w₁, hq, .pass (x := .inLoop c) rfl (fun _ _ => .inl (by simp)) harr⟩
  | outgrown => exact ⟨_, a₁, w₁, hq, .pass (x := .inLoop c) rfl (fun _ _ => .inl (by simp)) harr⟩

theorem wp_loop_head {P : Program} {c : Code} {Q : Exit → Act → World → Prop} {a : Act} {w : World} (h : HeadWp P c Q a w) : (Code.loop c).wp P Q a w := by
  intro b k cs
  obtain ⟨e, a', w', hq, harr⟩ := h b k cs
  exact ⟨e, a', w', hq, .of_steps (.one step_loop) harr⟩

/-- A loop: what holds at each round's head, told by x; each round goes to a lesser x, once what the round made is forgotten. -/
theorem CS_loop {P : Program} {m : Nat} {c : Code} {R : Exit → List GV → List GO → Prop} {X : Type} (inv : X → List GV) (obs : X → List GO) (μ : X → Nat)
    (round : ∀ x, CS P m c (inv x) (obs x) fun e σ' M' => match e with
      | .normal => ∃ x' keep live, μ x' < μ x ∧ keep.Nodup ∧ pins m keep = true ∧ nslots keep live σ' = inv x' ∧ nobjs keep M' = obs x'
      | e => R e σ' M') (x : X) : CS P m (.loop c) (inv x) (obs x) R := by
  intro Γ ι w a Q hm hS hL hd hk
  refine wp_loop_head ?_
  have key : ∀ n x (Γ : Ctx) (ι : Nat → Hd) (w : World) (a : Act), μ x = n → m ≤ (obs x).length → SR Γ (· < (obs x).length) ι (getM (obs x)) w → SL Γ (· < (obs x).length) ι w (inv x) a → a.defers = [] →
      (∀ (e : Exit) (σ' : List GV) (M' : List GO) (Im' : Nat → Prop) (ι' : Nat → Hd) (w' : World) (a' : Act), R e σ' M' → Keep Γ w w' → (∀ b, Γ.Im b → Im' b) → (∀ i, i < m → ι' i = ι i) → m ≤ M'.length →
        SR ⟨Im', Γ.Bw, Γ.Fz⟩ (· < M'.length) ι' (getM M') w' → SL ⟨Im', Γ.Bw, Γ.Fz⟩ (· < M'.length) ι' w' σ' a' → a'.defers = [] → Q e a' w') → HeadWp P c Q a w := by
    intro n
    induction n using Nat.strongRecOn with
    | _ n ih =>
      intro x Γ ι w a hn hm hS hL hd hk
      refine HeadWp_of (round x Γ ι w a _ hm hS hL hd fun e σ' M' Im' ι' w' a' hr h1 h2 h3 h4 h5 h6 h7 => ?_)
      cases e with
      | normal =>
        obtain ⟨x', keep, live, hlt, hnd, hp, hσ, hM⟩ := hr
        have hlen : (nobjs keep M').length = keep.length := by simp [nobjs]
        have hmk : m ≤ keep.length := by
          rcases Nat.eq_zero_or_pos m with h0 | h0
          · omega
          · have := (pins_get hp (i := m - 1) (by omega)).1; omega
        have hS' := norm_SR h5 hnd
        have hL' := norm_SL h6 keep live
        rw [← hlen, hM, hσ] at hL'
        rw [hM] at hS'
        refine ih (μ x') (hn ▸ hlt) x' ⟨Im', Γ.Bw, Γ.Fz⟩ _ w' a' rfl (by rw [← hM, hlen]; exact hmk) hS' hL' h7 fun e σ'' M'' Im'' ι'' w'' a'' k0 k1 k2 k3 k4 k5 k6 k7 => ?_
        refine hk e σ'' M'' Im'' ι'' w'' a'' k0 (keep_trans h1 h2 k1) (fun b hb => k2 b (h2 b hb)) (fun i hi => ?_) k4 k5 k6 k7
        rw [k3 i hi]
        show ι' (keep.getD i 0) = ι i
        rw [(pins_get hp hi).2]
        exact h3 i hi
      | exit id => exact hk _ σ' M' Im' ι' w' a' hr h1 h2 h3 h4 h5 h6 h7
      | goto l => exact hk _ σ' M' Im' ι' w' a' hr h1 h2 h3 h4 h5 h6 h7
      | ret => exact hk _ σ' M' Im' ι' w' a' hr h1 h2 h3 h4 h5 h6 h7
      | panic ch => exact hk _ σ' M' Im' ι' w' a' hr h1 h2 h3 h4 h5 h6 h7
      | outgrown => exact hk _ σ' M' Im' ι' w' a' hr h1 h2 h3 h4 h5 h6 h7
  exact key _ x Γ ι w a rfl hm hS hL hd hk

/-! A function, whole. -/

def gres1 (P : Program) (σ : List GV) (M : List GO) : ResultVar → Option GV
  | .tmp t => some (σ.getD t .any)
  | .cell t ty => match σ.getD t .any with
    | .adr id i j => (cellsAt (getM M id) i).bind fun cs => ldv P ty (cs.drop j)
    | _ => none

def gresL (P : Program) (σ : List GV) (M : List GO) : List ResultVar → Option (List GV)
  | [] => some []
  | r :: l => (gres1 P σ M r).bind fun g => (gresL P σ M l).map fun x => g :: x

def gres (P : Program) (σ : List GV) (M : List GO) (rs : List ResultVar) : Option GV :=
  (gresL P σ M rs).map fun l => match l with | [g] => g | l => .tup l

theorem gres1_sound {P : Program} {Γ : Ctx} {ι : Nat → Hd} {M : List GO} {w : World} {σ : List GV} {a : Act} (hS : SR Γ (· < M.length) ι (getM M) w) (hL : SL Γ (· < M.length) ι w σ a) {r : ResultVar} {g : GV} (h : gres1 P σ M r = some g) :
    ∀ F : ResultVar → Sem Value, (∀ t, F (.tmp t) = pure (a.tmps.getD t undef)) → (∀ b t, F (.cell b t) = do loadVar t (← asAddr (a.tmps.getD b undef))) →
    ∃ v, (F r).run P w = .ok v w ∧ VR Γ.Im Γ.Bw (· < M.length) ι w g v := by
  cases r with
  | tmp t =>
    simp only [gres1, Option.some.injEq] at h
    subst h
    intro F hF _
    exact ⟨_, by rw [hF]; rfl, hL.eval (.tmp t)⟩
  | cell t ty =>
    simp only [gres1] at h
    split at h
    · rename_i id i j hx
      simp only [Option.bind_eq_some_iff] at h
      obtain ⟨cs, hc, hl⟩ := h
      have h0 := hL.eval (.tmp t)
      have e : rhoOf σ (.tmp t) = .adr id i j := hx
      rw [e] at h0
      obtain ⟨hD, b, hb, h1⟩ := h0.adr_inv
      obtain ⟨W, hW⟩ := (hS.obj id).at (fun g v h => .imm h.toVI) hc hb
      obtain ⟨v, hr, hv⟩ := ldv_sound (P := P) (ad := ⟨b, i * (ι id).sz + j, none⟩) rfl (fun k => W (j + k)) (fun k g hg => by
        rw [List.getElem?_drop] at hg
        have := hW (j + k) g hg
        simpa [Nat.add_assoc] using this) hl
      have h1' : a.tmps.getD t undef = .pointer (some ⟨b, i * (ι id).sz + j, none⟩) := h1
      intro F _ hF
      exact ⟨v, by rw [hF]; simp only [Sem.run_bind, h1', asAddr, Sem.run_pure, Result.andThen_ok, hr], hv⟩
    · cases h

theorem gresL_sound {P : Program} {Γ : Ctx} {ι : Nat → Hd} {M : List GO} {w : World} {σ : List GV} {a : Act} (hS : SR Γ (· < M.length) ι (getM M) w) (hL : SL Γ (· < M.length) ι w σ a) (F : ResultVar → Sem Value)
    (hF1 : ∀ t, F (.tmp t) = pure (a.tmps.getD t undef)) (hF2 : ∀ b t, F (.cell b t) = do loadVar t (← asAddr (a.tmps.getD b undef))) :
    ∀ (rs : List ResultVar) (gs : List GV), gresL P σ M rs = some gs →
    ∃ vs : List Value, (rs.mapM (m := Sem) F).run P w = .ok vs w ∧ vs.length = gs.length ∧ ∀ (i : Nat) g, gs[i]? = some g → VR Γ.Im Γ.Bw (· < M.length) ι w g (vs.getD i undef)
  | [], gs, h => by
    simp only [gresL, Option.some.injEq] at h
    subst h
    exact ⟨[], by simp, rfl, fun i g hg => by simp at hg⟩
  | r :: rs, gs, h => by
    simp only [gresL, Option.bind_eq_some_iff, Option.map_eq_some_iff] at h
    obtain ⟨g, hg, gs', hgs, rfl⟩ := h
    obtain ⟨v, hv, hr⟩ := gres1_sound hS hL hg F hF1 hF2
    obtain ⟨vs, h1, h2, h3⟩ := gresL_sound hS hL F hF1 hF2 rs gs' hgs
    refine ⟨v :: vs, ?_, by simp [h2], fun i g hg => ?_⟩
    · rw [List.mapM_cons]
      simp only [Sem.run_bind, Sem.run_pure]
      rw [hv]
      simp only [Result.andThen_ok, h1]
    · cases i with
      | zero => simp at hg; subst hg; exact hr
      | succ i => exact h3 i g (by simpa using hg)

theorem gres_sound {P : Program} {Γ : Ctx} {ι : Nat → Hd} {M : List GO} {w : World} {σ : List GV} {a : Act} {fn : Func} (hS : SR Γ (· < M.length) ι (getM M) w) (hL : SL Γ (· < M.length) ι w σ a) {g : GV}
    (h : gres P σ M fn.results.toList = some g) : ∃ v, (results fn a.tmps).run P w = .ok v w ∧ VR Γ.Im Γ.Bw (· < M.length) ι w g v := by
  unfold gres at h
  obtain ⟨gs, hgs, rfl⟩ := Option.map_eq_some_iff.1 h
  obtain ⟨F, hF, hF1, hF2⟩ : ∃ F : ResultVar → Sem Value, results fn a.tmps = (do let vs ← fn.results.mapM F; pure (if h : vs.size = 1 then vs[0] else .tuple vs)) ∧
      (∀ t, F (.tmp t) = pure (a.tmps.getD t undef)) ∧ (∀ b t, F (.cell b t) = do loadVar t (← asAddr (a.tmps.getD b undef))) := ⟨_, rfl, fun _ => rfl, fun _ _ => rfl⟩
  obtain ⟨vs, h1, h2, h3⟩ := gresL_sound hS hL F hF1 hF2 _ _ hgs
  have hm : (fn.results.mapM (m := Sem) F).run P w = .ok vs.toArray w := by
    rw [← Array.toArray_toList (xs := fn.results), List.mapM_toArray]
    simp only [Sem.run_map]
    rw [h1]; rfl
  have hr : (results fn a.tmps).run P w = .ok (if h : vs.toArray.size = 1 then vs.toArray[0] else .tuple vs.toArray) w := by
    rw [hF]
    simp only [Sem.run_bind]
    rw [hm]; rfl
  refine ⟨_, hr, ?_⟩
  by_cases h1 : vs.length = 1
  · have hg1 : gs.length = 1 := by omega
    obtain ⟨g, rfl⟩ := List.length_eq_one_iff.1 hg1
    rw [dif_pos (by simpa using h1)]
    have := h3 0 g (by simp)
    have e : vs.toArray[0]'(by simp; omega) = vs.getD 0 undef := by
      rw [List.getD_eq_getElem?_getD, List.getElem?_eq_getElem (by omega)]; rfl
    rw [e]; exact this
  · rw [dif_neg (by simpa using h1)]
    have : (match gs with | [g] => g | l => GV.tup l) = .tup gs := by
      cases gs with
      | nil => rfl
      | cons x l =>
        cases l with
        | nil => exact absurd h2 h1
        | cons y l => rfl
    rw [this]
    exact .tup gs _ (by simpa using h2) fun i g hg => by
      have := h3 i g hg
      simpa using this

theorem FS_enter {P : Program} {f : FuncId} {fn : Func} {c : Code} {args : List GV} {M : List GO} {r : GV} {M' : List GO} (hf : P.funcs[f]? = some fn) (hb : fn.body = some c)
    (h : CS P M.length c (args ++ List.replicate (fn.ntmps - args.length) .any) M fun e σ' M1 => (e = .normal ∨ e = .ret) ∧
      ∃ g keep, gres P σ' M1 fn.results.toList = some g ∧ keep.Nodup ∧ pins M.length keep = true ∧ gin keep g = true ∧ r = ren (keep.idxOf ·) g ∧ M' = nobjs keep M1) : FS P f args M r M' := by
  constructor
  intro Γ ι w as hS hn hV
  refine calls_of_wp hf hb (h Γ ι w _ _ (Nat.le_refl _) hS ⟨by simp [hn], fun t g hg => ?_⟩ rfl fun e σ' M1 Im' ι' w' a' hR h1 h2 h3 h4 h5 h6 h7 => ?_)
  · by_cases ht : t < args.length
    · rw [List.getElem?_append_left ht] at hg
      have e : (as ++ Array.replicate (fn.ntmps - as.size) undef).getD t undef = as.getD t undef := by
        rw [Array.getD_eq_getD_getElem?, Array.getElem?_append_left (by omega)]
        simp
      show VR _ _ _ _ _ g ((as ++ Array.replicate (fn.ntmps - as.size) undef).getD t undef)
      rw [e]
      exact hV t g hg
    · rw [List.getElem?_append_right (Nat.le_of_not_lt ht), List.getElem?_replicate] at hg
      split at hg
      · cases hg; exact .imm (.any _)
      · cases hg
  · obtain ⟨he, g, keep, hg, hnd, hp, hgin, rfl, rfl⟩ := hR
    obtain ⟨v, hr, hv⟩ := gres_sound (fn := fn) h5 h6 hg
    have hlen : (nobjs keep M1).length = keep.length := by simp [nobjs]
    have fin : ∃ v', (results fn a'.tmps).run P w' = .ok v' w' ∧ (∃ (v : Value) (Im' : Nat → Prop) (ι' : Nat → Hd), Ending.returned v' = .returned v ∧ Keep Γ w w' ∧ (∀ b, Γ.Im b → Im' b) ∧ (∀ i, i < M.length → ι' i = ι i) ∧
      SR ⟨Im', Γ.Bw, Γ.Fz⟩ (· < (nobjs keep M1).length) ι' (getM (nobjs keep M1)) w' ∧ VR Im' Γ.Bw (· < (nobjs keep M1).length) ι' w' (ren (keep.idxOf ·) g) v) := by
      refine ⟨v, hr, v, Im', fun j => ι' (keep.getD j 0), rfl, h1, h2, fun i hi => ?_, norm_SR h5 hnd, ?_⟩
      · show ι' (keep.getD i 0) = ι i
        rw [(pins_get hp hi).2]; exact h3 i hi
      · rw [hlen]; exact norm_VR hv hgin
    rcases he with rfl | rfl
    · exact ⟨h7, fin⟩
    · exact ⟨h7, fin⟩

end Go.Gh
