import Derived.Test.YtoamjccphppdmaaGhZd

/-! Steps that no code takes: a nil slice taken as a row, a row read alone from now on, what is forgotten. -/

namespace Go.Gh
variable {P : Program}

/-- What is held of the same state, told another way. -/
def GS (m : Nat) (σ : List GV) (M : List GO) (K : List GV → List GO → Prop) : Prop :=
  ∀ (Γ : Ctx) (ι : Nat → Hd) (w : World) (a : Act), m ≤ M.length → SR Γ (· < M.length) ι (getM M) w → SL Γ (· < M.length) ι w σ a →
    ∃ (σ' : List GV) (M' : List GO) (Im' : Nat → Prop) (ι' : Nat → Hd), K σ' M' ∧ (∀ b, Γ.Im b → Im' b) ∧ (∀ i, i < m → ι' i = ι i) ∧ m ≤ M'.length ∧
      SR ⟨Im', Γ.Bw, Γ.Fz⟩ (· < M'.length) ι' (getM M') w ∧ SL ⟨Im', Γ.Bw, Γ.Fz⟩ (· < M'.length) ι' w σ' a

section
variable {m : Nat} {σ : List GV} {M : List GO} {K K' : List GV → List GO → Prop} {R R' : Exit → List GV → List GO → Prop}

theorem GS.refl (h : K σ M) : GS m σ M K := fun Γ ι _w _a hm hS hL => ⟨σ, M, Γ.Im, ι, h, fun _ h => h, fun _ _ => rfl, hm, hS, hL⟩

theorem GS.bind (h : GS m σ M K) (hk : ∀ σ' M', K σ' M' → GS m σ' M' K') : GS m σ M K' := by
  intro Γ ι w a hm hS hL
  obtain ⟨σ1, M1, Im1, ι1, h1, h2, h3, h4, h5, h6⟩ := h Γ ι w a hm hS hL
  obtain ⟨σ2, M2, Im2, ι2, k1, k2, k3, k4, k5, k6⟩ := hk σ1 M1 h1 ⟨Im1, Γ.Bw, Γ.Fz⟩ ι1 w a h4 h5 h6
  exact ⟨σ2, M2, Im2, ι2, k1, fun b hb => k2 b (h2 b hb), fun i hi => (k3 i hi).trans (h3 i hi), k4, k5, k6⟩

theorem CS.ghost {c : Code} (h : GS m σ M fun σ' M' => CS P m c σ' M' R) : CS P m c σ M R := by
  intro Γ ι w a Q hm hS hL hd hk
  obtain ⟨σ1, M1, Im1, ι1, h1, h2, h3, h4, h5, h6⟩ := h Γ ι w a hm hS hL
  refine h1 _ ι1 w a Q h4 h5 h6 hd fun e σ' M' Im' ι' w' a' k0 k1 k2 k3 k4 k5 k6 k7 => ?_
  exact hk e σ' M' Im' ι' w' a' k0 (keep_frz h2 k1) (fun b hb => k2 b (h2 b hb)) (fun i hi => (k3 i hi).trans (h3 i hi)) k4 k5 k6 k7

theorem CS.monoG {c : Code} (h : CS P m c σ M R') (hR : ∀ e σ' M', R' e σ' M' → GS m σ' M' (R e)) : CS P m c σ M R := by
  intro Γ ι w a Q hm hS hL hd hk
  refine h Γ ι w a Q hm hS hL hd fun e σ' M' Im' ι' w' a' h0 h1 h2 h3 h4 h5 h6 h7 => ?_
  obtain ⟨σ1, M1, Im1, ι1, k1, k2, k3, k4, k5, k6⟩ := hR e σ' M' h0 ⟨Im', Γ.Bw, Γ.Fz⟩ ι' w' a' h4 h5 h6
  exact hk e σ1 M1 Im1 ι1 w' a' k1 h1 (fun b hb => k2 b (h2 b hb)) (fun i hi => (k3 i hi).trans (h3 i hi)) k4 k5 k6 h7

/-- A nil slice, taken as a row. -/
theorem GS.adopt (e sz t : Nat) (hσ : nthG σ t = some (.lit (.slice none 0 0))) (h : GS m (σ.set t (.row M.length)) (M ++ [.row e sz []]) K) : GS m σ M K := by
  intro Γ ι w a hm hS hL
  have hlen : (M ++ [GO.row e sz []]).length = M.length + 1 := by simp
  have hS' := adopt_SR hS e sz
  have hv := (hL.2 t _ (nthG_ok hσ)).lit_inv
  have hL' : SL Γ (· < (M ++ [GO.row e sz []]).length) (fun i => if i = M.length then ⟨none, sz, 0, 0⟩ else ι i) w (σ.set t (.row M.length)) a := by
    refine (hL.mono (Γ' := Γ) (fun _ h => h) (fun _ h => h) (fun i hi => by show i < _; rw [hlen]; have : i < M.length := hi; omega) (fun i hi => if_neg (by have : i < M.length := hi; omega)) (fun _ _ => rfl)).set t ?_
    rw [hv]
    have := VR.row (Im := Γ.Im) (Bw := Γ.Bw) (D := (· < (M ++ [GO.row e sz []]).length)) (ι := fun i => if i = M.length then ⟨none, sz, 0, 0⟩ else ι i) (w := w) M.length (by show M.length < _; omega)
    simpa using this
  obtain ⟨σ1, M1, Im1, ι1, h1, h2, h3, h4, h5, h6⟩ := h Γ _ w a (by omega) hS' hL'
  exact ⟨σ1, M1, Im1, ι1, h1, h2, fun i hi => by rw [h3 i hi, if_neg (by omega)], h4, h5, h6⟩

/-- A nil slice within an object, taken as a row. -/
theorem GS.adoptO (e sz id j : Nat) {cs : List GV} (hM : getM M id = .cells cs) (hc : nthG cs j = some (.lit (.slice none 0 0))) (h : GS m σ (M.set id (.cells (cs.set j (.row M.length))) ++ [.row e sz []]) K) : GS m σ M K := by
  intro Γ ι w a hm hS hL
  have hlen : (M ++ [GO.row e sz []]).length = M.length + 1 := by simp
  have hid : id < M.length := hS.liv id (by rw [hM]; simp)
  have hS' := adopt_SR hS e sz
  have hL' : SL Γ (· < (M ++ [GO.row e sz []]).length) (fun i => if i = M.length then ⟨none, sz, 0, 0⟩ else ι i) w σ a :=
    hL.mono (Γ' := Γ) (fun _ h => h) (fun _ h => h) (fun i hi => by show i < _; rw [hlen]; have : i < M.length := hi; omega) (fun i hi => if_neg (by have : i < M.length := hi; omega)) (fun _ _ => rfl)
  have hob := hS'.obj id
  have hgm : getM (M ++ [GO.row e sz []]) id = .cells cs := by rw [getM_append, if_neg (by omega), hM]
  rw [hgm] at hob
  obtain ⟨h0, b, arr, t, h1, h2, h3, hf, h4⟩ := hob
  have hjl : j < cs.length := (List.getElem?_eq_some_iff.1 (nthG_ok hc)).1
  have hput := hS'.put (id := id) (o := .cells (cs.set j (.row M.length))) (w' := w) (by rw [hgm]; simp) (Nat.le_refl _) (fun _ _ _ => rfl)
    ⟨h0, b, arr, t, h1, h2, by rw [List.length_set]; exact h3, hf, fun j' g hg => by
      by_cases e' : j = j'
      · subst e'
        rw [List.getElem?_set_self hjl] at hg
        cases hg
        have hv := (h4 j _ (nthG_ok hc)).lit_inv
        rw [hv]
        have := VR.row (Im := Γ.Im) (Bw := Γ.Bw) (D := (· < (M ++ [GO.row e sz []]).length)) (ι := fun i => if i = M.length then ⟨none, sz, 0, 0⟩ else ι i) (w := w) M.length (by show M.length < _; omega)
        simpa using this
      · rw [List.getElem?_set_ne e'] at hg
        exact h4 j' g hg⟩
  have hMe : setF (getM (M ++ [GO.row e sz []])) id (.cells (cs.set j (.row M.length))) = getM (M.set id (.cells (cs.set j (.row M.length))) ++ [.row e sz []]) := by
    funext i
    rw [getM_append, List.length_set]
    unfold setF
    rw [getM_append]
    by_cases e1 : i = id
    · subst e1
      rw [if_pos rfl, if_neg (by omega)]
      simp [getM, hid]
    · rw [if_neg e1]
      split
      · rfl
      · unfold getM
        rw [List.getD_eq_getElem?_getD, List.getD_eq_getElem?_getD, List.getElem?_set_ne (Ne.symm e1)]
  rw [hMe] at hput
  have hlen2 : (M.set id (.cells (cs.set j (.row M.length))) ++ [GO.row e sz []]).length = (M ++ [GO.row e sz []]).length := by simp
  obtain ⟨σ1, M1, Im1, ι1, k1, k2, k3, k4, k5, k6⟩ := h Γ _ w a (by rw [hlen2, hlen]; omega) (by rw [hlen2]; exact hput) (by rw [hlen2]; exact hL')
  exact ⟨σ1, M1, Im1, ι1, k1, k2, fun i hi => by rw [k3 i hi, if_neg (by omega)], k4, k5, k6⟩

/-- A row that is read alone from now on. -/
theorem GS.frz (t : Nat) {id e sz : Nat} {xs : List (List GV)} (hσ : nthG σ t = some (.row id)) (hM : getM M id = .row e sz xs)
    (h : GS m (σ.set t (.sl false sz xs [])) (M.set id .dead) K) : GS m σ M K := by
  intro Γ ι w a hm hS hL
  have hid : id < M.length := hS.liv id (by rw [hM]; simp)
  have hL' : SL ⟨fun b => Γ.Im b ∨ (ι id).A = some b, Γ.Bw, Γ.Fz⟩ (· < (M.set id .dead).length) ι w (σ.set t (.sl false sz xs [])) a :=
    (hL.mono (Γ' := ⟨fun b => Γ.Im b ∨ (ι id).A = some b, Γ.Bw, Γ.Fz⟩) (fun _ => .inl) (fun _ h => h) (fun i hi => by show i < _; rw [List.length_set]; exact hi) (fun _ _ => rfl) (fun _ _ => rfl)).set t (.imm (frz_VI hS hM (hL.2 t _ (nthG_ok hσ))))
  obtain ⟨σ1, M1, Im1, ι1, h1, h2, h3, h4, h5, h6⟩ := h _ ι w a (by rw [List.length_set]; exact hm) (frz_SR hS hM) hL'
  exact ⟨σ1, M1, Im1, ι1, h1, fun b hb => h2 b (.inl hb), h3, h4, h5, h6⟩

/-- .. and a window, with what stands behind it. -/
theorem GS.frzW (t : Nat) {id e sz hi : Nat} {xs : List (List GV)} (hσ : nthG σ t = some (.win id 0 hi)) (hM : getM M id = .row e sz xs) (hh : hi ≤ xs.length)
    (h : GS m (σ.set t (.sl false sz (xs.take hi) (xs.drop hi))) (M.set id .dead) K) : GS m σ M K := by
  intro Γ ι w a hm hS hL
  have hid : id < M.length := hS.liv id (by rw [hM]; simp)
  have hV := hL.2 t _ (nthG_ok hσ)
  have hob := hS.obj id
  rw [hM] at hob
  obtain ⟨e0, e1, _⟩ := row_cases hob
  obtain ⟨hD, _, hhn, hcn, A, hv, hA, hsp, hb⟩ := hV.win_inv
  have hrow : VR Γ.Im Γ.Bw (· < M.length) ι w (.row id) (ι id).val := .row id hD
  have hvi := frz_VI hS hM hrow
  have hvi2 : VI (fun b => Γ.Im b ∨ (ι id).A = some b) Γ.Bw w (.sl false sz (xs.take hi) (xs.drop hi)) (a.tmps.getD t undef) := by
    rw [hv]
    unfold Hd.val at hvi
    generalize hAA : (ι id).A.map (fun b => (⟨b, 0, none⟩ : Addr)) = A' at hvi
    rw [e1, hcn.1] at hvi
    cases hvi with
    | sl bw sz xs ex A c V hc hA2 hs hsz hcell hf hv2 =>
      have e2 : hi - 0 = (xs.take hi).length := by simp; omega
      rw [e2, e1, Nat.sub_zero]
      have htd : xs.take hi ++ xs.drop hi = xs ++ [] := by rw [List.take_append_drop, List.append_nil]
      refine .sl false sz _ _ _ _ V ⟨by rw [← List.length_append, List.take_append_drop]; exact Nat.le_refl _, by have := hcn.2; omega⟩ (fun hn => by have := hA hn; omega) (fun ad ha => .inl (hsp ad ha)) (by rw [htd]; exact hsz) (fun i j x g hx hg => ?_) (by rw [htd]; exact hf) (by rw [htd]; exact hv2)
      rw [htd] at hx
      obtain ⟨ad, a1, a2, a3⟩ := hcell i j x g hx hg
      obtain ⟨b, b1, b2⟩ := hb (by rw [List.append_nil] at hx; have := (List.getElem?_eq_some_iff.1 hx).1; omega)
      rw [b1] at hAA
      simp only [Option.map_some] at hAA
      rw [← hAA] at a1
      cases a1
      exact ⟨_, b2, a2, by simpa using a3⟩
  have hL' : SL ⟨fun b => Γ.Im b ∨ (ι id).A = some b, Γ.Bw, Γ.Fz⟩ (· < (M.set id .dead).length) ι w (σ.set t (.sl false sz (xs.take hi) (xs.drop hi))) a :=
    (hL.mono (Γ' := ⟨fun b => Γ.Im b ∨ (ι id).A = some b, Γ.Bw, Γ.Fz⟩) (fun _ => .inl) (fun _ h => h) (fun i hi => by show i < _; rw [List.length_set]; exact hi) (fun _ _ => rfl) (fun _ _ => rfl)).set t (.imm hvi2)
  obtain ⟨σ1, M1, Im1, ι1, h1, h2, h3, h4, h5, h6⟩ := h _ ι w a (by rw [List.length_set]; exact hm) (frz_SR hS hM) hL'
  exact ⟨σ1, M1, Im1, ι1, h1, fun b hb => h2 b (.inl hb), h3, h4, h5, h6⟩

/-- A nil slice is one that is read alone. -/
theorem GS.nilS (t sz : Nat) (bw : Bool) (hσ : nthG σ t = some (.lit (.slice none 0 0))) (h : GS m (σ.set t (.sl bw sz [] [])) M K) : GS m σ M K := by
  intro Γ ι w a hm hS hL
  have hv := (hL.2 t _ (nthG_ok hσ)).lit_inv
  refine h Γ ι w a hm hS (hL.set t ?_)
  rw [hv]
  exact .imm (.sl bw sz [] [] none 0 (fun _ _ => undef) (by simp) (fun _ => rfl) (fun _ h => by cases h) (fun x h => by simp at h) (fun i j x g h => by simp at h) (fun i j x g h => by simp at h) (fun i j x g h => by simp at h))

/-- An operand is told less of. -/
theorem GS.forget (t : Nat) (h : GS m (σ.set t .any) M K) : GS m σ M K := fun Γ ι w a hm hS hL => h Γ ι w a hm hS (hL.set t (.imm (.any _)))

theorem GS.norm (keep : List Nat) (mask : List Bool) (hn : keep.Nodup) (hp : pins m keep = true) (h : GS m (nslM keep mask σ) (nobjs keep M) K) : GS m σ M K := by
  intro Γ ι w a hm hS hL
  have hlen : (nobjs keep M).length = keep.length := by simp [nobjs]
  have hmk : m ≤ keep.length := by
    rcases Nat.eq_zero_or_pos m with h0 | h0
    · omega
    · have := (pins_get hp (i := m - 1) (by omega)).1; omega
  rw [← nslM_ok] at h
  obtain ⟨σ1, M1, Im1, ι1, h1, h2, h3, h4, h5, h6⟩ := h Γ _ w a (by omega) (norm_SR hS hn) (by have := norm_SL hL keep (liveOf mask); rw [← hlen] at this; exact this)
  refine ⟨σ1, M1, Im1, ι1, h1, h2, fun i hi => ?_, h4, h5, h6⟩
  rw [h3 i hi]
  show ι (keep.getD i 0) = ι i
  rw [(pins_get hp hi).2]

end

theorem FS.enterG {f : FuncId} {fn : Func} {c : Code} {args : List GV} {M M' : List GO} {r : GV} (hf : P.funcs[f]? = some fn) (hb : fn.body = some c)
    (h : ∀ R0, (∀ e σ M1, GS M.length σ M1 (retR P fn M.length r M' e) → R0 e σ M1) → CS P M.length c (args ++ List.replicate (fn.ntmps - args.length) .any) M R0) : FS P f args M r M' :=
  FS_enter hf hb (CS.monoG (h (fun e σ M1 => GS M.length σ M1 (retR P fn M.length r M' e)) fun _ _ _ h => h) fun _ _ _ h => h)

/-! What a function takes, told another way. -/

/-- Whatever is so, is so. -/
def GLe (g g' : GV) : Prop := ∀ (Im Bw D : Nat → Prop) (ι : Nat → Hd) (w : World) (v : Value), VR Im Bw D ι w g v → VR Im Bw D ι w g' v

inductive GLeL : List GV → List GV → Prop
  | nil : GLeL [] []
  | cons {g g' l l'} (h : GLe g g') (r : GLeL l l') : GLeL (g :: l) (g' :: l')

theorem GLe.refl (g : GV) : GLe g g := fun _ _ _ _ _ _ h => h
theorem GLe.nilS (bw : Bool) (sz : Nat) : GLe (.lit (.slice none 0 0)) (.sl bw sz [] []) := fun Im Bw D ι w v h => by
  rw [h.lit_inv]
  exact .imm (.sl bw sz [] [] none 0 (fun _ _ => undef) (by simp) (fun _ => rfl) (fun _ h => by cases h) (fun x h => by simp at h) (fun i j x g h => by simp at h) (fun i j x g h => by simp at h) (fun i j x g h => by simp at h))
theorem GLe.any (g : GV) : GLe g .any := fun _ _ _ _ _ v _ => .imm (.any v)
theorem GLe.ex (bw : Bool) (sz : Nat) (xs ex : List (List GV)) : GLe (.sl bw sz xs ex) (.sl bw sz xs []) := fun Im Bw D ι w v h => by
  obtain ⟨A, c, V, rfl, hc, hA, hs, hl, hcell⟩ := h.sl_inv
  have hin : ∀ (i : Nat) (x : List GV), (xs ++ [])[i]? = some x → (xs ++ ex)[i]? = some x := fun i x hx => by
    rw [List.append_nil] at hx
    rw [List.getElem?_append_left (List.getElem?_eq_some_iff.1 hx).1]; exact hx
  exact .imm (.sl bw sz xs [] A c V (by simp; omega) hA (fun ad ha => (hs ad ha).imp id fun h => by rw [List.append_nil]; cases xs <;> simp_all)
    (fun x hx => hl x (List.mem_append_left _ (by simpa using hx))) (fun i j x g hx hg => by obtain ⟨ad, a1, a2, a3, _⟩ := hcell i j x g (hin i x hx) hg; exact ⟨ad, a1, a2, a3⟩)
    (fun i j x g hx hg => by obtain ⟨ad, a1, a2, a3, a4, a5⟩ := hcell i j x g (hin i x hx) hg; exact a4) (fun i j x g hx hg => by obtain ⟨ad, a1, a2, a3, a4, a5⟩ := hcell i j x g (hin i x hx) hg; exact a5))

theorem GLeL.get {l l' : List GV} (h : GLeL l l') : l.length = l'.length ∧ ∀ (i : Nat) g', l'[i]? = some g' → ∃ g, l[i]? = some g ∧ GLe g g' := by
  induction h with
  | nil => exact ⟨rfl, fun i g h => by simp at h⟩
  | cons h r ih =>
    refine ⟨by simp [ih.1], fun i g' hg => ?_⟩
    cases i with
    | zero => simp at hg; subst hg; exact ⟨_, by simp, h⟩
    | succ i => obtain ⟨g, h1, h2⟩ := ih.2 i g' (by simpa using hg); exact ⟨g, by simpa using h1, h2⟩

theorem FS.le {f : FuncId} {args args' : List GV} {M M' : List GO} {r : GV} (h : FS P f args' M r M') (hl : GLeL args args') : FS P f args M r M' := by
  constructor
  intro Γ ι w as hS hsz hV
  obtain ⟨h1, h2⟩ := hl.get
  refine h.run Γ ι w as hS (by omega) fun i g hg => ?_
  obtain ⟨g0, h3, h4⟩ := h2 i g hg
  exact h4 _ _ _ _ _ _ (hV i g0 h3)

end Go.Gh
