import Derived.Test.YtoamjccphppdmaaGhZf

/-! More steps that no code takes: an object's number changed; a row within an object read alone from now on. -/

namespace Go.Gh
variable {P : Program} {m : Nat} {σ : List GV} {M : List GO} {K : List GV → List GO → Prop}

/-- An object gets a number of its own, behind all others. -/
theorem GS.mv (id : Nat) (hid : Nat.ble (id + 1) M.length = true)
    (h : GS m (renL (fun i => if i = id then M.length else i) σ) ((M.map (renO fun i => if i = id then M.length else i)).set id .dead ++ [renO (fun i => if i = id then M.length else i) (getM M id)]) K) : GS m σ M K := by
  have hid := Nat.le_of_ble_eq_true hid
  intro Γ ι w a hm hS hL
  obtain ⟨f, hf⟩ : ∃ f : Nat → Nat, f = fun i => if i = id then M.length else i := ⟨_, rfl⟩
  rw [← hf] at h
  have hlen : ((M.map (renO f)).set id .dead ++ [renO f (getM M id)]).length = M.length + 1 := by simp
  have hget : ∀ i, getM ((M.map (renO f)).set id .dead ++ [renO f (getM M id)]) i = if i = M.length then renO f (getM M id) else if i = id then .dead else renO f (getM M i) := fun i => by
    rw [getM_append]
    rw [List.length_set, List.length_map]
    split
    · rfl
    · rw [getM_set _ _ (by rw [List.length_map]; omega)]
      split
      · rfl
      · unfold getM
        rw [List.getD_eq_getElem?_getD, List.getD_eq_getElem?_getD, List.getElem?_map]
        cases M[i]? <;> rfl
  have hfi : ∀ i, i < M.length → f i < M.length + 1 ∧ (if f i = M.length then ι id else ι (f i)) = ι i := fun i hi => by
    rw [hf]; simp only
    by_cases e : i = id
    · subst e; rw [if_pos rfl, if_pos rfl]; exact ⟨by omega, rfl⟩
    · rw [if_neg e, if_neg (by omega)]; exact ⟨by omega, rfl⟩
  have hVR : ∀ g v, VR Γ.Im Γ.Bw (· < M.length) ι w g v → VR Γ.Im Γ.Bw (· < M.length + 1) (fun i => if i = M.length then ι id else ι i) w (ren f g) v := fun g v hv => hv.ren hfi
  have hdead : ∀ i, renO f (getM M i) ≠ .dead → getM M i ≠ .dead := fun i h1 h2 => h1 (by rw [h2]; rfl)
  have halive : ∀ i, getM ((M.map (renO f)).set id .dead ++ [renO f (getM M id)]) i ≠ .dead → ∃ j, getM M j ≠ .dead ∧ (if i = M.length then ι id else ι i) = ι j ∧ ((i = M.length ∧ j = id) ∨ (i ≠ M.length ∧ i = j ∧ j ≠ id)) := fun i hi => by
    rw [hget] at hi
    split at hi
    · rename_i e; exact ⟨id, hdead _ hi, by rw [if_pos e], .inl ⟨e, rfl⟩⟩
    · rename_i e
      split at hi
      · exact absurd rfl hi
      · rename_i e2; exact ⟨i, hdead _ hi, by rw [if_neg e], .inr ⟨e, rfl, e2⟩⟩
  have hS' : SR Γ (· < ((M.map (renO f)).set id .dead ++ [renO f (getM M id)]).length) (fun i => if i = M.length then ι id else ι i) (getM ((M.map (renO f)).set id .dead ++ [renO f (getM M id)])) w := by
    rw [hlen]
    refine ⟨fun i => ?_, fun i hi => ?_, fun i j b hi hj ei ej => ?_, hS.lt, fun i b hi ei => ?_, hS.dj⟩
    · rw [hget]
      split
      · rename_i e; subst e
        have := (hS.obj id).ren (f := f) hVR
        simpa using this
      · split
        · trivial
        · rename_i e e2
          have := (hS.obj i).ren (f := f) hVR
          simpa [e] using this
    · obtain ⟨j, h1, _, h3⟩ := halive i hi
      have := hS.liv j h1
      omega
    · obtain ⟨i', h1, h2, h3⟩ := halive i hi
      obtain ⟨j', k1, k2, k3⟩ := halive j hj
      have ei : (if i = M.length then ι id else ι i).A = some b := ei
      have ej : (if j = M.length then ι id else ι j).A = some b := ej
      rw [h2] at ei
      rw [k2] at ej
      have := hS.inj i' j' b h1 k1 ei ej
      omega
    · obtain ⟨j, h1, h2, _⟩ := halive i hi
      have ei : (if i = M.length then ι id else ι i).A = some b := ei
      rw [h2] at ei
      exact hS.own j b h1 ei
  have hL' : SL Γ (· < ((M.map (renO f)).set id .dead ++ [renO f (getM M id)]).length) (fun i => if i = M.length then ι id else ι i) w (renL f σ) a := by
    rw [hlen]
    refine ⟨by rw [renL_length]; exact hL.1, fun t g hg => ?_⟩
    rw [renL_get] at hg
    obtain ⟨x, hx, rfl⟩ := Option.map_eq_some_iff.1 hg
    exact hVR _ _ (hL.2 t x hx)
  obtain ⟨σ1, M1, Im1, ι1, k1, k2, k3, k4, k5, k6⟩ := h Γ _ w a (by rw [hlen]; omega) hS' hL'
  exact ⟨σ1, M1, Im1, ι1, k1, k2, fun i hi => by rw [k3 i hi, if_neg (by omega)], k4, k5, k6⟩

/-- A row that an object's cell tells of is read alone from now on. -/
theorem GS.frzO (id j : Nat) {r e sz : Nat} {xs : List (List GV)} {cs : List GV} (hM : getM M id = .cells cs) (hc : nthG cs j = some (.row r)) (hr : getM M r = .row e sz xs)
    (h : GS m σ ((M.set r .dead).set id (.cells (cs.set j (.sl false sz xs [])))) K) : GS m σ M K := by
  intro Γ ι w a hm hS hL
  have hne : r ≠ id := fun e1 => by rw [e1, hM] at hr; cases hr
  have hrl : r < M.length := hS.liv r (by rw [hr]; simp)
  have hil : id < M.length := hS.liv id (by rw [hM]; simp)
  have hjl : j < cs.length := (List.getElem?_eq_some_iff.1 (nthG_ok hc)).1
  have hob := hS.obj id
  rw [hM] at hob
  obtain ⟨h0, b, arr, t, h1, h2, h3, hf, h4⟩ := hob
  have hvi := frz_VI hS hr (h4 j _ (nthG_ok hc))
  have hS1 := frz_SR hS hr
  have hg1 : getM (M.set r .dead) id = .cells cs := by rw [getM_set _ _ hrl, if_neg (Ne.symm hne), hM]
  have hput := hS1.put (id := id) (o := .cells (cs.set j (.sl false sz xs []))) (w' := w) (by rw [hg1]; simp) (Nat.le_refl _) (fun _ _ _ => rfl)
    ⟨h0, b, arr, t, h1, h2, by rw [List.length_set]; exact h3, hf, fun j' g hg => by
      by_cases e' : j = j'
      · subst e'
        rw [List.getElem?_set_self hjl] at hg
        cases hg
        exact .imm hvi
      · rw [List.getElem?_set_ne e'] at hg
        exact (h4 j' g hg).mono (fun _ => .inl) (fun _ h => h) (fun i hi => by show i < _; rw [List.length_set]; exact hi) (fun _ _ => rfl) (fun _ _ => rfl)⟩
  have hMe : setF (getM (M.set r .dead)) id (.cells (cs.set j (.sl false sz xs []))) = getM ((M.set r .dead).set id (.cells (cs.set j (.sl false sz xs [])))) := by
    funext i
    unfold setF getM
    rw [List.getD_eq_getElem?_getD, List.getD_eq_getElem?_getD]
    by_cases e1 : i = id
    · subst e1; rw [if_pos rfl, List.getElem?_set_self (by simpa using hil)]; rfl
    · rw [if_neg e1, List.getElem?_set_ne (Ne.symm e1)]
  rw [hMe] at hput
  have hlen : ((M.set r .dead).set id (.cells (cs.set j (.sl false sz xs [])))).length = M.length := by simp
  have hput' : SR ⟨fun b => Γ.Im b ∨ (ι r).A = some b, Γ.Bw, Γ.Fz⟩ (· < ((M.set r .dead).set id (.cells (cs.set j (.sl false sz xs [])))).length) ι (getM ((M.set r .dead).set id (.cells (cs.set j (.sl false sz xs []))))) w := by
    rw [hlen]; rw [List.length_set] at hput; exact hput
  obtain ⟨σ1, M1, Im1, ι1, k1, k2, k3, k4, k5, k6⟩ := h _ ι w a (by rw [hlen]; exact hm) hput' (by rw [hlen]; exact hL.mono (Γ' := ⟨fun b => Γ.Im b ∨ (ι r).A = some b, Γ.Bw, Γ.Fz⟩) (fun _ => .inl) (fun _ h => h) (fun _ h => h) (fun _ _ => rfl) (fun _ _ => rfl))
  exact ⟨σ1, M1, Im1, ι1, k1, fun b hb => k2 b (.inl hb), k3, k4, k5, k6⟩

end Go.Gh
