import Derived.Test.YtoamjccphppdmaaGhM

namespace Go.Gh

/-- Where the callee's object j stands with the caller. -/
def upN (ids : List Nat) (nb j : Nat) : Nat := if j < ids.length then ids.getD j 0 else nb + (j - ids.length)

def calleeG : GV → Option (FuncId × List GV)
  | .lit (.func (.func f) a b) => if a.size = 0 ∧ b.size = 0 then some (f, []) else none
  | .clo f cs => some (f, cs)
  | _ => none

theorem calleeG_sound {Im Bw D : Nat → Prop} {ι : Nat → Hd} {w : World} {g : GV} {u : Value} {f : FuncId} {cs : List GV} (h : calleeG g = some (f, cs)) (hV : VR Im Bw D ι w g u) :
    ∃ vs : Array Value, u = .func (.func f) #[] vs ∧ vs.size = cs.length ∧ ∀ (i : Nat) g, cs[i]? = some g → VR Im Bw D ι w g (vs.getD i undef) := by
  unfold calleeG at h
  split at h
  · rename_i f' a b
    split at h
    · rename_i hab
      cases h
      have ha : a = #[] := Array.eq_empty_of_size_eq_zero hab.1
      have hb : b = #[] := Array.eq_empty_of_size_eq_zero hab.2
      subst ha; subst hb
      exact ⟨#[], hV.lit_inv, rfl, fun i g hg => by simp at hg⟩
    · cases h
  · cases h
    exact hV.clo_inv
  · cases h

theorem find_zip {ids : List Nat} : ∀ {l : List GO}, ids.Nodup → l.length = ids.length → ∀ {j : Nat} (hj : j < ids.length),
    ((ids.zip l).find? (·.1 == ids[j])).map (·.2) = l[j]? := by
  induction ids with
  | nil => intro l _ _ j hj; simp at hj
  | cons a ids ih =>
    intro l hn hl j hj
    cases l with
    | nil => simp at hl
    | cons x l =>
      simp only [List.nodup_cons] at hn
      cases j with
      | zero => simp
      | succ j =>
        have hj' : j < ids.length := by simpa using hj
        have hne : (a == ids[j]) = false := by
          simp only [beq_eq_false_iff_ne]
          rintro rfl
          exact hn.1 (List.getElem_mem hj')
        simp only [List.zip_cons_cons, List.getElem_cons_succ, List.find?_cons, hne, List.getElem?_cons_succ]
        exact ih hn.2 (by simpa using hl) hj'

theorem find_zip_none {ids : List Nat} {l : List GO} {i : Nat} (h : i ∉ ids) : ((ids.zip l).find? (·.1 == i)).map (·.2) = none := by
  rw [Option.map_eq_none_iff, List.find?_eq_none]
  rintro ⟨a, b⟩ hab
  have := (List.of_mem_zip hab).1
  simp only [beq_iff_eq]
  rintro rfl
  exact h this

theorem os_call {P : Program} {o : Oper} {ρ : Rho} {nb : Nat} {M0 : Nat → GO} {f : FuncId} {fn : Func} {c : Operand} {xs : Array Operand} {ts : Array TypeId} {caps : List GV}
    (hf : P.funcs[f]? = some fn) (hb : fn.body.isSome = true) (hname : (fn.name == "runtime.NumGoroutine") = false)
    (ho : o.op = .call { callee := .value c, args := xs, argTypes := ts }) (hc : calleeG (ρ c) = some (f, caps)) (ids : List Nat) (hnd : ids.Nodup)
    (hlive : ∀ id, id ∈ ids → M0 id ≠ .dead) (hcl : ∀ id, id ∈ ids → ginO ids (M0 id) = true)
    {args : List GV} (hargs : lendAll M0 ids (xs.toList.map ρ ++ caps) = some args) {r : GV} {M' : List GO}
    (hFS : FS P f args (ids.map fun id => renO (ids.idxOf ·) (M0 id)) r M') (hlen : ids.length ≤ M'.length) (hnb : nobw r = true) (hnbM : ∀ o, o ∈ M' → nobwO o = true) :
    OpS P o ρ nb M0 (ids ++ borAll ids (xs.toList.map ρ ++ caps)) (ren (upN ids nb) r) (ids.zip ((M'.take ids.length).map (renO (upN ids nb)))) ((M'.drop ids.length).map (renO (upN ids nb))) := by
  intro Γ D ι M w ac K Q hS hV hM hfr hk
  generalize hbs : borAll ids (xs.toList.map ρ ++ caps) = bs at hM
  have hMi : ∀ id, id ∈ ids → M id = M0 id := fun id h => hM id (by simp [h])
  have hMb : ∀ id, id ∈ bs → M id = M0 id := fun id h => hM id (by simp [h])
  have hDi : ∀ id, id ∈ ids → D id := fun id h => hS.liv id (by rw [hMi id h]; exact hlive id h)
  have hbnot : ∀ id, id ∈ bs → id ∉ ids := fun id h => borAll_not (hbs ▸ h)
  -- the callee, and what is handed to it
  obtain ⟨vs, hcv, hvn, hvr⟩ := calleeG_sound hc (hV c (by simp [ho, Op.operands, Call.operands]))
  let n := ids.length
  let Mc : List GO := ids.map fun id => renO (ids.idxOf ·) (M0 id)
  let ιc : Nat → Hd := fun j => ι (ids.getD j 0)
  let Γc : Ctx := ⟨Γ.Im, fun b => Γ.Bw b ∨ ∃ id, id ∈ bs ∧ M id ≠ .dead ∧ (ι id).A = some b, fun b => Γ.Fz b ∨ ∃ id, M id ≠ .dead ∧ id ∉ ids ∧ id ∉ bs ∧ (ι id).A = some b⟩
  have hMcl : Mc.length = n := by simp [Mc, n]
  have hgetD : ∀ j (hj : j < n), ids.getD j 0 = ids[j] := fun j hj => by have : j < ids.length := hj; simp [this]
  have hgetM : ∀ j (hj : j < n), getM Mc j = renO (ids.idxOf ·) (M0 ids[j]) := fun j hj => by
    have : j < ids.length := hj
    simp [getM, Mc, this]
  have hgetM0 : ∀ j, ¬ j < n → getM Mc j = .dead := fun j hj => by
    have : ¬ j < ids.length := hj
    simp [getM, Mc]
    rw [List.getElem?_eq_none (by omega)]; rfl
  have hidx : ∀ i, i ∈ ids → ids.idxOf i < n ∧ ιc (ids.idxOf i) = ι i := fun i hi => by
    have h1 : ids.idxOf i < ids.length := List.idxOf_lt_length_iff.2 hi
    refine ⟨h1, ?_⟩
    show ι (ids.getD (ids.idxOf i) 0) = ι i
    rw [hgetD _ h1, List.getElem_idxOf]
  have halive : ∀ j, getM Mc j ≠ .dead → ∃ hj : j < n, M ids[j] ≠ .dead := fun j hj => by
    by_cases h : j < n
    · have : j < ids.length := h
      exact ⟨h, by rw [hMi _ (List.getElem_mem _)]; exact hlive _ (List.getElem_mem _)⟩
    · exact absurd (hgetM0 j h) hj
  have hSc : SR Γc (· < Mc.length) ιc (getM Mc) w := by
    rw [hMcl]
    refine ⟨fun j => ?_, fun j hj => (halive j hj).1, fun i j b hi hj ei ej => ?_, ?_, ?_, ?_⟩
    · by_cases hj : j < n
      · have hj' : j < ids.length := hj
        rw [hgetM j hj]
        show OR _ _ w (ι (ids.getD j 0)) _
        rw [hgetD j hj]
        have h0 := hS.obj ids[j]
        rw [hMi _ (List.getElem_mem _)] at h0
        have h1 := h0.monoP (allO_gin (hcl _ (List.getElem_mem _))) (V' := VR Γ.Im Γ.Bw (· ∈ ids) ι w) (fun g v hg hv => hv.restrict hg) fun _ _ h => h
        refine h1.ren fun g v hv => ?_
        exact (hv.ren (D' := (· < n)) (ι' := ιc) hidx).mono (fun _ h => h) (fun _ h => .inl h) (fun _ h => h) (fun _ _ => rfl) (fun _ _ => rfl)
      · rw [hgetM0 j hj]; trivial
    · obtain ⟨hi', h1⟩ := halive i hi
      obtain ⟨hj', h2⟩ := halive j hj
      have ei' : (ι (ids.getD i 0)).A = some b := ei
      have ej' : (ι (ids.getD j 0)).A = some b := ej
      rw [hgetD i hi'] at ei'
      rw [hgetD j hj'] at ej'
      have := hS.inj _ _ b h1 h2 ei' ej'
      exact (List.getElem_inj hnd).1 this
    · rintro b (h | (h | ⟨id, h1, h2, h3⟩) | (h | ⟨id, h2, _, _, h3⟩))
      · exact hS.lt b (.inl h)
      · exact hS.lt b (.inr (.inl h))
      · exact (hS.obj id).lt h2 h3
      · exact hS.lt b (.inr (.inr h))
      · exact (hS.obj id).lt h2 h3
    · intro j b hj ej hh
      obtain ⟨hj', h1⟩ := halive j hj
      have ej' : (ι (ids.getD j 0)).A = some b := ej
      rw [hgetD j hj'] at ej'
      have hmem : ids[j] ∈ ids := List.getElem_mem _
      rcases hh with h | (h | ⟨id, h2, h3, h4⟩) | (h | ⟨id, h3, h2, _, h4⟩)
      · exact hS.own _ b h1 ej' (.inl h)
      · exact hS.own _ b h1 ej' (.inr (.inl h))
      · have := hS.inj _ _ b h1 h3 ej' h4
        exact hbnot id h2 (this ▸ hmem)
      · exact hS.own _ b h1 ej' (.inr (.inr h))
      · have := hS.inj _ _ b h1 h3 ej' h4
        exact h2 (this ▸ hmem)
    · intro b
      refine ⟨?_, ?_, ?_⟩
      · rintro h (h2 | ⟨id, _, h3, h4⟩)
        · exact (hS.dj b).1 h h2
        · exact hS.own id b h3 h4 (.inl h)
      · rintro h (h2 | ⟨id, h3, _, _, h4⟩)
        · exact (hS.dj b).2.1 h h2
        · exact hS.own id b h3 h4 (.inl h)
      · rintro (h | ⟨id, h2, h3, h4⟩) (h5 | ⟨id', h6, h7, h8, h9⟩)
        · exact (hS.dj b).2.2 h h5
        · exact hS.own id' b h6 h9 (.inr (.inl h))
        · exact hS.own id b h3 h4 (.inr (.inr h5))
        · exact h8 (hS.inj id id' b h3 h6 h4 h9 ▸ h2)
  obtain ⟨hal, hag⟩ := lendAll_get hargs
  have hgs : ∀ (i : Nat) g, (xs.toList.map ρ ++ caps)[i]? = some g → VR Γ.Im Γ.Bw D ι w g ((xs.map ac.eval ++ vs).getD i undef) := fun i g hg => by
    by_cases hi : i < xs.size
    · rw [List.getElem?_append_left (by simpa using hi)] at hg
      simp only [List.getElem?_map, Array.getElem?_toList, Option.map_eq_some_iff] at hg
      obtain ⟨x, hx, rfl⟩ := hg
      have : (xs.map ac.eval ++ vs).getD i undef = ac.eval x := by
        rw [Array.getD_eq_getD_getElem?, Array.getElem?_append_left (by simpa using hi)]
        simp [hx]
      rw [this]
      exact hV x (by simp only [ho, Op.operands, Call.operands, Array.mem_append]; exact .inr (Array.mem_of_getElem? hx))
    · rw [List.getElem?_append_right (by simpa using hi)] at hg
      have := hvr _ g hg
      have e : (xs.map ac.eval ++ vs).getD i undef = vs.getD (i - (List.map ρ xs.toList).length) undef := by
        rw [Array.getD_eq_getD_getElem?, Array.getElem?_append_right (by simpa using hi)]
        simp
      rw [e]; exact this
  have hcalls := hFS.run Γc ιc w (xs.map ac.eval ++ vs) hSc (by simp [hal, hvn]) (fun i g' hg' => by
    obtain ⟨g, hg, hl⟩ := hag i g' hg'
    show VR Γ.Im Γc.Bw (· < Mc.length) ιc w g' _
    rw [hMcl]
    exact lend_sound hS (hgs i g hg) (fun id h => hMb id (hbs ▸ bor_mem hg h)) hl (fun _ h => .inl h) (fun id b h1 h2 h3 => .inr ⟨id, hbs ▸ bor_mem hg h1, h2, h3⟩) hidx)
  have hrun : (execOp ac.eval o).run P w = .ok (.enter f (xs.map ac.eval ++ vs)) w := by
    simp only [execOp, ho, resolve, hcv, Deferred.ofValue, invoke, Sem.run_bind, Sem.run_pure, Result.andThen_ok]
    have hn : fn.body ≠ none := by cases h : fn.body <;> simp_all
    have hname' : fn.name ≠ "runtime.NumGoroutine" := by simpa using hname
    simp [callFunc, hf, hname', hn]
  unfold Oper.wp
  rw [hrun]
  refine hcalls.mono ?_
  rintro e w' ⟨v', Im', ιr, rfl, hkp, hIm, hιr, hSr, hVr⟩
  rw [hMcl] at hιr
  show K (ac.put o.dst v') w'
  -- with the caller again
  let k := M'.length - n
  let news : List GO := (M'.drop ids.length).map (renO (upN ids nb))
  let ups : List (Nat × GO) := ids.zip ((M'.take ids.length).map (renO (upN ids nb)))
  let ι' : Nat → Hd := fun i => if nb ≤ i ∧ i < nb + news.length then ιr (n + (i - nb)) else ι i
  have hnl : news.length = M'.length - n := by simp [news, n]
  have hfresh : ∀ i, D i → ¬ (nb ≤ i ∧ i < nb + news.length) := fun i hi h => hfr i h.1 h.2 hi
  have hιold : ∀ i, D i → ι' i = ι i := fun i hi => by simp only [ι']; rw [if_neg (hfresh i hi)]
  have hιnew : ∀ j, n ≤ j → j < M'.length → ι' (nb + (j - n)) = ιr j := fun j h1 h2 => by
    simp only [ι']
    rw [if_pos (by rw [hnl]; omega)]
    congr 1; omega
  have hup1 : ∀ j (hj : j < n), upN ids nb j = ids[j] := fun j hj => by
    unfold upN; rw [if_pos hj]; exact hgetD j hj
  have hup2 : ∀ j, n ≤ j → upN ids nb j = nb + (j - n) := fun j hj => by
    unfold upN; rw [if_neg (by show ¬ j < n; omega)]
  have hupι : ∀ j, j < M'.length → ι' (upN ids nb j) = ιr j := fun j hj => by
    by_cases h : j < n
    · rw [hup1 j h, hιold _ (hDi _ (List.getElem_mem _)), hιr j h]
      show ι ids[j] = ι (ids.getD j 0)
      rw [hgetD j h]
    · rw [hup2 j (by omega)]; exact hιnew j (by omega) hj
  have hupD : ∀ j, j < M'.length → D (upN ids nb j) ∨ (nb ≤ upN ids nb j ∧ upN ids nb j < nb + news.length) := fun j hj => by
    by_cases h : j < n
    · rw [hup1 j h]; exact .inl (hDi _ (List.getElem_mem _))
    · rw [hup2 j (by omega), hnl]; right; omega
  have hups : ∀ j, j < M'.length → updF M ups nb news (upN ids nb j) = renO (upN ids nb) (getM M' j) := fun j hj => by
    have hget : getM M' j = M'[j] := by simp [getM, hj]
    by_cases h : j < n
    · have h' : j < ids.length := h
      rw [hup1 j h, hget]
      unfold updF
      rw [if_neg (hfresh _ (hDi _ (List.getElem_mem _)))]
      rw [find_zip hnd (by simp; omega) h']
      simp [h', hj]
    · rw [hup2 j (by omega), hget]
      unfold updF
      rw [if_pos (by rw [hnl]; omega)]
      have e : nb + (j - n) - nb = j - n := by omega
      have e2 : ids.length + (j - n) = j := by show n + (j - n) = j; omega
      rw [e]
      simp [news, e2, hj]
  have hother : ∀ i, (∀ j, j < M'.length → i ≠ upN ids nb j) → updF M ups nb news i = M i ∧ ι' i = ι i ∧ i ∉ ids := fun i hi => by
    have h1 : ¬ (nb ≤ i ∧ i < nb + news.length) := fun h => by
      rw [hnl] at h
      refine hi (n + (i - nb)) (by omega) ?_
      rw [hup2 _ (by omega)]; omega
    have h2 : i ∉ ids := fun h => by
      obtain ⟨j, hj, rfl⟩ := List.mem_iff_getElem.1 h
      exact hi j (by omega) (hup1 j hj).symm
    refine ⟨?_, by simp only [ι']; rw [if_neg h1], h2⟩
    unfold updF
    rw [if_neg h1, find_zip_none h2]
    rfl
  have hupinj : ∀ i j, i < M'.length → j < M'.length → upN ids nb i = upN ids nb j → i = j := fun i j hi hj e => by
    by_cases h1 : i < n
    · by_cases h2 : j < n
      · rw [hup1 i h1, hup1 j h2] at e
        exact (List.getElem_inj hnd).1 e
      · rw [hup1 i h1, hup2 j (by omega)] at e
        exact (hfresh _ (hDi _ (List.getElem_mem _)) (by rw [e, hnl]; omega)).elim
    · by_cases h2 : j < n
      · rw [hup2 i (by omega), hup1 j h2] at e
        exact (hfresh _ (hDi _ (List.getElem_mem _)) (by rw [← e, hnl]; omega)).elim
      · rw [hup2 i (by omega), hup2 j (by omega)] at e
        omega
  have hdead : ∀ j, renO (upN ids nb) (getM M' j) ≠ .dead → getM M' j ≠ .dead := fun j h h' => by rw [h'] at h; exact h rfl
  have hkeep : Keep Γ w w' := hkp.weaken fun b hb => by
    rcases hb with h | h | h
    · exact .inl h
    · exact .inr (.inl (.inl h))
    · exact .inr (.inr (.inl h))
  have hoth : ∀ i b, M i ≠ .dead → i ∉ ids → (ι i).A = some b → Γc.has b := fun i b h1 h2 h3 => by
    by_cases h : i ∈ bs
    · exact .inr (.inl (.inr ⟨i, h, h1, h3⟩))
    · exact .inr (.inr (.inr ⟨i, h1, h2, h, h3⟩))
  have hrenV : ∀ g v, nobw g = true → VR Im' Γc.Bw (· < M'.length) ιr w' g v →
      VR Im' Γ.Bw (fun i => D i ∨ (nb ≤ i ∧ i < nb + news.length)) ι' w' (ren (upN ids nb) g) v := fun g v hg hv =>
    (hv.nobw (Bw' := Γ.Bw) hg).ren fun j hj => ⟨hupD j hj, hupι j hj⟩
  refine hk Im' ι' v' w' hkeep hIm hιold ?_ (hrenV r v' hnb hVr)
  have class_ : ∀ i, (∃ j, j < M'.length ∧ i = upN ids nb j) ∨ ∀ j, j < M'.length → i ≠ upN ids nb j := fun i => by
    by_cases h : ∃ j, j < M'.length ∧ i = upN ids nb j
    · exact .inl h
    · exact .inr fun j hj e => h ⟨j, hj, e⟩
  refine ⟨fun i => ?_, fun i hi => ?_, fun i j b hi hj ei ej => ?_, fun b hb => ?_, fun i b hi ei => ?_, fun b => ?_⟩
  · rcases class_ i with ⟨j, hj, rfl⟩ | h
    · show OR _ _ w' (ι' (upN ids nb j)) (updF M ups nb news (upN ids nb j))
      rw [hups j hj, hupι j hj]
      have h0 := hSr.obj j
      have hmem : nobwO (getM M' j) = true := by
        have : getM M' j = M'[j] := by simp [getM, hj]
        rw [this]; exact hnbM _ (List.getElem_mem _)
      exact (h0.monoP (allO_nobw hmem) (V' := fun g v => nobw g = true ∧ VR Im' Γc.Bw (· < M'.length) ιr w' g v) (fun g v h1 h2 => ⟨h1, h2⟩) fun _ _ h => h).ren fun g v h => hrenV g v h.1 h.2
    · obtain ⟨h1, h2, h3⟩ := hother i h
      show OR _ _ w' (ι' i) (updF M ups nb news i)
      rw [h1, h2]
      refine (hS.obj i).mono (fun g v hv => hv.mono hIm (fun _ h => h) (fun _ => .inl) hιold fun b hb => ?_) (fun g v hv => hv.mono hIm fun b hb => hkeep.block b (.inl hb)) fun b hd hb => hkp.block b (hoth i b hd h3 hb)
      exact hkeep.block b (hb.elim .inl fun x => .inr (.inl x))
  · rcases class_ i with ⟨j, hj, rfl⟩ | h
    · exact hupD j hj
    · have h1 := (hother i h).1
      exact .inl (hS.liv i (by intro h2; exact hi (by show updF M ups nb news i = _; rw [h1, h2])))
  · have side : ∀ i, updF M ups nb news i ≠ .dead → (ι' i).A = some b → (∃ j, j < M'.length ∧ i = upN ids nb j ∧ getM M' j ≠ .dead ∧ (ιr j).A = some b) ∨
        ((∀ j, j < M'.length → i ≠ upN ids nb j) ∧ M i ≠ .dead ∧ i ∉ ids ∧ (ι i).A = some b) := fun i hi ei => by
      rcases class_ i with ⟨j, hj, rfl⟩ | h
      · rw [hups j hj] at hi
        rw [hupι j hj] at ei
        exact .inl ⟨j, hj, rfl, hdead j hi, ei⟩
      · obtain ⟨h1, h2, h3⟩ := hother i h
        rw [h1] at hi
        rw [h2] at ei
        exact .inr ⟨h, hi, h3, ei⟩
    rcases side i hi ei with ⟨x, h1, rfl, h2, h3⟩ | ⟨h1, h2, h3, h4⟩
    · rcases side j hj ej with ⟨y, h4, rfl, h5, h6⟩ | ⟨h4, h5, h6, h7⟩
      · rw [hSr.inj x y b h2 h5 h3 h6]
      · exact (hSr.own x b h2 h3 (by
          rcases hoth j b h5 h6 h7 with h | h | h
          · exact .inl (hIm b h)
          · exact .inr (.inl h)
          · exact .inr (.inr h))).elim
    · rcases side j hj ej with ⟨y, h5, rfl, h6, h7⟩ | ⟨h5, h6, h7, h8⟩
      · exact (hSr.own y b h6 h7 (by
          rcases hoth i b h2 h3 h4 with h | h | h
          · exact .inl (hIm b h)
          · exact .inr (.inl h)
          · exact .inr (.inr h))).elim
      · exact hS.inj i j b h2 h6 h4 h8
  · refine hSr.lt b ?_
    rcases hb with h | h | h
    · exact .inl h
    · exact .inr (.inl (.inl h))
    · exact .inr (.inr (.inl h))
  · rcases class_ i with ⟨j, hj, rfl⟩ | h
    · have hi' : updF M ups nb news (upN ids nb j) ≠ .dead := hi
      rw [hups j hj] at hi'
      rw [hupι j hj] at ei
      intro hb
      refine hSr.own j b (hdead j hi') ei ?_
      rcases hb with h | h | h
      · exact .inl h
      · exact .inr (.inl (.inl h))
      · exact .inr (.inr (.inl h))
    · obtain ⟨h1, h2, h3⟩ := hother i h
      have hi' : updF M ups nb news i ≠ .dead := hi
      rw [h1] at hi'
      rw [h2] at ei
      rintro (h4 | h4 | h4)
      · rcases hoth i b hi' h3 ei with h5 | h5 | h5
        · exact hS.own i b hi' ei (.inl h5)
        · exact (hSr.dj b).1 h4 h5
        · exact (hSr.dj b).2.1 h4 h5
      · exact hS.own i b hi' ei (.inr (.inl h4))
      · exact hS.own i b hi' ei (.inr (.inr h4))
  · refine ⟨fun h1 h2 => (hSr.dj b).1 h1 (.inl h2), fun h1 h2 => (hSr.dj b).2.1 h1 (.inl h2), (hS.dj b).2.2⟩

end Go.Gh
