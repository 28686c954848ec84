import Derived.Test.YtoamjccphppdmaaGhR

namespace Go.Gh

theorem rho_congr {σ σ' : List GV} {ops : Array Oper} {o : Oper} (h : ∀ t, t ∈ readsOf ops o → σ[t]? = σ'[t]?) {x : Operand} (hx : x ∈ o.op.operands) : rhoOf σ x = rhoOf σ' x := by
  cases x with
  | tmp t =>
    have : t ∈ readsOf ops o := by
      unfold readsOf
      refine List.mem_append_left _ (List.mem_filterMap.2 ⟨.tmp t, by simpa using hx, rfl⟩)
    show σ.getD t .any = σ'.getD t .any
    rw [List.getD_eq_getElem?_getD, List.getD_eq_getElem?_getD, h t this]
  | const v => rfl
  | global g => rfl
  | func f => rfl

theorem gwant_congr {σ σ' : List GV} {ops : Array Oper} {o : Oper} (h : ∀ t, t ∈ readsOf ops o → σ[t]? = σ'[t]?) : gwant ops σ o = gwant ops σ' o := by
  unfold gwant
  split
  · rfl
  · rename_i j want hg
    split
    · rename_i d hd
      have : d ∈ readsOf ops o := by
        unfold readsOf
        refine List.mem_append_right _ ?_
        rw [hg]
        simp [hd]
      rw [h d this]
    · rfl

theorem obAt_ext {tr : List Rec} {M : Nat → GO} {L : Nat → Bool} {i id : Nat} (h : ∀ (j : Nat) r, tr[j]? = some r → inW r id = true → L j = decide (j < i)) : obE tr 0 L M id = obAt tr M i id := by
  unfold obAt
  rw [obE_get, obE_get]
  refine lastW_congr fun j r hr hs => ?_
  rw [Nat.zero_add]
  refine h j r hr ?_
  unfold wrO at hs
  split at hs
  · assumption
  · simp at hs

theorem slAt_ext {tr : List Rec} {s : List GV} {L : Nat → Bool} {i t : Nat} (h : ∀ (j : Nat) r, tr[j]? = some r → r.dst = some t → L j = decide (j < i)) : (slE tr 0 L s)[t]? = (slAt tr s i)[t]? := by
  unfold slAt
  by_cases ht : t < s.length
  · have hx := List.getElem?_eq_getElem ht
    rw [slE_get tr 0 _ s t _ hx, slE_get tr 0 _ s t _ hx]
    congr 1
    refine lastW_congr fun j r hr hs => ?_
    rw [Nat.zero_add]
    refine h j r hr ?_
    unfold wrS at hs
    split at hs
    · assumption
    · simp at hs
  · rw [List.getElem?_eq_none (by rw [slE_length]; omega), List.getElem?_eq_none (by rw [slE_length]; omega)]

/-- The facts about a region that its walk needs. -/
structure Reg (P : Program) (ops : Array Oper) (tr : List Rec) (s : List GV) (M : List GO) (n : Nat) : Prop where
  len : tr.length = ops.size
  rec_ : ∀ (i : Nat) o r, ops[i]? = some o → tr[i]? = some r → RecOk P ops o r (slAt tr s i) (obAt tr (getM M) i) ∧ M.length ≤ r.nb ∧ r.nb + r.news.length ≤ n
  nbs : ∀ (i j : Nat) r r', i < j → tr[i]? = some r → tr[j]? = some r' → r.nb + r.news.length ≤ r'.nb
  back : edgesBack ops.toList = true
  free : ∀ (i j : Nat) o o' r r', i < j → ops[i]? = some o → ops[j]? = some o' → tr[i]? = some r → tr[j]? = some r' → ahead ops.toList i j = true ∨ clash ops o o' r r' = false

/-- What came up so far: with each all that must come ahead of it. -/
def Closed (ops : Array Oper) (L : Nat → Bool) : Prop := ∀ i j, j < ops.size → L j = true → ahead ops.toList i j = true → L i = true

/-- The listed ones. -/
def ls (l : Array Bool) (j : Nat) : Bool := l.getD j false

theorem any_ops {P : Program} {ops : Array Oper} {tr : List Rec} {s : List GV} {M : List GO} {n : Nat} (hR : Reg P ops tr s M n) {Q : Exit → Act → World → Prop}  {m : Nat} {ι0 : Nat → Hd} {Γ0 : Ctx} {w0 : World}
    (hQ : ∀ (Im' : Nat → Prop) (ι' : Nat → Hd) (w' : World) (a' : Act), Keep Γ0 w0 w' → (∀ b, Γ0.Im b → Im' b) → (∀ i, i < m → ι' i = ι0 i) →
      SR ⟨Im', Γ0.Bw, Γ0.Fz⟩ (dmE tr 0 (fun _ => true) (· < M.length)) ι' (obE tr 0 (fun _ => true) (getM M)) w' →
      SL ⟨Im', Γ0.Bw, Γ0.Fz⟩ (dmE tr 0 (fun _ => true) (· < M.length)) ι' w' (slE tr 0 (fun _ => true) s) a' → a'.defers = [] → Q .normal a' w') (hm : m ≤ M.length) :
    ∀ (fuel : Nat) (l : Array Bool) (Im : Nat → Prop) (ι : Nat → Hd) (a : Act) (w : World), l.size = ops.size → ops.size ≤ fuel + (l.toList.filter id).length → Closed ops (ls l) →
      Keep Γ0 w0 w → (∀ b, Γ0.Im b → Im b) → (∀ i, i < m → ι i = ι0 i) →
      SR ⟨Im, Γ0.Bw, Γ0.Fz⟩ (dmE tr 0 (ls l) (· < M.length)) ι (obE tr 0 (ls l) (getM M)) w → SL ⟨Im, Γ0.Bw, Γ0.Fz⟩ (dmE tr 0 (ls l) (· < M.length)) ι w (slE tr 0 (ls l) s) a → a.defers = [] →
      wpAny P .any ops Q fuel l a w := by
  have full : ∀ (l : Array Bool), l.size = ops.size → (∀ j, j < ops.size → ls l j = true) → slE tr 0 (ls l) s = slE tr 0 (fun _ => true) s ∧ obE tr 0 (ls l) (getM M) = obE tr 0 (fun _ => true) (getM M) ∧
      dmE tr 0 (ls l) (· < M.length) = dmE tr 0 (fun _ => true) (· < M.length) := by
    intro l hl hall
    have hj : ∀ (j : Nat) (r : Rec), tr[j]? = some r → ls l j = true := fun j r h => hall j (by rw [← hR.len]; exact (List.getElem?_eq_some_iff.1 h).1)
    refine ⟨?_, ?_, ?_⟩
    · apply List.ext_getElem?
      intro t
      by_cases ht : t < s.length
      · have hx := List.getElem?_eq_getElem ht
        rw [slE_get tr 0 _ s t _ hx, slE_get tr 0 _ s t _ hx]
        congr 1
        exact lastW_congr fun j r h _ => by rw [Nat.zero_add]; exact hj j r h
      · rw [List.getElem?_eq_none (by rw [slE_length]; omega), List.getElem?_eq_none (by rw [slE_length]; omega)]
    · funext id
      rw [obE_get, obE_get]
      exact lastW_congr fun j r h _ => by rw [Nat.zero_add]; exact hj j r h
    · funext id
      rw [eq_iff_iff, dmE_iff, dmE_iff]
      constructor
      · rintro (h | ⟨j, r, h1, h2, h3⟩)
        · exact .inl h
        · exact .inr ⟨j, r, h1, rfl, h3⟩
      · rintro (h | ⟨j, r, h1, h2, h3⟩)
        · exact .inl h
        · exact .inr ⟨j, r, h1, by rw [Nat.zero_add]; exact hj j r h1, h3⟩
  have notReady : ∀ (l : Array Bool), l.size = ops.size → Region.ready .any ops l = [] → ∀ j, j < ops.size → ls l j = true := by
    intro l hl hr j
    induction j using Nat.strongRecOn with
    | _ j ih =>
      intro hj
      by_cases h : ls l j = true
      · exact h
      · exfalso
        have : j ∈ Region.ready .any ops l := by
          unfold Region.ready
          rw [List.mem_filter]
          refine ⟨by simpa using hj, ?_⟩
          have ho : ops[j]? = some ops[j] := Array.getElem?_eq_getElem hj
          have hf : l.getD j true = false := by
            have h2 : l.getD j false = false := by simpa [ls] using h
            have hjl : j < l.size := by omega
            simpa [hjl] using h2
          rw [hf, ho]
          simp only [Bool.not_false, Bool.true_and, Option.map_some, Option.getD_some]
          rw [← Array.all_toList, List.all_eq_true]
          intro e he
          cases hbe : Region.binds .any e with
          | false => simp
          | true =>
          have hlt : e.on < j := by
            have hz : ops.toList.zipIdx[j]? = some (ops[j], j) := by simp [hj]
            have := List.all_eq_true.1 hR.back (ops[j], j) (List.mem_of_getElem? hz)
            have := List.all_eq_true.1 this e he
            simpa [hbe] using this
          have := ih e.on hlt (by omega)
          have h3 : l.getD e.on false = true := this
          rw [h3]; simp
        rw [hr] at this
        cases this
  intro fuel
  induction fuel with
  | zero =>
    intro l Im ι a w hl hfu hcl hkp hI hι hS hL hd
    have hall : ∀ j, j < ops.size → ls l j = true := by
      have h1 : (l.toList.filter id).length = l.toList.length := by
        have := List.length_filter_le id l.toList
        simp only [Array.length_toList] at *
        omega
      have h2 := List.length_filter_eq_length_iff.1 h1
      intro j hj
      have hjl : j < l.size := by omega
      have := h2 l[j] (by simp)
      simpa [ls, hjl] using this
    refine ⟨?_, ?_⟩
    · unfold Region.ready
      rw [List.filter_eq_nil_iff]
      intro j hj
      have hj' : j < ops.size := by simpa using hj
      have := hall j hj'
      have hjl : j < l.size := by omega
      have h3 : l.getD j true = true := by simpa [ls, hjl] using this
      rw [h3]; simp
    · obtain ⟨e1, e2, e3⟩ := full l hl hall
      rw [e2, e3] at hS
      rw [e1, e3] at hL
      exact hQ Im ι w a hkp hI hι hS hL hd
  | succ fuel ih =>
    intro l Im ι a w hl hfu hcl hkp hI hι hS hL hd
    refine ⟨fun hr => ?_, fun i hi => ?_⟩
    · obtain ⟨e1, e2, e3⟩ := full l hl (notReady l hl hr)
      rw [e2, e3] at hS
      rw [e1, e3] at hL
      exact hQ Im ι w a hkp hI hι hS hL hd
    · unfold Region.ready at hi
      rw [List.mem_filter] at hi
      obtain ⟨hi1, hi2⟩ := hi
      have hin : i < ops.size := by simpa using hi1
      have hil : i < l.size := by omega
      have ho : ops[i]? = some ops[i] := Array.getElem?_eq_getElem hin
      rw [ho] at hi2
      simp only [Option.map_some, Option.getD_some, Bool.and_eq_true, Bool.not_eq_true'] at hi2
      obtain ⟨hnot0, hpre⟩ := hi2
      have hnot : ls l i = false := by simpa [ls, hil] using hnot0
      have hit : i < tr.length := by rw [hR.len]; exact hin
      have hr : tr[i]? = some tr[i] := List.getElem?_eq_getElem hit
      generalize hoo : ops[i] = o at *
      generalize hrr : tr[i] = r at *
      obtain ⟨⟨hdst, hcase⟩, hnb1, hnb2⟩ := hR.rec_ i o r ho hr
      let l' := l.setIfInBounds i true
      have hl' : ∀ j, ls l' j = (decide (j = i) || ls l j) := fun j => by
        simp only [l', ls]
        by_cases e : j = i
        · subst e; simp [hil]
        · simp [e, Array.getElem?_setIfInBounds_ne (Ne.symm e)]
      -- all that must come ahead has come
      have hpreL : ∀ k, ahead ops.toList k i = true → ls l k = true := fun k hk => by
        obtain ⟨e, he, hb, h⟩ := ahead_step hR.back (by simpa using ho) hk
        have h1 := Array.all_eq_true_iff_forall_mem.1 hpre e (by simpa using he)
        simp only [hb, Bool.not_true, Bool.false_or] at h1
        have h1' : ls l e.on = true := h1
        rcases h with rfl | h
        · exact h1'
        · have hlt : e.on < i := by
            have hz : ops.toList.zipIdx[i]? = some (o, i) := by
              rw [List.getElem?_zipIdx]
              have : ops.toList[i]? = some o := by simpa using ho
              rw [this]; simp
            have := List.all_eq_true.1 hR.back (o, i) (List.mem_of_getElem? hz)
            have := List.all_eq_true.1 this e he
            simpa [hb] using this
          exact hcl k e.on (by omega) h1' h
      have hcl' : Closed ops (ls l') := fun k j hj hlj hk => by
        rw [hl'] at hlj ⊢
        by_cases e : j = i
        · subst e
          rw [hpreL k hk]; simp
        · have : ls l j = true := by simpa [e] using hlj
          rw [hcl k j hj this hk]; simp
      -- who of the others may have come, or not, sees nothing of it
      have side : ∀ (j : Nat) (r' : Rec), j ≠ i → tr[j]? = some r' → (ls l j = decide (j < i)) ∨
          (if j < i then clash ops (ops.getD j default) o r' r = false else clash ops o (ops.getD j default) r r' = false) := fun j r' hj hr' => by
        have hjt : j < ops.size := by rw [← hR.len]; exact (List.getElem?_eq_some_iff.1 hr').1
        have hoj : ops[j]? = some ops[j] := Array.getElem?_eq_getElem hjt
        have hgd : ops.getD j default = ops[j] := by simp [hjt]
        rcases Nat.lt_or_gt_of_ne hj with hlt | hgt
        · rw [if_pos hlt, hgd]
          rcases hR.free j i _ _ _ _ hlt hoj ho hr' hr with h | h
          · left; rw [hpreL j h]; simp [hlt]
          · exact .inr h
        · rw [if_neg (by omega), hgd]
          rcases hR.free i j _ _ _ _ hgt ho hoj hr hr' with h | h
          · left
            have : ls l j = false := by
              cases hlj : ls l j with
              | false => rfl
              | true => rw [hcl i j hjt hlj h] at hnot; cases hnot
            rw [this]; simp; omega
          · exact .inr h
      have hself : ∀ (j : Nat) (r' : Rec), tr[j]? = some r' → j = i → ls l j = decide (j < i) := fun j r' _ e => by subst e; rw [hnot]; simp
      have hslot : ∀ t, t ∈ readsOf ops o → (slE tr 0 (ls l) s)[t]? = (slAt tr s i)[t]? := fun t ht => by
        refine slAt_ext fun j r' hr' hd' => ?_
        by_cases e : j = i
        · exact hself j r' hr' e
        · rcases side j r' e hr' with h | h
          · exact h
          · exfalso
            split at h
            · simp only [clash, hd', Bool.or_eq_false_iff] at h
              have := h.1.1.1.1.1.1
              simp [ht] at this
            · simp only [clash, hd', Bool.or_eq_false_iff] at h
              have := h.1.1.1.1.1.2
              simp [ht] at this
      have hobj : ∀ id, id ∈ r.ids → obE tr 0 (ls l) (getM M) id = obAt tr (getM M) i id := fun id hid => by
        refine obAt_ext fun j r' hr' hw => ?_
        by_cases e : j = i
        · exact hself j r' hr' e
        · rcases side j r' e hr' with h | h
          · exact h
          · exfalso
            split at h
            · simp only [clash, Bool.or_eq_false_iff] at h
              have := h.1.1.1.2
              rw [List.any_eq_false] at this
              exact this id hid hw
            · simp only [clash, Bool.or_eq_false_iff] at h
              have := h.1.1.2
              rw [List.any_eq_false] at this
              exact this id hid hw
      have hwant : gwant ops (slE tr 0 (ls l) s) o = gwant ops (slAt tr s i) o := gwant_congr hslot
      have later : ∀ (j : Nat) (r' : Rec), i < j → tr[j]? = some r' → (ls l' j = false) ∨ clash ops o (ops.getD j default) r r' = false := fun j r' hij hr' => by
        rcases side j r' (by omega) hr' with h | h
        · left; rw [hl', h]; simp; omega
        · rw [if_neg (by omega)] at h; exact .inr h
      have other' : ∀ j, j ≠ i → ls l' j = ls l j := fun j hj => by rw [hl']; simp [hj]
      have E1 : slE tr 0 (ls l') s = putS (slE tr 0 (ls l) s) r.dst r.g := by
        apply List.ext_getElem?
        intro t
        by_cases ht : t < s.length
        · have hx := List.getElem?_eq_getElem ht
          rw [slE_get tr 0 _ s t _ hx, putS_get _ _ _ t _ (slE_get tr 0 _ s t _ hx)]
          congr 1
          by_cases hd' : r.dst = some t
          · rw [if_pos hd']
            refine lastW_hit hr (by unfold wrS; rw [if_pos hd']) (by rw [Nat.zero_add, hl']; simp) fun j r' hij hr' hs => ?_
            rw [Nat.zero_add]
            rcases later j r' hij hr' with h | h
            · exact h
            · exfalso
              have hd2 : r'.dst = some t := by
                unfold wrS at hs
                split at hs
                · assumption
                · simp at hs
              simp only [clash, hd', hd2, Bool.or_eq_false_iff] at h
              have := h.1.1.1.1.2
              simp at this
          · rw [if_neg hd']
            refine lastW_congr fun j r' hr' hs => ?_
            rw [Nat.zero_add]
            by_cases e : j = i
            · subst e
              rw [hr] at hr'
              cases hr'
              unfold wrS at hs
              rw [if_neg hd'] at hs
              simp at hs
            · exact other' j e
        · rw [List.getElem?_eq_none (by rw [slE_length]; omega), List.getElem?_eq_none (by rw [putS_length, slE_length]; omega)]
      have E2 : obE tr 0 (ls l') (getM M) = updF (obE tr 0 (ls l) (getM M)) r.ups r.nb r.news := by
        funext id
        rw [updF_eq, obE_get, obE_get]
        cases hw : wrO id r with
        | some v =>
          rw [Option.getD_some]
          have hin' : inW r id = true := by
            unfold wrO at hw
            split at hw
            · assumption
            · cases hw
          refine lastW_hit hr hw (by rw [Nat.zero_add, hl']; simp) fun j r' hij hr' hs => ?_
          rw [Nat.zero_add]
          rcases later j r' hij hr' with h | h
          · exact h
          · exfalso
            have hin2 : inW r' id = true := by
              unfold wrO at hs
              split at hs
              · assumption
              · simp at hs
            have hnbs := hR.nbs i j r r' hij hr hr'
            simp only [clash, Bool.or_eq_false_iff] at h
            have h5 := h.1.2
            have h6 := h.2
            rw [List.any_eq_false] at h5 h6
            unfold inW at hin' hin2
            simp only [Bool.or_eq_true, Bool.and_eq_true, decide_eq_true_eq] at hin' hin2
            rcases hin2 with hin2 | hin2
            · rcases hin' with hin' | hin'
              · omega
              · obtain ⟨x, hx, hxe⟩ := List.any_eq_true.1 hin'
                have := h6 x hx
                simp only [beq_iff_eq] at hxe
                subst hxe
                apply this
                unfold inW
                simp [hin2]
            · obtain ⟨x, hx, hxe⟩ := List.any_eq_true.1 hin2
              have := h5 x hx
              simp only [beq_iff_eq] at hxe
              subst hxe
              apply this
              unfold inW
              rcases hin' with hin' | hin'
              · simp [hin']
              · simp only [Bool.or_eq_true]; exact .inr hin'
        | none =>
          rw [Option.getD_none]
          refine lastW_congr fun j r' hr' hs => ?_
          rw [Nat.zero_add]
          by_cases e : j = i
          · subst e
            rw [hr] at hr'
            cases hr'
            rw [hw] at hs
            simp at hs
          · exact other' j e
      have E3 : dmE tr 0 (ls l') (· < M.length) = fun id => dmE tr 0 (ls l) (· < M.length) id ∨ (r.nb ≤ id ∧ id < r.nb + r.news.length) := by
        funext id
        rw [eq_iff_iff, dmE_iff, dmE_iff]
        constructor
        · rintro (h | ⟨j, r', h1, h2, h3⟩)
          · exact .inl (.inl h)
          · rw [Nat.zero_add] at h2
            by_cases e : j = i
            · subst e
              rw [hr] at h1
              cases h1
              exact .inr h3
            · exact .inl (.inr ⟨j, r', h1, by rw [Nat.zero_add, ← other' j e]; exact h2, h3⟩)
        · rintro ((h | ⟨j, r', h1, h2, h3⟩) | h)
          · exact .inl h
          · refine .inr ⟨j, r', h1, ?_, h3⟩
            rw [Nat.zero_add] at h2 ⊢
            rw [hl', h2]; simp
          · exact .inr ⟨i, r, hr, by rw [Nat.zero_add, hl']; simp, h⟩
      have hcount : ops.size ≤ fuel + (l'.toList.filter id).length := by
        have h1 : (l'.toList.filter id).length = (l.toList.filter id).length + 1 := by
          show ((l.setIfInBounds i true).toList.filter id).length = _
          rw [Array.toList_setIfInBounds]
          have hli : l.toList[i]? = some false := by
            have : l.getD i false = false := hnot
            simp [hil] at this
            simp [hil, this]
          have hsplit : l.toList = l.toList.take i ++ false :: l.toList.drop (i + 1) := by
            have h2 := List.take_append_drop i l.toList
            rw [List.drop_eq_getElem_cons (by simpa using hil)] at h2
            have h3 : l.toList[i]'(by simpa using hil) = false := by
              rw [List.getElem?_eq_getElem (by simpa using hil)] at hli
              exact Option.some.inj hli
            rw [h3] at h2
            exact h2.symm
          have hset : l.toList.set i true = l.toList.take i ++ true :: l.toList.drop (i + 1) := by
            rw [List.set_eq_take_append_cons_drop, if_pos (by simpa using hil)]
          rw [hset]
          conv => rhs; rw [hsplit]
          simp [List.filter_append]
          omega
        omega
      have hl's : l'.size = ops.size := by simp [l', hl]
      have hg0 : gwant ops (slE tr 0 (ls l) s) o = gwant ops (slAt tr s i) o := hwant
      show wpOp P ops Q i (wpAny P .any ops Q fuel l') a w
      unfold wpOp
      rw [ho]
      simp only
      rcases hcase with ⟨hgw, hg1, hg2, hg3, hg4⟩ | ⟨hgw, hop⟩
      · have hw' := gwant_sound (hg0.trans hgw) hL
        rw [if_neg (by rw [hw']; simp)]
        rw [hg1] at E1
        have E2' : obE tr 0 (ls l') (getM M) = obE tr 0 (ls l) (getM M) := by rw [E2, hg2, hg3]; exact updF_nil _ _
        have E3' : dmE tr 0 (ls l') (· < M.length) = dmE tr 0 (ls l) (· < M.length) := by rw [E3, hg3]; exact dom_nil _ _
        refine ih l' Im ι _ w hl's hcount hcl' hkp hI hι ?_ ?_ (by rw [put_defers]; exact hd)
        · rw [E2', E3']; exact hS
        · rw [E1, E3', ← hdst]; exact hL.put _ (.imm (.lit _))
      · have hw' := gwant_sound (hg0.trans hgw) hL
        rw [if_pos hw']
        refine .inl (hop ⟨Im, Γ0.Bw, Γ0.Fz⟩ _ ι (obE tr 0 (ls l) (getM M)) w a _ Q hS (fun x hx => ?_) hobj (fun id h1 h2 h3 => ?_) fun Im' ι' v' w' h1 h2 h3 h4 h5 => ?_)
        · rw [← rho_congr hslot hx]; exact hL.eval x
        · rw [dmE_iff] at h3
          rcases h3 with h3 | ⟨j, r', h4, h5, h6⟩
          · omega
          · rw [Nat.zero_add] at h5
            by_cases e : j = i
            · subst e; rw [hnot] at h5; cases h5
            · rcases Nat.lt_or_gt_of_ne e with hlt | hgt
              · have := hR.nbs j i r' r hlt h4 hr; omega
              · have := hR.nbs i j r r' hgt hr h4; omega
        · have hdle : ∀ id, dmE tr 0 (ls l) (· < M.length) id → dmE tr 0 (ls l') (· < M.length) id := fun id h => by rw [E3]; exact .inl h
          refine ih l' Im' ι' _ w' hl's hcount hcl' (keep_trans hkp hI h1) (fun b hb => h2 b (hI b hb)) (fun k hk => ?_) ?_ ?_ (by rw [put_defers]; exact hd)
          · rw [h3 k (by rw [dmE_iff]; exact .inl (by omega))]; exact hι k hk
          · rw [E2, E3]; exact h4
          · rw [E1, E3, ← hdst]
            exact (hL.mono (Γ' := ⟨Im', Γ0.Bw, Γ0.Fz⟩) h2 (fun _ h => h) (fun id h => .inl h) h3 fun b hb => h1.block b (hb.elim .inl fun x => .inr (.inl x))).put _ h5

theorem CS_draw {P : Program} {m id : Nat} {ops : Array Oper} {σ σ' : List GV} {M M' : List GO} {tr : List Rec} {R : Exit → List GV → List GO → Prop} (hm : P.follows .mixedOrders = true)
    (h : TR P ops ops.toList σ M tr σ' M') (hi : indep ops tr = true) (hR : R .normal σ' M') : CS P m (.region id ops true) σ M R := by
  intro Γ ι w a Q hmM hS hL hd hk
  obtain ⟨h1, h2, h3, h4, h5, h6, h7⟩ := h.recs
  unfold indep at hi
  simp only [Bool.and_eq_true] at hi
  have hlen : tr.length = ops.size := by rw [h1]; simp
  have hreg : Reg P ops tr σ M M'.length := by
    refine ⟨hlen, fun i o r ho hr => h2 i o r (by simpa using ho) hr, h3, hi.1, fun i j o o' r r' hij ho ho' hr hr' => ?_⟩
    have hj : j < tr.length := (List.getElem?_eq_some_iff.1 hr').1
    have e1 := List.all_eq_true.1 hi.2 j (by simpa using hj)
    have e2 := List.all_eq_true.1 e1 i (by simpa using hij)
    have a1 : ops.getD i default = o := by simp [ho]
    have a2 : ops.getD j default = o' := by simp [ho']
    have a3 : tr.getD i ⟨none, [], .any, [], 0, []⟩ = r := by simp [hr]
    have a4 : tr.getD j ⟨none, [], .any, [], 0, []⟩ = r' := by simp [hr']
    rw [a1, a2, a3, a4] at e2
    simpa using e2
  have hall : ∀ (j : Nat) (r : Rec), tr[j]? = some r → (fun _ => true : Nat → Bool) j = decide (j < tr.length) := fun j r hr => by
    simp [(List.getElem?_eq_some_iff.1 hr).1]
  have es : slE tr 0 (fun _ => true) σ = σ' := by
    rw [← h4]
    apply List.ext_getElem?
    intro t
    exact slAt_ext fun j r hr _ => hall j r hr
  have eo : obE tr 0 (fun _ => true) (getM M) = getM M' := by
    rw [← h5]; funext id
    exact obAt_ext fun j r hr _ => hall j r hr
  have ed : dmE tr 0 (fun _ => true) (· < M.length) = (· < M'.length) := by
    funext id
    rw [eq_iff_iff, dmE_iff]
    constructor
    · rintro (h | ⟨j, r, h8, _, h9, h10⟩)
      · omega
      · have hj : j < ops.size := by rw [← hlen]; exact (List.getElem?_eq_some_iff.1 h8).1
        have := (hreg.rec_ j ops[j] r (Array.getElem?_eq_getElem hj) h8).2.2
        omega
    · intro h
      rcases h7 id h with h | ⟨j, r, h8, h9⟩
      · exact .inl h
      · exact .inr ⟨j, r, h8, rfl, h9⟩
  have hls : ∀ j, ls (Array.replicate ops.size false) j = false := fun j => by
    unfold ls
    by_cases hj : j < ops.size <;> simp [hj]
  have hlsf : ls (Array.replicate ops.size false) = fun _ => false := funext hls
  refine wp_region_any hm (any_ops hreg (m := m) (ι0 := ι) (Γ0 := Γ) (w0 := w) (fun Im' ι' w' a' k1 k2 k3 k4 k5 k6 => ?_) hmM ops.size _ Γ.Im ι a _ (by simp) (by omega) ?_ ⟨rfl, rfl, rfl, Nat.le_refl _, fun _ _ => rfl⟩ (fun _ h => h) (fun _ _ => rfl) ?_ ?_ hd)
  · rw [eo, ed] at k4
    rw [es, ed] at k5
    exact hk .normal σ' M' Im' ι' w' a' hR k1 k2 k3 (by omega) k4 k5 k6
  · intro i j _ h; rw [hls] at h; cases h
  · rw [hlsf, obE_none]
    have : dmE tr 0 (fun _ => false) (· < M.length) = (· < M.length) := by
      funext id; rw [eq_iff_iff, dmE_iff]; simp
    rw [this]
    exact hS.heap rfl
  · rw [hlsf, slE_none]
    have : dmE tr 0 (fun _ => false) (· < M.length) = (· < M.length) := by
      funext id; rw [eq_iff_iff, dmE_iff]; simp
    rw [this]
    exact hL.mono (fun _ h => h) (fun _ h => h) (fun _ h => h) (fun _ _ => rfl) (fun _ _ => rfl)

end Go.Gh
