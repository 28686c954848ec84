import Derived.Test.YtoamjccphppdmaaGhL

namespace Go.Gh

def getM (M : List GO) : Nat → GO := fun i => M.getD i .dead

/-- The function makes r out of these, and turns objects M into M' (new ones behind the old). -/
structure FS (P : Program) (f : FuncId) (args : List GV) (M : List GO) (r : GV) (M' : List GO) : Prop where
  run : ∀ (Γ : Ctx) (ι : Nat → Hd) (w : World) (as : Array Value), SR Γ (· < M.length) ι (getM M) w → as.size = args.length →
    (∀ (i : Nat) g, args[i]? = some g → VR Γ.Im Γ.Bw (· < M.length) ι w g (as.getD i undef)) →
    Calls P f as w fun e w' => ∃ (v : Value) (Im' : Nat → Prop) (ι' : Nat → Hd), e = .returned v ∧ Keep Γ w w' ∧ (∀ b, Γ.Im b → Im' b) ∧ (∀ i, i < M.length → ι' i = ι i) ∧
      SR ⟨Im', Γ.Bw, Γ.Fz⟩ (· < M'.length) ι' (getM M') w' ∧ VR Im' Γ.Bw (· < M'.length) ι' w' r v

def lend (M : Nat → GO) (ids : List Nat) (g : GV) : Option GV :=
  match g with
  | .row id => if ids.contains id then some (.row (ids.idxOf id)) else match M id with
    | .row _ sz xs => some (.sl true sz xs [])
    | _ => none
  | .sub id lo hi => if ids.contains id then some (.sub (ids.idxOf id) lo hi) else match M id with
    | .row _ sz xs => some (.sl true sz ((xs.drop lo).take (hi - lo)) [])
    | _ => none
  | .adr id i j => if ids.contains id then some (.adr (ids.idxOf id) i j) else match M id with
    | .cells cs => if pureL cs then some (.iadr true (cs.drop j)) else none
    | _ => none
  | g => if gin ids g then some (ren (ids.idxOf ·) g) else none

def lendAll (M : Nat → GO) (ids : List Nat) : List GV → Option (List GV)
  | [] => some []
  | g :: l => (lend M ids g).bind fun x => (lendAll M ids l).map fun r => x :: r

def bor (ids : List Nat) : GV → List Nat
  | .row id => if ids.contains id then [] else [id]
  | .sub id _ _ => if ids.contains id then [] else [id]
  | .adr id _ _ => if ids.contains id then [] else [id]
  | _ => []

def borAll (ids : List Nat) : List GV → List Nat
  | [] => []
  | g :: l => bor ids g ++ borAll ids l

theorem bor_not {ids : List Nat} {g : GV} {id : Nat} (h : id ∈ bor ids g) : id ∉ ids := by
  cases g <;> simp only [bor, List.not_mem_nil] at h
  all_goals
    split at h
    · simp at h
    · rename_i hc
      simp only [List.mem_singleton] at h
      subst h
      simpa using hc

theorem borAll_not {ids : List Nat} {l : List GV} {id : Nat} (h : id ∈ borAll ids l) : id ∉ ids := by
  induction l with
  | nil => simp [borAll] at h
  | cons g l ih =>
    simp only [borAll, List.mem_append] at h
    exact h.elim bor_not ih

theorem bor_mem {ids : List Nat} {l : List GV} {i : Nat} {g : GV} (hg : l[i]? = some g) {id : Nat} (h : id ∈ bor ids g) : id ∈ borAll ids l := by
  induction l generalizing i with
  | nil => simp at hg
  | cons x l ih =>
    simp only [borAll, List.mem_append]
    cases i with
    | zero => simp at hg; subst hg; exact .inl h
    | succ i => exact .inr (ih (by simpa using hg))

theorem lendAll_get {M : Nat → GO} {ids : List Nat} : ∀ {l r : List GV}, lendAll M ids l = some r → r.length = l.length ∧ ∀ (i : Nat) g', r[i]? = some g' → ∃ g, l[i]? = some g ∧ lend M ids g = some g'
  | [], r, h => by simp only [lendAll, Option.some.injEq] at h; subst h; exact ⟨rfl, fun i g' h => by simp at h⟩
  | g :: l, r, h => by
    simp only [lendAll, Option.bind_eq_some_iff, Option.map_eq_some_iff] at h
    obtain ⟨x, hx, r', hr, rfl⟩ := h
    obtain ⟨h1, h2⟩ := lendAll_get hr
    refine ⟨by simp [h1], fun i g' hg => ?_⟩
    cases i with
    | zero => simp at hg; subst hg; exact ⟨g, by simp, hx⟩
    | succ i => obtain ⟨y, h3, h4⟩ := h2 i g' (by simpa using hg); exact ⟨y, by simpa using h3, h4⟩

theorem lend_sound {Γ : Ctx} {D : Nat → Prop} {ι : Nat → Hd} {M M0 : Nat → GO} {w : World} (hS : SR Γ D ι M w) {ids : List Nat} {g g' : GV} {u : Value} (hV : VR Γ.Im Γ.Bw D ι w g u)
    (hM : ∀ id, id ∈ bor ids g → M id = M0 id) (h : lend M0 ids g = some g') {Bw' : Nat → Prop} (hB : ∀ b, Γ.Bw b → Bw' b)
    (hBor : ∀ id b, id ∈ bor ids g → M id ≠ .dead → (ι id).A = some b → Bw' b) {ι' : Nat → Hd} {n : Nat}
    (hι : ∀ i, i ∈ ids → ids.idxOf i < n ∧ ι' (ids.idxOf i) = ι i) : VR Γ.Im Bw' (· < n) ι' w g' u := by
  have gen : gin ids g = true → VR Γ.Im Bw' (· < n) ι' w (ren (ids.idxOf ·) g) u := fun hg =>
    ((hV.restrict hg).ren hι).mono (fun _ h => h) hB (fun _ h => h) (fun _ _ => rfl) (fun _ _ => rfl)
  cases g
  case row id =>
    simp only [lend] at h
    split at h
    · rename_i hc
      cases h
      exact gen (by simpa [gin] using hc)
    · rename_i hc
      have hb : id ∈ bor ids (.row id) := by simp only [bor]; rw [if_neg hc]; simp
      split at h
      · rename_i e sz xs hm
        cases h
        · have ho := hS.obj id
          rw [hM id hb, hm] at ho
          obtain ⟨A, c, news, hs⟩ := src_row hV ho
          obtain ⟨hD, hu⟩ := hV.row_inv
          obtain ⟨_, h1, _, cs, _, _, _, h2⟩ := row_cases ho
          have hval := hs.val
          rw [hu, Hd.val] at hval
          simp only [Value.slice.injEq] at hval
          obtain ⟨hA, _, hc'⟩ := hval
          refine .imm (lend_src true hs (fun a ha => ?_) ?_ (fun _ h => h) fun a ha _ => ?_)
          · rw [← hA] at ha
            cases hA' : (ι id).A with
            | none => simp [hA'] at ha
            | some b => simp [hA'] at ha; subst ha; rfl
          · rcases h2 with ⟨_, h3, h4⟩ | ⟨b, _, h3, _⟩ <;> omega
          · rw [← hA] at ha
            cases hA' : (ι id).A with
            | none => simp [hA'] at ha
            | some b => simp [hA'] at ha; subst ha; exact hBor id b hb (by rw [hM id hb, hm]; simp) hA'
      · cases h
  case sub id lo hi =>
    simp only [lend] at h
    split at h
    · rename_i hc
      cases h
      exact gen (by simpa [gin] using hc)
    · rename_i hc
      have hb : id ∈ bor ids (.sub id lo hi) := by simp only [bor]; rw [if_neg hc]; simp
      split at h
      · rename_i e sz xs hm
        cases h
        · have ho := hS.obj id
          rw [hM id hb, hm] at ho
          obtain ⟨A, c, news, hs⟩ := src_sub hV ho
          obtain ⟨hD, hle, hhi, A', c', hu, hcap, _, hsp, hblk⟩ := hV.sub_inv
          obtain ⟨_, h1, _⟩ := row_cases ho
          have hval := hs.val
          have hlen : ((xs.drop lo).take (hi - lo)).length = hi - lo := by simp; omega
          rw [hu] at hval
          simp only [Value.slice.injEq] at hval
          obtain ⟨rfl, _, rfl⟩ := hval
          refine .imm (lend_src true hs hsp (by omega) (fun _ h => h) fun a ha hne => ?_)
          rw [hlen] at hne
          obtain ⟨b, hb1, hb2⟩ := hblk (by omega)
          rw [ha] at hb2
          simp only [Option.some.injEq] at hb2
          subst hb2
          exact hBor id b hb (by rw [hM id hb, hm]; simp) hb1
      · cases h
  case adr id i j =>
    simp only [lend] at h
    split at h
    · rename_i hc
      cases h
      exact gen (by simpa [gin] using hc)
    · rename_i hc
      have hb : id ∈ bor ids (.adr id i j) := by simp only [bor]; rw [if_neg hc]; simp
      split at h
      · rename_i cs hm
        split at h
        · rename_i hpu
          cases h
          have ho := hS.obj id
          rw [hM id hb, hm] at ho
          obtain ⟨hD, b, hA, rfl⟩ := hV.adr_inv
          obtain ⟨h0, b', arr, t, h1, h2, h3, hf, h4⟩ := ho
          obtain rfl : b' = b := Option.some.inj (h1.symm.trans hA)
          rw [h0, Nat.mul_zero, Nat.zero_add]
          have hlt : ∀ (k : Nat) g, (cs.drop j)[k]? = some g → j + k < arr.size ∧ cs[j + k]? = some g := fun k g hg => by
            rw [List.getElem?_drop] at hg
            exact ⟨by rw [h3]; exact (List.getElem?_eq_some_iff.1 hg).1, hg⟩
          refine .imm (.iadr true _ _ (fun k => arr.getD (j + k) undef) rfl (fun k g hg => ?_) (fun k g hg => ?_) (fun k g hg => ?_))
          · obtain ⟨k1, k2⟩ := hlt k g hg
            refine ⟨hBor id b' hb (by rw [hM id hb, hm]; simp) hA, ?_⟩
            simp [World.cell?, h2, k1]
          · exact hf _ (hlt k g hg).1
          · obtain ⟨k1, k2⟩ := hlt k g hg
            exact (h4 _ g k2).toVP (pureL_get hpu k2).1 (pureL_get hpu k2).2
        · cases h
      · cases h
  all_goals
    simp only [lend] at h
    split at h
    · rename_i hc
      cases h
      exact gen hc
    · cases h

end Go.Gh
