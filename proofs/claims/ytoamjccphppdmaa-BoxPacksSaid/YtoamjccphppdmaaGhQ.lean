import Derived.Test.YtoamjccphppdmaaGhP

namespace Go.Gh

/-! A region whose order is open. -/

def lastW {V : Type} (wr : Rec → Option V) : List Rec → Nat → (Nat → Bool) → V → V
  | [], _, _, x => x
  | r :: tr, k, L, x => lastW wr tr (k + 1) L (if L k then (wr r).getD x else x)

theorem lastW_congr {V : Type} {wr : Rec → Option V} : ∀ {tr : List Rec} {k : Nat} {L L' : Nat → Bool} {x : V},
    (∀ (j : Nat) r, tr[j]? = some r → (wr r).isSome = true → L (k + j) = L' (k + j)) → lastW wr tr k L x = lastW wr tr k L' x
  | [], k, L, L', x, _ => rfl
  | r :: tr, k, L, L', x, h => by
    simp only [lastW]
    have h0 : (if L k then (wr r).getD x else x) = if L' k then (wr r).getD x else x := by
      cases hw : wr r with
      | none => simp
      | some v => have := h 0 r (by simp) (by simp [hw]); rw [Nat.add_zero] at this; rw [this]
    rw [h0]
    exact lastW_congr fun j r' hj hs => by have := h (j + 1) r' (by simpa using hj) hs; rwa [show k + 1 + j = k + (j + 1) by omega]

theorem lastW_off {V : Type} {wr : Rec → Option V} : ∀ {tr : List Rec} {k : Nat} {L : Nat → Bool} {x : V},
    (∀ (j : Nat) r, tr[j]? = some r → (wr r).isSome = true → L (k + j) = false) → lastW wr tr k L x = x
  | [], k, L, x, _ => rfl
  | r :: tr, k, L, x, h => by
    simp only [lastW]
    have h0 : (if L k then (wr r).getD x else x) = x := by
      cases hw : wr r with
      | none => simp
      | some v => have := h 0 r (by simp) (by simp [hw]); rw [Nat.add_zero] at this; simp [this]
    rw [h0]
    exact lastW_off fun j r' hj hs => by have := h (j + 1) r' (by simpa using hj) hs; rwa [show k + 1 + j = k + (j + 1) by omega]

theorem lastW_hit {V : Type} {wr : Rec → Option V} : ∀ {tr : List Rec} {k : Nat} {L : Nat → Bool} {x v : V} {i : Nat} {r : Rec}, tr[i]? = some r → wr r = some v → L (k + i) = true →
    (∀ (j : Nat) r', i < j → tr[j]? = some r' → (wr r').isSome = true → L (k + j) = false) → lastW wr tr k L x = v
  | [], k, L, x, v, i, r, hr, _, _, _ => by simp at hr
  | r0 :: tr, k, L, x, v, 0, r, hr, hw, hL, h => by
    simp at hr; subst hr
    simp only [lastW]
    rw [lastW_off fun j r' hj hs => by have := h (j + 1) r' (by omega) (by simpa using hj) hs; rwa [show k + 1 + j = k + (j + 1) by omega]]
    rw [Nat.add_zero] at hL
    simp [hL, hw]
  | r0 :: tr, k, L, x, v, i + 1, r, hr, hw, hL, h => by
    simp only [lastW]
    exact lastW_hit (i := i) (by simpa using hr) hw (by rwa [show k + 1 + i = k + (i + 1) by omega])
      fun j r' hij hj hs => by have := h (j + 1) r' (by omega) (by simpa using hj) hs; rwa [show k + 1 + j = k + (j + 1) by omega]

def slE : List Rec → Nat → (Nat → Bool) → List GV → List GV
  | [], _, _, s => s
  | r :: tr, k, L, s => slE tr (k + 1) L (if L k then putS s r.dst r.g else s)

def obE : List Rec → Nat → (Nat → Bool) → (Nat → GO) → Nat → GO
  | [], _, _, M => M
  | r :: tr, k, L, M => obE tr (k + 1) L (if L k then updF M r.ups r.nb r.news else M)

def dmE : List Rec → Nat → (Nat → Bool) → (Nat → Prop) → Nat → Prop
  | [], _, _, D => D
  | r :: tr, k, L, D => dmE tr (k + 1) L (if L k then fun i => D i ∨ (r.nb ≤ i ∧ i < r.nb + r.news.length) else D)

def wrS (t : Nat) (r : Rec) : Option GV := if r.dst = some t then some r.g else none

def inW (r : Rec) (id : Nat) : Bool := (decide (r.nb ≤ id) && decide (id < r.nb + r.news.length)) || r.ups.any (·.1 == id)

def valW (r : Rec) (id : Nat) : GO := if r.nb ≤ id ∧ id < r.nb + r.news.length then r.news.getD (id - r.nb) .dead else ((r.ups.find? (·.1 == id)).map (·.2)).getD .dead

def wrO (id : Nat) (r : Rec) : Option GO := if inW r id then some (valW r id) else none

theorem putS_length (s : List GV) (d : Option Tmp) (g : GV) : (putS s d g).length = s.length := by cases d <;> simp [putS]

theorem putS_get (s : List GV) (d : Option Tmp) (g : GV) (t : Nat) (x : GV) (hx : s[t]? = some x) : (putS s d g)[t]? = some (if d = some t then g else x) := by
  have ht : t < s.length := (List.getElem?_eq_some_iff.1 hx).1
  cases d with
  | none => simpa [putS] using hx
  | some d =>
    by_cases e : d = t
    · subst e; simp only [putS, if_true]; exact List.getElem?_set_self ht
    · have : ¬ (some d = some t) := fun h => e (Option.some.inj h)
      simp only [putS, if_neg this]
      rw [List.getElem?_set_ne e]; exact hx

theorem slE_length : ∀ (tr : List Rec) (k : Nat) (L : Nat → Bool) (s : List GV), (slE tr k L s).length = s.length
  | [], _, _, _ => rfl
  | r :: tr, k, L, s => by simp only [slE]; rw [slE_length]; split <;> simp [putS_length]

theorem slE_get : ∀ (tr : List Rec) (k : Nat) (L : Nat → Bool) (s : List GV) (t : Nat) (x : GV), s[t]? = some x → (slE tr k L s)[t]? = some (lastW (wrS t) tr k L x)
  | [], _, _, _, _, _, h => h
  | r :: tr, k, L, s, t, x, h => by
    simp only [slE, lastW]
    refine slE_get tr (k + 1) L _ t _ ?_
    cases hk : L k with
    | false => simpa using h
    | true =>
      simp only [if_true]
      rw [putS_get s r.dst r.g t x h]
      unfold wrS
      split <;> rfl

theorem updF_eq (M : Nat → GO) (r : Rec) (id : Nat) : updF M r.ups r.nb r.news id = (wrO id r).getD (M id) := by
  unfold updF wrO inW valW
  by_cases h : r.nb ≤ id ∧ id < r.nb + r.news.length
  · simp [h]
  · have h' : (decide (r.nb ≤ id) && decide (id < r.nb + r.news.length)) = false := by simpa using h
    rw [if_neg h, h', Bool.false_or]
    cases ha : r.ups.find? (·.1 == id) with
    | none =>
      have : r.ups.any (·.1 == id) = false := by
        rw [List.find?_eq_none] at ha
        rw [Bool.eq_false_iff]
        intro h
        obtain ⟨x, hx, h2⟩ := List.any_eq_true.1 h
        exact ha x hx h2
      simp [this]
    | some x =>
      have : r.ups.any (·.1 == id) = true := List.any_eq_true.2 ⟨x, List.mem_of_find?_eq_some ha, by have := List.find?_some ha; simpa using this⟩
      simp [this, h]

theorem obE_get : ∀ (tr : List Rec) (k : Nat) (L : Nat → Bool) (M : Nat → GO) (id : Nat), obE tr k L M id = lastW (wrO id) tr k L (M id)
  | [], _, _, _, _ => rfl
  | r :: tr, k, L, M, id => by
    simp only [obE, lastW]
    rw [obE_get]
    congr 1
    cases L k with
    | false => rfl
    | true => simp only [if_true]; exact updF_eq M r id

theorem dmE_iff : ∀ (tr : List Rec) (k : Nat) (L : Nat → Bool) (D : Nat → Prop) (id : Nat),
    dmE tr k L D id ↔ D id ∨ ∃ (j : Nat) (r : Rec), tr[j]? = some r ∧ L (k + j) = true ∧ r.nb ≤ id ∧ id < r.nb + r.news.length
  | [], _, _, D, id => by simp [dmE]
  | r :: tr, k, L, D, id => by
    simp only [dmE]
    rw [dmE_iff]
    constructor
    · rintro (h | ⟨j, r', h1, h2, h3⟩)
      · split at h
        · rename_i hk
          rcases h with h | h
          · exact .inl h
          · exact .inr ⟨0, r, by simp, by simpa using hk, h⟩
        · exact .inl h
      · exact .inr ⟨j + 1, r', by simpa using h1, by rwa [show k + (j + 1) = k + 1 + j by omega], h3⟩
    · rintro (h | ⟨j, r', h1, h2, h3⟩)
      · left; split
        · exact .inl h
        · exact h
      · cases j with
        | zero =>
          simp at h1; subst h1
          left; rw [Nat.add_zero] at h2; rw [if_pos h2]; exact .inr h3
        | succ j => exact .inr ⟨j, r', by simpa using h1, by rwa [show k + 1 + j = k + (j + 1) by omega], h3⟩

/-! What is known of a trace. -/

/-- The state ahead of operation i, in the text's order. -/
def slAt (tr : List Rec) (s : List GV) (i : Nat) : List GV := slE tr 0 (fun j => decide (j < i)) s
def obAt (tr : List Rec) (M : Nat → GO) (i : Nat) : Nat → GO := obE tr 0 (fun j => decide (j < i)) M

theorem slE_shift (tr : List Rec) (k : Nat) (L : Nat → Bool) (s : List GV) : slE tr (k + 1) L s = slE tr k (fun j => L (j + 1)) s := by
  induction tr generalizing k s with
  | nil => rfl
  | cons r tr ih => simp only [slE]; rw [ih]

theorem obE_shift (tr : List Rec) (k : Nat) (L : Nat → Bool) (M : Nat → GO) : obE tr (k + 1) L M = obE tr k (fun j => L (j + 1)) M := by
  induction tr generalizing k M with
  | nil => rfl
  | cons r tr ih => simp only [obE]; rw [ih]

theorem slE_none (tr : List Rec) (k : Nat) (s : List GV) : slE tr k (fun _ => false) s = s := by
  induction tr generalizing k s with
  | nil => rfl
  | cons r tr ih => simp only [slE]; simpa using ih (k + 1) s

theorem obE_none (tr : List Rec) (k : Nat) (M : Nat → GO) : obE tr k (fun _ => false) M = M := by
  induction tr generalizing k M with
  | nil => rfl
  | cons r tr ih => simp only [obE]; simpa using ih (k + 1) M

theorem slAt_cons (r : Rec) (tr : List Rec) (s : List GV) (i : Nat) : slAt (r :: tr) s (i + 1) = slAt tr (putS s r.dst r.g) i := by
  unfold slAt
  simp only [slE]
  rw [slE_shift]
  simp
theorem obAt_cons (r : Rec) (tr : List Rec) (M : Nat → GO) (i : Nat) : obAt (r :: tr) M (i + 1) = obAt tr (updF M r.ups r.nb r.news) i := by
  unfold obAt
  simp only [obE]
  rw [obE_shift]
  simp
theorem slAt_zero (tr : List Rec) (s : List GV) : slAt tr s 0 = s := by unfold slAt; simpa using slE_none tr 0 s
theorem obAt_zero (tr : List Rec) (M : Nat → GO) : obAt tr M 0 = M := by unfold obAt; simpa using obE_none tr 0 M

/-- Each operation, and what it did, from the state ahead of it. -/
def RecOk (P : Program) (ops : Array Oper) (o : Oper) (r : Rec) (σ : List GV) (M : Nat → GO) : Prop :=
  r.dst = o.dst ∧ ((gwant ops σ o = some false ∧ r.g = gundef ∧ r.ups = [] ∧ r.news = [] ∧ r.ids = []) ∨ (gwant ops σ o = some true ∧ OpS P o (rhoOf σ) r.nb M r.ids r.g r.ups r.news))

theorem TR.recs {P : Program} {ops : Array Oper} {l : List Oper} {σ σ' : List GV} {M M' : List GO} {tr : List Rec} (h : TR P ops l σ M tr σ' M') :
    tr.length = l.length ∧ (∀ (i : Nat) o r, l[i]? = some o → tr[i]? = some r → RecOk P ops o r (slAt tr σ i) (obAt tr (getM M) i) ∧ M.length ≤ r.nb ∧ r.nb + r.news.length ≤ M'.length) ∧
      (∀ (i j : Nat) r r', i < j → tr[i]? = some r → tr[j]? = some r' → r.nb + r.news.length ≤ r'.nb) ∧
      slAt tr σ tr.length = σ' ∧ obAt tr (getM M) tr.length = getM M' ∧ M.length ≤ M'.length ∧
      (∀ id, id < M'.length → id < M.length ∨ ∃ (j : Nat) (r : Rec), tr[j]? = some r ∧ r.nb ≤ id ∧ id < r.nb + r.news.length) := by
  induction h with
  | nil σ M => exact ⟨rfl, fun i o r h => by simp at h, fun i j r r' _ h => by simp at h, slAt_zero [] σ, obAt_zero [] _, Nat.le_refl _, fun id h => .inl h⟩
  | @skip o rest σ M tr σ' M' hg _ ih =>
    obtain ⟨h1, h2, h3, h4, h5, h6, h7⟩ := ih
    have hu : updF (getM M) [] M.length [] = getM M := updF_nil _ _
    refine ⟨by simp [h1], fun i o' r ho hr => ?_, fun i j r r' hij hr hr' => ?_, ?_, ?_, h6, fun id hid => ?_⟩
    · cases i with
      | zero =>
        simp at ho hr; subst ho; subst hr
        rw [slAt_zero, obAt_zero]
        exact ⟨⟨rfl, .inl ⟨hg, rfl, rfl, rfl, rfl⟩⟩, Nat.le_refl _, by simpa using h6⟩
      | succ i =>
        have := h2 i o' r (by simpa using ho) (by simpa using hr)
        rw [slAt_cons, obAt_cons]
        simp only [hu]
        exact this
    · cases j with
      | zero => omega
      | succ j =>
        have hr'' : tr[j]? = some r' := by simpa using hr'
        cases i with
        | zero =>
          simp at hr; subst hr
          have hj : j < rest.length := by rw [← h1]; exact (List.getElem?_eq_some_iff.1 hr'').1
          simpa using (h2 j _ r' (List.getElem?_eq_getElem hj) hr'').2.1
        | succ i => exact h3 i j r r' (by omega) (by simpa using hr) hr''
    · rw [List.length_cons, slAt_cons]; exact h4
    · rw [List.length_cons, obAt_cons]; simp only [hu]; exact h5
    · rcases h7 id hid with h | ⟨j, r, h8, h9⟩
      · exact .inl h
      · exact .inr ⟨j + 1, r, by simpa using h8, h9⟩
  | @step o rest σ M tr σ' M' ids g ups news hg hs hu0 _ ih =>
    obtain ⟨h1, h2, h3, h4, h5, h6, h7⟩ := ih
    rw [updL_length] at h6
    have hu : updF (getM M) ups M.length news = getM (updL M ups news) := (getM_updL M ups news hu0).symm
    refine ⟨by simp [h1], fun i o' r ho hr => ?_, fun i j r r' hij hr hr' => ?_, ?_, ?_, by omega, fun id hid => ?_⟩
    · cases i with
      | zero =>
        simp at ho hr; subst ho; subst hr
        rw [slAt_zero, obAt_zero]
        exact ⟨⟨rfl, .inr ⟨hg, hs⟩⟩, Nat.le_refl _, h6⟩
      | succ i =>
        obtain ⟨k1, k2, k3⟩ := h2 i o' r (by simpa using ho) (by simpa using hr)
        rw [slAt_cons, obAt_cons]
        simp only [hu]
        rw [updL_length] at k2
        exact ⟨k1, by omega, k3⟩
    · cases j with
      | zero => omega
      | succ j =>
        have hr'' : tr[j]? = some r' := by simpa using hr'
        cases i with
        | zero =>
          simp at hr; subst hr
          have hj : j < rest.length := by rw [← h1]; exact (List.getElem?_eq_some_iff.1 hr'').1
          have := (h2 j _ r' (List.getElem?_eq_getElem hj) hr'').2.1
          rw [updL_length] at this
          exact this
        | succ i => exact h3 i j r r' (by omega) (by simpa using hr) hr''
    · rw [List.length_cons, slAt_cons]; exact h4
    · rw [List.length_cons, obAt_cons]; simp only [hu]; exact h5
    · rcases h7 id hid with h | ⟨j, r, h8, h9⟩
      · rw [updL_length] at h
        by_cases h' : id < M.length
        · exact .inl h'
        · exact .inr ⟨0, _, List.getElem?_cons_zero, by show M.length ≤ id; omega, h⟩
      · exact .inr ⟨j + 1, r, by simpa using h8, h9⟩

end Go.Gh
