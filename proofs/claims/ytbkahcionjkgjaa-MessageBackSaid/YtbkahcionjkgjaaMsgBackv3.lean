import Derived.Test.YtbkahcionjkgjaaMsgBackv2

namespace Go.Gh
open Go.Proofs
set_option linter.unusedVariables false
set_option linter.unusedSimpArgs false

/-! Layer 6, plain: a beginning is too short. -/
/-- What is read of a beginning. -/
def Pre (t : List Int) (s' s : List Int × Int) : Prop := s'.2 = 3 ∨ (s'.2 = 0 ∧ s.2 = 0 ∧ s.1 = s'.1 ++ t)
theorem Pre.nx {t : List Int} {s' s : List Int × Int} (h : Pre t s' s) (k : Nat) : Pre t (nx s' k) (nx s k) ∧ ((nx s' k).2 ≠ 3 → gt s' k = gt s k ∧ s'.2 = 0) := by
  rcases h with h | ⟨h1, h2, h3⟩
  · have e : Gh.nx s' k = s' := nx_err (by omega) k
    rw [e]
    exact ⟨.inl h, fun hh => absurd h hh⟩
  · obtain ⟨l', e'⟩ := s'
    obtain ⟨l, e⟩ := s
    simp only at h1 h2 h3
    subst h1; subst h2; subst h3
    by_cases c : k ≤ l'.length
    · have c2 : k ≤ (l' ++ t).length := by simp; omega
      have e1 : Gh.nx (l', 0) k = (l'.drop k, 0) := by show (tkL _ _ _, tkE _ _ _) = _; unfold tkL tkE; rw [if_pos rfl, if_pos c, if_pos rfl, if_pos c]
      have e2 : Gh.nx (l' ++ t, 0) k = ((l' ++ t).drop k, 0) := by show (tkL _ _ _, tkE _ _ _) = _; unfold tkL tkE; rw [if_pos rfl, if_pos c2, if_pos rfl, if_pos c2]
      refine ⟨.inr ?_, fun _ => ⟨?_, rfl⟩⟩
      · rw [e1, e2]; exact ⟨rfl, rfl, List.drop_append_of_le_length c⟩
      · show getv (tk _ _ _) = getv (tk _ _ _)
        unfold tk
        rw [if_pos ⟨rfl, c⟩, if_pos ⟨rfl, c2⟩, List.take_append_of_le_length c]
    · have e1 : (Gh.nx (l', 0) k).2 = 3 := by show tkE l' 0 k = 3; unfold tkE; rw [if_pos rfl, if_neg c]
      exact ⟨.inl e1, fun hh => absurd e1 hh⟩
theorem Pre.vit {t : List Int} {s' s : List Int × Int} (h : Pre t s' s) : ∀ n, Pre t (vit s' n) (vit s n)
  | 0 => h
  | n + 1 => (Pre.nx (Pre.vit h n) 4).1
theorem Pre.rrecS {t : List Int} {s' s : List Int × Int} (h : Pre t s' s) (n : Nat) : Pre t (rrecS n s') (rrecS n s) := Pre.vit ((h.nx 8).1.nx 8).1 n
theorem Pre.eS {t : List Int} {s' s : List Int × Int} (h : Pre t s' s) (b : Bool) : Pre t (eS b s') (eS b s) := by
  unfold Gh.eS; cases b
  · exact h
  · exact ((h.nx 4).1.nx 4).1
theorem Pre.bxr {t : List Int} : ∀ (k : Nat) {s' s : List Int × Int}, Pre t s' s → (bxr k s).2.2 = 0 → Pre t (bxr k s').2 (bxr k s).2
  | 0, s', s, h, _ => h
  | k + 1, s', s, h, h0 => by
    rcases h with h | ⟨h1, h2, h3⟩
    · rw [bxr_err' (by omega)]; exact .inl h
    · have hp : Pre t (bxN s') (bxN s) := (((Pre.nx (.inr ⟨h1, h2, h3⟩) 1).1.nx 4).1.nx 4).1
      have e1 : Gh.bxr (k + 1) s = (bxV s :: (Gh.bxr k (bxN s)).1, (Gh.bxr k (bxN s)).2) := by rw [Gh.bxr, if_pos h2]
      have e2 : Gh.bxr (k + 1) s' = (bxV s' :: (Gh.bxr k (bxN s')).1, (Gh.bxr k (bxN s')).2) := by rw [Gh.bxr, if_pos h1]
      rw [e1] at h0 ⊢
      rw [e2]
      exact Pre.bxr k hp h0
where
  bxr_err' {s : List Int × Int} (h : s.2 ≠ 0) {k : Nat} : Gh.bxr (k + 1) s = ([], s) := by rw [Gh.bxr, if_neg h]
theorem Pre.rcr {t : List Int} (n : Nat) : ∀ (k : Nat) {s' s : List Int × Int}, Pre t s' s → (rcr n k s).2.2 = 0 → Pre t (rcr n k s').2 (rcr n k s).2
  | 0, s', s, h, _ => h
  | k + 1, s', s, h, h0 => by
    rcases h with h | ⟨h1, h2, h3⟩
    · have : Gh.rcr n (k + 1) s' = ([], s') := by rw [Gh.rcr, if_neg (by omega)]
      rw [this]; exact .inl h
    · have hp := Pre.rrecS (.inr ⟨h1, h2, h3⟩ : Pre t s' s) n
      have e1 : Gh.rcr n (k + 1) s = (rrec n s :: (Gh.rcr n k (Gh.rrecS n s)).1, (Gh.rcr n k (Gh.rrecS n s)).2) := by rw [Gh.rcr, if_pos h2]
      have e2 : Gh.rcr n (k + 1) s' = (rrec n s' :: (Gh.rcr n k (Gh.rrecS n s')).1, (Gh.rcr n k (Gh.rrecS n s')).2) := by rw [Gh.rcr, if_pos h1]
      rw [e1] at h0 ⊢
      rw [e2]
      exact Pre.rcr n k hp h0
theorem err3 {k h p c o n : Int} {s : List Int × Int} (hs : s.2 = 3) : (rdk n k h p c o s).2.2 = 3 := by
  have h0 : s.2 ≠ 0 := by omega
  have n0 : ∀ k, nx s k = s := fun k => nx_err h0 k
  have v0 : ∀ n, vit s n = s := fun n => by
    induction n with
    | zero => rfl
    | succ n ih => rw [Gh.vit, ih, n0]
  have r0 : ∀ n, rrecS n s = s := fun n => by unfold rrecS; rw [n0, n0, v0]
  have b0 : ∀ k, (bxr k s).2 = s := fun k => by
    cases k with
    | zero => rfl
    | succ k => rw [bxr, if_neg h0]
  have c0 : ∀ n k, (rcr n k s).2 = s := fun n k => by
    cases k with
    | zero => rfl
    | succ k => rw [rcr, if_neg h0]
  unfold rdk
  split
  · show (if hopk k then nx (rdAS n k s) 1 else rdAS n k s).2 = 3
    have : rdAS n k s = s := by unfold rdAS eS; rw [n0, r0]; split; rw [n0, n0]; rfl
    rw [this]; split
    · rw [n0, hs]
    · exact hs
  · split
    · have e : rdQS s = s := by unfold rdQS; rw [n0, n0, n0]
      show (bxr _ (nx (rdQS s) 1)).2.2 = 3
      rw [e, n0, b0, hs]
    · split
      · have e : rdWS s = s := by unfold rdWS; rw [n0, n0]
        show (rcr _ _ (nx (rdWS s) 2)).2.2 = 3
        rw [e, n0, c0, hs]
      · exact hs
theorem pre_rdk {t : List Int} {n k h p c o : Int} {s' s : List Int × Int} (hp : Pre t s' s) (h0 : (rdk n k h p c o s).2.2 = 0) : Pre t (rdk n k h p c o s').2 (rdk n k h p c o s).2 := by
  unfold rdk at h0 ⊢
  split
  · rename_i c4
    have : Pre t (rdAS n k s') (rdAS n k s) := (Pre.rrecS (hp.nx 1).1 n.toNat).eS (betk k)
    show Pre t (if hopk k then nx (rdAS n k s') 1 else rdAS n k s') (if hopk k then nx (rdAS n k s) 1 else rdAS n k s)
    split
    · exact (this.nx 1).1
    · exact this
  · rename_i c4
    rw [if_neg c4] at h0
    split
    · rename_i c5
      rw [if_pos c5] at h0
      have hq : Pre t (rdQS s') (rdQS s) := (((hp.nx 1).1.nx 4).1.nx 4).1
      have hv := hq.nx 1
      show Pre t (bxr (gt (rdQS s') 1).toNat (nx (rdQS s') 1)).2 (bxr (gt (rdQS s) 1).toNat (nx (rdQS s) 1)).2
      by_cases c : (nx (rdQS s') 1).2 = 3
      · left
        have : ∀ k, (bxr k (nx (rdQS s') 1)).2 = nx (rdQS s') 1 := fun k => by
          cases k with
          | zero => rfl
          | succ k => rw [bxr, if_neg (by omega)]
        rw [this]; exact c
      · rw [(hv.2 c).1]
        exact Pre.bxr _ hv.1 h0
    · rename_i c5
      rw [if_neg c5] at h0
      split
      · rename_i c6
        rw [if_pos c6] at h0
        have hq : Pre t (rdWS s') (rdWS s) := ((hp.nx 4).1.nx 4).1
        have hv := hq.nx 2
        show Pre t (rcr n.toNat (gt (rdWS s') 2).toNat (nx (rdWS s') 2)).2 (rcr n.toNat (gt (rdWS s) 2).toNat (nx (rdWS s) 2)).2
        by_cases c : (nx (rdWS s') 2).2 = 3
        · left
          have : ∀ k, (rcr n.toNat k (nx (rdWS s') 2)).2 = nx (rdWS s') 2 := fun k => by
            cases k with
            | zero => rfl
            | succ k => rw [rcr, if_neg (by omega)]
          rw [this]; exact c
        · rw [(hv.2 c).1]
          exact Pre.rcr _ _ hv.1 h0
      · exact hp
theorem pre_rdm {t : List Int} {n : Int} {s' s : List Int × Int} (hp : Pre t s' s) (h0 : (rdm n s).2.2 = 0) : (rdm n s').2.2 = 3 ∨ Pre t (rdm n s').2 (rdm n s).2 := by
  have p1 := hp.nx 1
  have p2 := p1.1.nx 1
  have p3 := p2.1.nx 1
  have p4 := p3.1.nx 2
  have p5 := p4.1.nx 4
  by_cases c5 : (hS s').2 = 3
  · left; exact err3 c5
  · right
    have d5 := p5.2 c5
    have d4 := p4.2 (by rw [d5.2]; decide)
    have d3 := p3.2 (by rw [d4.2]; decide)
    have d2 := p2.2 (by rw [d3.2]; decide)
    have d1 := p1.2 (by rw [d2.2]; decide)
    have eK : hK s' = hK s := d1.1
    have eH : hH s' = hH s := d2.1
    have eC : hC s' = hC s := d3.1
    have eO : hO s' = hO s := d4.1
    have eP : hP s' = hP s := d5.1
    unfold rdm at h0 ⊢
    rw [eK, eH, eC, eO, eP]
    exact pre_rdk p5.1 h0
theorem take_cut {n : Int} {m : MsgV} (ok : MsgOk m) (hr : rightM n m = true) {j : Nat} (hj : j < (mbs m).length) : takeM n ((mbs m).take j) = (msgz, 3) := by
  have F := rtF hr
  have h := rd_mbs ok hr []
  rw [List.append_nil] at h
  have hp : Pre ((mbs m).drop j) ((mbs m).take j, 0) (mbs m, 0) := .inr ⟨rfl, rfl, (List.take_append_drop j (mbs m)).symm⟩
  have := pre_rdm (n := n) hp (by rw [h])
  have e3 : (rdm n ((mbs m).take j, 0)).2.2 = 3 := by
    rcases this with e | e
    · exact e
    · rw [h] at e
      rcases e with e | ⟨_, _, e⟩
      · exact e
      · have := congrArg List.length e
        simp at this
        omega
  rw [take_yes (by simp [wth]; exact ⟨F.n0, F.n1⟩)]
  unfold endM
  rw [e3]; rfl
theorem rdm_ok {n : Int} (h0 : 1 ≤ n) (h1 : n ≤ 8) {b : List Int} (hb : byt b) : MsgOk (rdm n (b, 0)).1 := by
  have a0 : sok (b, (0 : Int)) := ⟨hb, .inl rfl⟩
  have a1 := a0.nx 1
  have a2 := a1.nx 1
  have a3 := a2.nx 1
  have a4 := a3.nx 2
  have a5 := a4.nx 4
  have rP : u32r (hP (b, 0)) := gt4 a4
  unfold rdm rdk
  split
  · exact rdA_ok a5 rP h1
  · split
    · exact rdQ_ok a5 rP
    · split
      · exact rdW_ok a5 rP h1
      · exact rdZ_ok rP
theorem msgz_ok : MsgOk msgz := ⟨u0, u0, u0, u0, rec0_ok, u0, u0, fun r hr => by simp [msgz] at hr, by simp [msgz], fun r hr => by simp [msgz] at hr, by simp [msgz]⟩
theorem takeM_ok (n : Int) {b : List Int} (hb : byt b) : MsgOk (takeM n b).1 := by
  unfold takeM
  split
  · rename_i h
    have hn := wth_t h
    unfold endM
    split
    · exact msgz_ok
    · split
      · exact rdm_ok hn.1 hn.2 hb
      · exact msgz_ok
  · exact msgz_ok
/-- What is taken is what is packed. -/
theorem takeM_is {n : Int} {b : List Int} (h : (takeM n b).2 = 0) : rightM n (takeM n b).1 = true ∧ mbs (takeM n b).1 = b := by
  unfold takeM at h ⊢
  split at h
  · rename_i h8
    rw [if_pos h8]
    unfold endM at h ⊢
    split at h
    · rename_i he
      have : (rdm n (b, 0)).2.2 = 0 := h
      rw [this] at he; simp at he
    · rename_i he
      rw [if_neg he]
      split at h
      · rename_i hc
        rw [if_pos hc]
        simp only [Bool.and_eq_true, decide_eq_true_eq] at hc
        exact hc
      · cases h
  · cases h
end Go.Gh

