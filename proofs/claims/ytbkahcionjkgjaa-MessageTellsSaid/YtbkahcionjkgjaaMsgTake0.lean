import Derived.Test.YtbkahcionjkgjaaMsgRead

namespace Go.Gh
open Go.Proofs
set_option linter.unusedVariables false
set_option linter.unusedSimpArgs false

/-! Layer 6, plain: the message that bytes are. -/
def rcr (n : Nat) : Nat → List Int × Int → List RecV × (List Int × Int)
  | 0, s => ([], s)
  | k + 1, s => if s.2 = 0 then (rrec n s :: (rcr n k (rrecS n s)).1, (rcr n k (rrecS n s)).2) else ([], s)
theorem rcr_ok (n : Nat) : ∀ (k : Nat) {s : List Int × Int}, sok s → sok (rcr n k s).2
  | 0, s, h => h
  | k + 1, s, h => by
    rw [rcr]; split
    · exact rcr_ok n k (rrecS_ok h n)
    · exact h
theorem rcr_len (n : Nat) : ∀ (k : Nat) (s : List Int × Int), (rcr n k s).1.length ≤ k
  | 0, s => Nat.le_refl _
  | k + 1, s => by
    rw [rcr]; split
    · have := rcr_len n k (rrecS n s); simp only [List.length_cons]; omega
    · simp
theorem rrec_ok {s : List Int × Int} (h : sok s) {n : Nat} (hn : n ≤ 8) : RcOk (rrec n s) where
  id := gt8 h
  ver := gt8 (h.nx 8)
  vs := fun v hv => by
    obtain ⟨i, _, rfl⟩ := List.mem_map.1 hv
    exact gt4 (vit_ok ((h.nx 8).nx 8) i)
  len := by show (vls _ n).length ≤ _; rw [vls_len]; omega
theorem rcr_recs {n : Nat} (hn : n ≤ 8) : ∀ (k : Nat) {s : List Int × Int}, sok s → ∀ r, r ∈ (rcr n k s).1 → RcOk r
  | 0, s, _, r, hr => by simp [rcr] at hr
  | k + 1, s, h, r, hr => by
    rw [rcr] at hr
    split at hr
    · rcases List.mem_cons.1 hr with e | e
      · rw [e]; exact rrec_ok h hn
      · exact rcr_recs hn k (rrecS_ok h n) r e
    · simp at hr
theorem bxr_rng : ∀ (k : Nat) {s : List Int × Int}, sok s → ∀ r, r ∈ (bxr k s).1 → rgok r
  | 0, s, _, r, hr => by simp [bxr] at hr
  | k + 1, s, h, r, hr => by
    rw [bxr] at hr
    split at hr
    · rcases List.mem_cons.1 hr with e | e
      · rw [e]; exact ⟨gt4 (h.nx 1), gt4 ((h.nx 1).nx 4)⟩
      · exact bxr_rng k (((h.nx 1).nx 4).nx 4) r e
    · simp at hr
def rec0 : RecV := ⟨0, 0, [], []⟩
def msgz : MsgV := ⟨0, 0, 0, 0, 0, 0, 0, 0, 0, 0, rec0, false, 0, 0, [], [], [], []⟩
/-- The kinds that have an entry. -/
def rdAS (n k : Int) (t : List Int × Int) : List Int × Int := eS (betk k) (rrecS n.toNat (nx t 1))
def rdA (n k h p c o : Int) (t : List Int × Int) : MsgV × (List Int × Int) :=
  (⟨k, h, p, c, o, eVal n h (rrec n.toNat (nx t 1)), if hopk k then gt (rdAS n k t) 1 else 0, eO (betk k) (rrecS n.toNat (nx t 1)), eT (betk k) (rrecS n.toNat (nx t 1)), eVal n h (rrec n.toNat (nx t 1)), rrec n.toNat (nx t 1), gt t 1 == 1, 0, 0, [], [], [], []⟩,
    if hopk k then nx (rdAS n k t) 1 else rdAS n k t)
def rdQS (t : List Int × Int) : List Int × Int := nx (nx (nx t 1) 4) 4
def rdQ (k h p c o : Int) (t : List Int × Int) : MsgV × (List Int × Int) :=
  (⟨k, h, p, c, o, 0, gt t 1, 0, 0, 0, rec0, false, gt (nx t 1) 4, gt (nx (nx t 1) 4) 4, (bxr (gt (rdQS t) 1).toNat (nx (rdQS t) 1)).1, [], [], []⟩, (bxr (gt (rdQS t) 1).toNat (nx (rdQS t) 1)).2)
def rdWS (t : List Int × Int) : List Int × Int := nx (nx t 4) 4
def rdW (n k h p c o : Int) (t : List Int × Int) : MsgV × (List Int × Int) :=
  (⟨k, h, p, c, o, 0, 0, 0, 0, 0, rec0, false, gt t 4, gt (nx t 4) 4, [], [], (rcr n.toNat (gt (rdWS t) 2).toNat (nx (rdWS t) 2)).1, []⟩, (rcr n.toNat (gt (rdWS t) 2).toNat (nx (rdWS t) 2)).2)
def rdZ (k h p c o : Int) (t : List Int × Int) : MsgV × (List Int × Int) := (⟨k, h, p, c, o, 0, 0, 0, 0, 0, rec0, false, 0, 0, [], [], [], []⟩, t)
def hK (s : List Int × Int) : Int := gt s 1
def hH (s : List Int × Int) : Int := gt (nx s 1) 1
def hC (s : List Int × Int) : Int := gt (nx (nx s 1) 1) 1
def hO (s : List Int × Int) : Int := gt (nx (nx (nx s 1) 1) 1) 2
def hP (s : List Int × Int) : Int := gt (nx (nx (nx (nx s 1) 1) 1) 2) 4
def hS (s : List Int × Int) : List Int × Int := nx (nx (nx (nx (nx s 1) 1) 1) 2) 4
def rdk (n k h p c o : Int) (t : List Int × Int) : MsgV × (List Int × Int) := if wth k 1 4 then rdA n k h p c o t else if k == 5 then rdQ k h p c o t else if k == 6 then rdW n k h p c o t else rdZ k h p c o t
def rdm (n : Int) (s : List Int × Int) : MsgV × (List Int × Int) := rdk n (hK s) (hH s) (hP s) (hC s) (hO s) (hS s)
def endM (n : Int) (b : List Int) (q : MsgV) (e : Int) : MsgV × Int := if e != 0 then (msgz, e) else if rightM n q && decide (mbs q = b) then (q, 0) else (msgz, 4)
def takeM (n : Int) (b : List Int) : MsgV × Int := if wth n 1 8 then endM n b (rdm n (b, 0)).1 (rdm n (b, 0)).2.2 else (msgz, 1)
theorem eVal_rng {n h : Int} {r : RecV} (hr : RcOk r) : u32r (eVal n h r) := by
  unfold eVal; split
  · rw [List.getD_eq_getElem?_getD]
    cases e : r.vs[h.toNat]? with
    | none => simp [u32r]
    | some v => simpa using hr.vs v (List.mem_of_getElem? e)
  · simp [u32r]
theorem rec0_ok : RcOk rec0 := ⟨by simp [rec0, u64r], by simp [rec0, u64r], fun v hv => by simp [rec0] at hv, by simp [rec0]⟩
theorem u0 : u32r 0 := by simp [u32r]
theorem eO_rng {s : List Int × Int} (h : sok s) (b : Bool) : u32r (eO b s) := by unfold eO; split; exact gt4 h; exact u0
theorem rdA_ok {n k h p c o : Int} {t : List Int × Int} (ht : sok t) (hp : u32r p) (hn : n ≤ 8) : MsgOk (rdA n k h p c o t).1 := by
  have h1 := ht.nx 1
  have hr := rrec_ok (n := n.toNat) h1 (by omega)
  have hS := rrecS_ok h1 n.toNat
  exact ⟨hp, eVal_rng hr, eO_rng hS _, eVal_rng hr, hr, u0, u0, fun r hr => by simp [rdA] at hr, by simp [rdA], fun r hr => by simp [rdA] at hr, by simp [rdA]⟩
theorem rdQ_ok {k h p c o : Int} {t : List Int × Int} (ht : sok t) (hp : u32r p) : MsgOk (rdQ k h p c o t).1 := by
  have h1 := ht.nx 1
  have h2 := h1.nx 4
  have h3 := h2.nx 4
  refine ⟨hp, u0, u0, u0, rec0_ok, gt4 h1, gt4 h2, bxr_rng _ (h3.nx 1), ?_, fun r hr => by simp [rdQ] at hr, by simp [rdQ]⟩
  have := bxr_len (gt (rdQS t) 1).toNat (nx (rdQS t) 1)
  have := gt1 h3
  show (bxr _ _).1.length ≤ _
  unfold rdQS at *
  omega
theorem rdW_ok {n k h p c o : Int} {t : List Int × Int} (ht : sok t) (hp : u32r p) (hn : n ≤ 8) : MsgOk (rdW n k h p c o t).1 := by
  have h1 := ht.nx 4
  have h2 := h1.nx 4
  refine ⟨hp, u0, u0, u0, rec0_ok, gt4 ht, gt4 h1, fun r hr => by simp [rdW] at hr, by simp [rdW], rcr_recs (by omega) _ (h2.nx 2), ?_⟩
  have := rcr_len n.toNat (gt (rdWS t) 2).toNat (nx (rdWS t) 2)
  have := gt2 h2
  show (rcr _ _ _).1.length ≤ _
  unfold rdWS at *
  omega
theorem rdZ_ok {k h p c o : Int} {t : List Int × Int} (hp : u32r p) : MsgOk (rdZ k h p c o t).1 :=
  ⟨hp, u0, u0, u0, rec0_ok, u0, u0, fun r hr => by simp [rdZ] at hr, by simp [rdZ], fun r hr => by simp [rdZ] at hr, by simp [rdZ]⟩
theorem mbs_byt (m : MsgV) : byt (mbs m) := by
  have b0 : byt [] := fun c h => by simp at h
  unfold mbs
  refine byt_app ?_ (byt_app ?_ (byt_app ?_ ?_))
  · exact byt_app (be_byt _ _) (byt_app (be_byt _ _) (byt_app (be_byt _ _) (byt_app (be_byt _ _) (be_byt _ _))))
  · split
    · refine byt_app (be_byt _ _) (byt_app (rcb_byt _) ?_)
      split
      · exact byt_app (be_byt _ _) (be_byt _ _)
      · exact b0
    · exact b0
  · split
    · exact be_byt _ _
    · exact b0
  · unfold tlb
    split
    · exact byt_app (be_byt _ _) (byt_app (be_byt _ _) (pack_byt _))
    · split
      · exact byt_app (be_byt _ _) (byt_app (be_byt _ _) (byt_app (be_byt _ _) (rcbs_byt _)))
      · exact b0
end Go.Gh

