import Derived.Test.YtbkahcionjkgjaaMsgLaw0

namespace Go.Gh
open Go.Proofs
set_option linter.unusedVariables false
set_option linter.unusedSimpArgs false

/-! Layer 6, plain: what is packed is taken. -/
theorem rd_be {v : Int} {k : Nat} (l : List Int) (hv : 0 ≤ v ∧ v < 256 ^ k) (hk : k ≤ 8) : gt (be v k ++ l, 0) k = v ∧ nx (be v k ++ l, 0) k = (l, 0) := by
  have hl := be_len v k
  have e1 : tk (be v k ++ l) 0 k = be v k := by
    unfold tk; rw [if_pos ⟨rfl, by simp [hl]⟩, List.take_append_of_le_length (by omega), List.take_of_length_le (by omega)]
  have e2 : tkL (be v k ++ l) 0 k = l := by
    unfold tkL; rw [if_pos rfl, if_pos (by simp [hl]), List.drop_append_of_le_length (by omega), List.drop_of_length_le (by omega), List.nil_append]
  have e3 : tkE (be v k ++ l) 0 k = 0 := by unfold tkE; rw [if_pos rfl, if_pos (by simp [hl])]
  refine ⟨?_, ?_⟩
  · show getv (tk _ 0 k) = v
    rw [e1, getv_be hv.1 hk]
    have : (2 : Int) ^ (8 * k) = 256 ^ k := by rw [Int.pow_mul]; rfl
    rw [this]
    exact Int.emod_eq_of_lt hv.1 hv.2
  · show (tkL _ 0 k, tkE _ 0 k) = _
    rw [e2, e3]
theorem vit_succ' (s : List Int × Int) : ∀ n, vit s (n + 1) = vit (nx s 4) n
  | 0 => rfl
  | n + 1 => by rw [vit, vit_succ' s n]; rfl
theorem vls_succ' (s : List Int × Int) (n : Nat) : vls s (n + 1) = gt s 4 :: vls (nx s 4) n := by
  unfold vls
  rw [List.range_succ_eq_map, List.map_cons, List.map_map]
  congr 1
  apply List.map_congr_left
  intro i _
  show gt (vit s (i + 1)) 4 = gt (vit (nx s 4) i) 4
  rw [vit_succ']
theorem rd_vbs : ∀ (vs : List Int) (l : List Int), (∀ v, v ∈ vs → u32r v) → vls (vbs vs ++ l, 0) vs.length = vs ∧ vit (vbs vs ++ l, 0) vs.length = (l, 0)
  | [], l, _ => ⟨rfl, rfl⟩
  | v :: vs, l, h => by
    obtain ⟨a, b⟩ := rd_be (v := v) (k := 4) (vbs vs ++ l) (h v (List.mem_cons_self ..)) (by decide)
    obtain ⟨c, d⟩ := rd_vbs vs l fun x hx => h x (List.mem_cons_of_mem _ hx)
    rw [vbs, List.append_assoc, List.length_cons, vls_succ', vit_succ', a, b, c, d]
    exact ⟨rfl, rfl⟩
def noxR (r : RecV) : RecV := ⟨r.id, r.ver, r.vs, []⟩
theorem rd_rcb {r : RecV} (h : RcOk r) (l : List Int) : rrec r.vs.length (rcb r ++ l, 0) = noxR r ∧ rrecS r.vs.length (rcb r ++ l, 0) = (l, 0) := by
  have e : rcb r ++ l = be r.id 8 ++ (be r.ver 8 ++ (vbs r.vs ++ l)) := by unfold rcb; simp only [List.append_assoc]
  obtain ⟨a1, a2⟩ := rd_be (v := r.id) (k := 8) (be r.ver 8 ++ (vbs r.vs ++ l)) h.id (by decide)
  obtain ⟨b1, b2⟩ := rd_be (v := r.ver) (k := 8) (vbs r.vs ++ l) h.ver (by decide)
  obtain ⟨c1, c2⟩ := rd_vbs r.vs l h.vs
  unfold rrec rrecS noxR
  rw [e, a1, a2, b1, b2, c1, c2]
  exact ⟨rfl, rfl⟩
theorem rd_rcbs {n : Nat} : ∀ (rs : List RecV) (l : List Int), (∀ r, r ∈ rs → RcOk r ∧ r.vs.length = n) → rcr n rs.length (rcbs rs ++ l, 0) = (rs.map noxR, (l, 0))
  | [], l, _ => rfl
  | r :: rs, l, h => by
    obtain ⟨h1, h2⟩ := h r (List.mem_cons_self ..)
    obtain ⟨a, b⟩ := rd_rcb h1 (rcbs rs ++ l)
    rw [h2] at a b
    have ih := rd_rcbs rs l fun x hx => h x (List.mem_cons_of_mem _ hx)
    rw [rcbs, List.append_assoc, List.length_cons, rcr, if_pos rfl, a, b, ih, List.map_cons]
theorem rd_pkb {r : Int × Int × Int} (hk : 1 ≤ r.1 ∧ r.1 ≤ 3) (hr : rgok r) (hl : lohi r = true) (l : List Int) : bxV (pkb r ++ l, 0) = r ∧ bxN (pkb r ++ l, 0) = (l, 0) := by
  have hp := pkl_rng hr
  have k0 : 0 ≤ r.1 % 18446744073709551616 ∧ r.1 % 18446744073709551616 < 256 ^ 1 := by omega
  have e : pkb r ++ l = be (r.1 % 18446744073709551616) 1 ++ (be (pkl r) 4 ++ (be (pkh r) 4 ++ l)) := by unfold pkb; simp only [List.append_assoc]
  obtain ⟨a1, a2⟩ := rd_be (k := 1) (be (pkl r) 4 ++ (be (pkh r) 4 ++ l)) k0 (by decide)
  obtain ⟨b1, b2⟩ := rd_be (v := pkl r) (k := 4) (be (pkh r) 4 ++ l) hp.1 (by decide)
  obtain ⟨c1, c2⟩ := rd_be (v := pkh r) (k := 4) l hp.2 (by decide)
  unfold bxV bxN
  rw [e, a1, a2, b1, b2, c1, c2]
  refine ⟨?_, rfl⟩
  obtain ⟨x, y, z⟩ := r
  simp only at hk
  have h2 : x = 2 ∨ (y = 0 ∧ z = 0) := by simpa [lohi] using hl
  unfold pkl pkh
  simp only
  rw [show x % 18446744073709551616 = x by omega]
  rcases h2 with h2 | ⟨h2, h3⟩
  · rw [if_pos h2, if_pos h2]
  · rw [h2, h3, ite_self]
theorem rd_pkbs : ∀ (b : List (Int × Int × Int)) (l : List Int), (∀ r, r ∈ b → (1 ≤ r.1 ∧ r.1 ≤ 3) ∧ rgok r ∧ lohi r = true) → bxr b.length (pkbs b ++ l, 0) = (b, (l, 0))
  | [], l, _ => rfl
  | r :: b, l, h => by
    obtain ⟨h1, h2, h3⟩ := h r (List.mem_cons_self ..)
    obtain ⟨a, c⟩ := rd_pkb h1 h2 h3 (pkbs b ++ l)
    have ih := rd_pkbs b l fun x hx => h x (List.mem_cons_of_mem _ hx)
    rw [pkbs, List.append_assoc, List.length_cons, bxr, if_pos rfl, a, c, ih]
/-- The same, in memory of its own. -/
def nox (m : MsgV) : MsgV := ⟨m.kind, m.hub, m.point, m.client, m.op, m.target, m.hops, m.owner, m.turn, m.ev, noxR m.er, m.gone, m.sf, m.st, m.box, [], m.recs.map noxR, []⟩
theorem nox_recok (n : Int) (r : RecV) : recok n (noxR r) = recok n r := rfl
theorem nox_right (n : Int) (m : MsgV) : rightM n (nox m) = rightM n m := by
  have h1 : (m.recs.map noxR).all (recok n) = m.recs.all (recok n) := by rw [List.all_map]; rfl
  have h2 : recB n (nox m) = recB n m := by unfold recB nox; simp only [h1, List.length_map]
  have h3 : askB n (nox m) = askB n m := by unfold askB; rw [h2]; rfl
  unfold rightM
  rw [h3]; rfl
theorem nox_rcbs : ∀ l : List RecV, rcbs (l.map noxR) = rcbs l
  | [] => rfl
  | r :: l => by rw [List.map_cons, rcbs, rcbs, nox_rcbs l]; rfl
theorem nox_mbs (m : MsgV) : mbs (nox m) = mbs m := by
  have h : tlb (nox m) = tlb m := by
    unfold tlb nox
    simp only [nox_rcbs, List.length_map]
  unfold mbs
  rw [h]; rfl
theorem nox_ok {m : MsgV} (h : MsgOk m) : MsgOk (nox m) where
  point := h.point
  target := h.target
  owner := h.owner
  ev := h.ev
  er := ⟨h.er.id, h.er.ver, h.er.vs, h.er.len⟩
  sf := h.sf
  st := h.st
  box := h.box
  bl := h.bl
  recs := fun r hr => by
    obtain ⟨x, hx, rfl⟩ := List.mem_map.1 hr
    exact ⟨(h.recs x hx).id, (h.recs x hx).ver, (h.recs x hx).vs, (h.recs x hx).len⟩
  rl := by show (m.recs.map noxR).length ≤ _; rw [List.length_map]; exact h.rl
end Go.Gh

