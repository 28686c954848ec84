import Derived.Test.YtbkahcionjkgjaaMsgBackv

namespace Go.Gh
open Go.Proofs
set_option linter.unusedVariables false
set_option linter.unusedSimpArgs false

/-! Layer 6, plain: a message, packed and taken. -/
theorem rtF_box {n : Int} {m : MsgV} (ok : MsgOk m) (F : RtF n m) (h5 : (m.kind == 5) = true) : (m.box.length : Int) = n ∧ ∀ r, r ∈ m.box → (1 ≤ r.1 ∧ r.1 ≤ 3) ∧ rgok r ∧ lohi r = true := by
  have := F.ask
  simp only [askB, boxB, h5, if_true, Bool.and_eq_true, rightv, decide_eq_true_eq, beq_iff_eq, List.all_eq_true, Bool.not_eq_true', List.any_eq_false] at this
  obtain ⟨_, ⟨⟨_, hb⟩, hk⟩, hl, _⟩ := this
  refine ⟨hb, fun r hr => ⟨?_, ok.box r hr, hl r hr⟩⟩
  have := hk r hr
  simpa [kindv] using this
theorem rtF_none {n : Int} {m : MsgV} (F : RtF n m) : ((m.kind == 5) = false → m.box = []) ∧ ((m.kind == 6) = false → m.recs = []) ∧ ((m.kind == 5) = false → (m.kind == 6) = false → m.sf = 0 ∧ m.st = 0) := by
  have := F.ask
  simp only [askB, Bool.and_eq_true] at this
  obtain ⟨h1, h2, _, h4⟩ := this
  refine ⟨fun e => ?_, fun e => ?_, fun e1 e2 => ?_⟩
  · simp only [boxB, e, Bool.false_eq_true, if_false] at h2
    have : (m.box.length : Int) = 0 := by simpa using h2
    exact List.length_eq_zero_iff.1 (by omega)
  · simp only [recB, e, Bool.false_eq_true, if_false] at h4
    have : (m.recs.length : Int) = 0 := by simpa using h4
    exact List.length_eq_zero_iff.1 (by omega)
  · simpa [spnB, e1, e2] using h1
theorem rtF_num {n : Int} {m : MsgV} (F : RtF n m) : (hopk m.kind = false → m.hops = 0) ∧ (betk m.kind = false → m.owner = 0 ∧ m.turn = 0) ∧ ((m.kind == 4) = true ∨ (m.kind == 6) = true → m.point = 0) := by
  have := F.num
  simp only [numB, Bool.and_eq_true] at this
  obtain ⟨h1, h2, _, h4⟩ := this
  refine ⟨fun e => by simpa [e] using h1, fun e => by simpa [e] using h2, fun e => ?_⟩
  rcases e with e | e <;> simpa [e] using h4
theorem rtF_ent {n : Int} {m : MsgV} (F : RtF n m) : (wth m.kind 1 4 = true → (m.er.vs.length : Int) = n ∧ m.ev = m.er.vs.getD m.hub.toNat 0 ∧ m.target = m.ev) ∧ (wth m.kind 1 4 = false → m.ev = 0 ∧ m.er.id = 0 ∧ m.er.ver = 0 ∧ m.er.vs = [] ∧ m.gone = false ∧ m.target = 0) := by
  have := F.held
  refine ⟨fun e => ?_, fun e => ?_⟩
  · simp only [heldB, e, if_true, Bool.and_eq_true, beq_iff_eq] at this
    exact ⟨recok_len this.1, this.2.1.symm, this.2.2⟩
  · simp only [heldB, e, Bool.false_eq_true, if_false, nonv, Bool.and_eq_true, beq_iff_eq, Bool.not_eq_true'] at this
    obtain ⟨⟨h1, h2, h3, h4, h5⟩, h6⟩ := this
    exact ⟨h1, h2, h3, List.length_eq_zero_iff.1 (by omega), h5, h6⟩
theorem rd_hdb {n : Int} {m : MsgV} (ok : MsgOk m) (F : RtF n m) (l : List Int) : hK (hdb m ++ l, 0) = m.kind ∧ hH (hdb m ++ l, 0) = m.hub ∧ hC (hdb m ++ l, 0) = m.client ∧ hO (hdb m ++ l, 0) = m.op ∧ hP (hdb m ++ l, 0) = m.point ∧ hS (hdb m ++ l, 0) = (l, 0) := by
  have f1 := F.k0; have f2 := F.k1; have f3 := F.h0; have f4 := F.h1; have f5 := F.n1; have f6 := F.c0; have f7 := F.c1; have f8 := F.o0; have f9 := F.o1
  have e : hdb m ++ l = be m.kind 1 ++ (be m.hub 1 ++ (be m.client 1 ++ (be m.op 2 ++ (be m.point 4 ++ l)))) := by unfold hdb; simp only [List.append_assoc]
  obtain ⟨a1, a2⟩ := rd_be (v := m.kind) (k := 1) (be m.hub 1 ++ (be m.client 1 ++ (be m.op 2 ++ (be m.point 4 ++ l)))) ⟨by omega, by omega⟩ (by decide)
  obtain ⟨b1, b2⟩ := rd_be (v := m.hub) (k := 1) (be m.client 1 ++ (be m.op 2 ++ (be m.point 4 ++ l))) ⟨by omega, by omega⟩ (by decide)
  obtain ⟨c1, c2⟩ := rd_be (v := m.client) (k := 1) (be m.op 2 ++ (be m.point 4 ++ l)) ⟨by omega, by omega⟩ (by decide)
  obtain ⟨d1, d2⟩ := rd_be (v := m.op) (k := 2) (be m.point 4 ++ l) ⟨by omega, by omega⟩ (by decide)
  obtain ⟨e1, e2⟩ := rd_be (v := m.point) (k := 4) l ok.point (by decide)
  unfold hK hH hC hO hP hS
  rw [e, a1, a2, b1, b2, c1, c2, d1, d2, e1, e2]
  exact ⟨rfl, rfl, rfl, rfl, rfl, rfl⟩
theorem goneN_be (b : Bool) : 0 ≤ goneN b ∧ goneN b < 256 ^ 1 := by cases b <;> decide
theorem goneN_eq (b : Bool) : (goneN b == 1) = b := by cases b <;> rfl
/-- What is packed, and more behind it, is read as it was. -/
theorem rd_mbs {n : Int} {m : MsgV} (ok : MsgOk m) (hr : rightM n m = true) (t : List Int) : rdm n (mbs m ++ t, 0) = (nox m, (t, 0)) := by
  have F := rtF hr
  have n0 := F.n0; have n1 := F.n1
  have hn : ((n.toNat : Nat) : Int) = n := by omega
  obtain ⟨N1, N2, N3⟩ := rtF_none F
  obtain ⟨M1, M2, M3⟩ := rtF_num F
  obtain ⟨E1, E2⟩ := rtF_ent F
  have e0 : mbs m ++ t = hdb m ++ ((if wth m.kind 1 4 then entb m else []) ++ ((if hopk m.kind then be m.hops 1 else []) ++ (tlb m ++ t))) := by unfold mbs; simp only [List.append_assoc]
  rw [e0]
  obtain ⟨h1, h2, h3, h4, h5, h6⟩ := rd_hdb ok F ((if wth m.kind 1 4 then entb m else []) ++ ((if hopk m.kind then be m.hops 1 else []) ++ (tlb m ++ t)))
  unfold rdm
  rw [h1, h2, h3, h4, h5, h6]
  have hops : 0 ≤ m.hops ∧ m.hops < 256 ^ 1 := ⟨F.p0, by have := F.p1; omega⟩
  cases c4 : wth m.kind 1 4
  · obtain ⟨q1, q2, q3, q4, q5, q6⟩ := E2 c4
    have her : noxR m.er = rec0 := by unfold noxR rec0; rw [q2, q3, q4]
    cases c5 : (m.kind == 5)
    · cases c6 : (m.kind == 6)
      · exfalso
        have h5' : m.kind ≠ 5 := by simpa using c5
        have h6' : m.kind ≠ 6 := by simpa using c6
        have := wth_f c4
        have := F.k0; have := F.k1
        omega
      · have k6 : m.kind = 6 := by simpa using c6
        have ch : hopk m.kind = false := by rw [k6]; rfl
        have cb : betk m.kind = false := by rw [k6]; rfl
        obtain ⟨o1, o2⟩ := M2 cb
        have hp := M1 ch
        have hb := N1 c5
        have et : tlb m ++ t = be m.sf 4 ++ (be m.st 4 ++ (be m.recs.length 2 ++ (rcbs m.recs ++ t))) := by unfold tlb; rw [c5, c6]; simp only [Bool.false_eq_true, if_false, if_true, List.append_assoc]
        have rl := F.recs.1
        obtain ⟨a1, a2⟩ := rd_be (v := m.sf) (k := 4) (be m.st 4 ++ (be m.recs.length 2 ++ (rcbs m.recs ++ t))) ok.sf (by decide)
        obtain ⟨b1, b2⟩ := rd_be (v := m.st) (k := 4) (be m.recs.length 2 ++ (rcbs m.recs ++ t)) ok.st (by decide)
        obtain ⟨d1, d2⟩ := rd_be (v := (m.recs.length : Int)) (k := 2) (rcbs m.recs ++ t) ⟨by omega, by omega⟩ (by decide)
        have e1 := rd_rcbs (n := n.toNat) m.recs t fun r hr => ⟨ok.recs r hr, F.rlen r hr⟩
        simp only [rdk, c4, c5, c6, ch, Bool.false_eq_true, if_false, if_true, List.nil_append, rdW, rdWS, et, a1, a2, b1, b2, d1, d2, Int.toNat_natCast, e1]
        unfold nox
        rw [her, q1, q5, q6, o1, o2, hp, hb]
    · have k5 : m.kind = 5 := by simpa using c5
      have ch : hopk m.kind = true := by rw [k5]; rfl
      have cb : betk m.kind = false := by rw [k5]; rfl
      have c6 : (m.kind == 6) = false := by rw [k5]; rfl
      obtain ⟨o1, o2⟩ := M2 cb
      have hrc := N2 c6
      obtain ⟨bl, bk⟩ := rtF_box ok F c5
      have et : tlb m ++ t = be m.sf 4 ++ (be m.st 4 ++ (be m.box.length 1 ++ (pkbs m.box ++ t))) := by unfold tlb pack; rw [c5]; simp only [if_true, List.append_assoc]
      obtain ⟨z1, z2⟩ := rd_be (v := m.hops) (k := 1) (be m.sf 4 ++ (be m.st 4 ++ (be m.box.length 1 ++ (pkbs m.box ++ t)))) hops (by decide)
      obtain ⟨a1, a2⟩ := rd_be (v := m.sf) (k := 4) (be m.st 4 ++ (be m.box.length 1 ++ (pkbs m.box ++ t))) ok.sf (by decide)
      obtain ⟨b1, b2⟩ := rd_be (v := m.st) (k := 4) (be m.box.length 1 ++ (pkbs m.box ++ t)) ok.st (by decide)
      obtain ⟨d1, d2⟩ := rd_be (v := (m.box.length : Int)) (k := 1) (pkbs m.box ++ t) ⟨by omega, by omega⟩ (by decide)
      have e1 := rd_pkbs m.box t bk
      simp only [rdk, c4, c5, ch, Bool.false_eq_true, if_false, if_true, List.nil_append, rdQ, rdQS, et, z1, z2, a1, a2, b1, b2, d1, d2, Int.toNat_natCast, e1]
      unfold nox
      rw [her, q1, q5, q6, o1, o2, hrc]
      rfl
  · obtain ⟨q1, q2, q3⟩ := E1 c4
    have k4 := wth_t c4
    have c5 : (m.kind == 5) = false := by simp; omega
    have c6 : (m.kind == 6) = false := by simp; omega
    have hb := N1 c5
    have hrc := N2 c6
    obtain ⟨s1, s2⟩ := N3 c5 c6
    have hvl : m.er.vs.length = n.toNat := by omega
    have hev : eVal n m.hub (noxR m.er) = m.ev := by
      unfold eVal
      rw [if_pos F.h1, q2]; rfl
    have et : tlb m ++ t = t := by unfold tlb; rw [c5, c6]; simp
    obtain ⟨X, hX⟩ : ∃ X, (if betk m.kind then be m.owner 4 ++ be m.turn 4 else []) ++ ((if hopk m.kind then be m.hops 1 else []) ++ t) = X := ⟨_, rfl⟩
    have ee : entb m ++ ((if hopk m.kind then be m.hops 1 else []) ++ t) = be (goneN m.gone) 1 ++ (rcb m.er ++ X) := by rw [← hX]; unfold entb; simp only [List.append_assoc]
    obtain ⟨a1, a2⟩ := rd_be (v := goneN m.gone) (k := 1) (rcb m.er ++ X) (goneN_be _) (by decide)
    obtain ⟨b1, b2⟩ := rd_rcb ok.er X
    rw [hvl] at b1 b2
    have t4 : 0 ≤ m.turn ∧ m.turn < 256 ^ 4 := ⟨F.t0, by have := F.t1; omega⟩
    simp only [rdk, c4, if_true, rdA, rdAS, et, ee, a1, a2, b1, b2, hev, goneN_eq]
    cases cb : betk m.kind
    · obtain ⟨o1, o2⟩ := M2 cb
      cases ch : hopk m.kind
      · have hp := M1 ch
        have eX : X = t := by rw [← hX, cb, ch]; rfl
        simp only [eS, eO, eT, eX, Bool.false_eq_true, if_false]
        unfold nox
        rw [hb, hrc, s1, s2, o1, o2, hp, q3]
        rfl
      · have eX : X = be m.hops 1 ++ t := by rw [← hX, cb, ch]; rfl
        obtain ⟨z1, z2⟩ := rd_be (v := m.hops) (k := 1) t hops (by decide)
        simp only [eS, eO, eT, eX, Bool.false_eq_true, if_false, if_true, z1, z2]
        unfold nox
        rw [hb, hrc, s1, s2, o1, o2, q3]
        rfl
    · have ch : hopk m.kind = false := by
        have : m.kind = 2 ∨ m.kind = 3 := by simpa [betk] using cb
        rcases this with e | e <;> rw [e] <;> rfl
      have hp := M1 ch
      have eX : X = be m.owner 4 ++ (be m.turn 4 ++ t) := by rw [← hX, cb, ch]; simp only [if_true, Bool.false_eq_true, if_false, List.nil_append, List.append_assoc]
      obtain ⟨z1, z2⟩ := rd_be (v := m.owner) (k := 4) (be m.turn 4 ++ t) ok.owner (by decide)
      obtain ⟨y1, y2⟩ := rd_be (v := m.turn) (k := 4) t t4 (by decide)
      simp only [eS, eO, eT, eX, ch, Bool.false_eq_true, if_false, if_true, z1, z2, y1, y2]
      unfold nox
      rw [hb, hrc, s1, s2, hp, q3]
      rfl
theorem take_mbs {n : Int} {m : MsgV} (ok : MsgOk m) (hr : rightM n m = true) : takeM n (mbs m) = (nox m, 0) := by
  have F := rtF hr
  have h := rd_mbs ok hr []
  rw [List.append_nil] at h
  rw [take_yes (by simp [wth]; exact ⟨F.n0, F.n1⟩), h]
  unfold endM
  rw [nox_right, hr, nox_mbs]
  simp
theorem take_more {n : Int} {m : MsgV} (ok : MsgOk m) (hr : rightM n m = true) : takeM n (mbs m ++ [0]) = (msgz, 4) := by
  have F := rtF hr
  have h := rd_mbs ok hr [0]
  rw [take_yes (by simp [wth]; exact ⟨F.n0, F.n1⟩), h]
  unfold endM
  rw [nox_right, hr, nox_mbs]
  have : decide (mbs m = mbs m ++ [0]) = false := decide_eq_false fun e => by have := congrArg List.length e; simp at this
  rw [this]
  simp
end Go.Gh

