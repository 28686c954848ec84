import Derived.Test.YtoamjccphppdmaaGhI

namespace Go.Gh
section
variable {P : Program} {o : Oper} {ρ : Rho} {nb : Nat} {M0 : Nat → GO}
variable {Im Bw D : Nat → Prop} {ι : Nat → Hd} {w : World}

theorem run_call_builtin {a : Act} {b : Builtin} {xs : Array Operand} {ts : Array TypeId} (ho : o.op = .call { callee := .builtin b, args := xs, argTypes := ts }) :
    ∃ cs, (execOp a.eval o).run P w = (builtin b ts o.type cs (xs.map a.eval)).run P w := by
  refine ⟨xs.map fun | .const _ => true | _ => false, ?_⟩
  simp only [execOp, ho, resolve, invoke, Sem.run_bind, Sem.run_pure, Result.andThen_ok]
  rfl

/-- The value of a row. -/
def hdOf (sz : Nat) : Value → Hd
  | .slice A n c => ⟨A.map (·.block), sz, n, c⟩
  | _ => ⟨none, sz, 0, 0⟩

theorem hdOf_val {e sz : Nat} {v : Value} {n : Nat} {xs : List Value} (h : w.ownsRow 0 e sz v n xs) : (hdOf sz v).val = v ∧ (hdOf sz v).sz = sz ∧ (hdOf sz v).n = n ∧
    (∀ b, (hdOf sz v).A = some b ↔ v.ownBlock = some b) := by
  rcases h.2 with ⟨rfl, rfl⟩ | ⟨g, cap, cur, rfl, _⟩
  · exact ⟨rfl, rfl, rfl, fun b => by simp [hdOf, Value.ownBlock]⟩
  · exact ⟨rfl, rfl, rfl, fun b => by simp [hdOf, Value.ownBlock]⟩

/-- A new row out of an old one (which is let go), or out of nothing. -/
theorem app_core {t e sz : Nat} {i : TypeInfo} {z : Value} (ht : P.underlying t = some (.slice e)) (hi : P.info? e = some i) (hz : i.zero = some z) (hsize : i.size = sz) (hzs : z.cells.size = sz) (hpos : 0 < sz)
    {x y : Operand} {xs ys : List (List GV)} {ids : List Nat} {ups : List (Nat × GO)}
    (ho : o.op = .call { callee := .builtin .append, args := #[x, y], argTypes := #[t, t] })
    (h63 : xs.length + ys.length ≤ maxLen) (hbytes : (xs.length + ys.length) * i.bytes ≤ 140737488355328)
    (hbase : (ρ x = .lit (.slice none 0 0) ∧ xs = [] ∧ ups = []) ∨ ∃ id, ρ x = .row id ∧ M0 id = .row e sz xs ∧ ups = [(id, .dead)] ∧ id ∈ ids)
    (hsrc : ∀ (Γ : Ctx) (D : Nat → Prop) (ι : Nat → Hd) (M : Nat → GO) (w : World) (u : Value), SR Γ D ι M w → VR Γ.Im Γ.Bw D ι w (ρ y) u → (∀ id, id ∈ ids → M id = M0 id) →
      ∃ A c news, Src (VP Γ.Im w) w u sz ys A c news) :
    OpS P o ρ nb M0 ids (.row nb) ups [.row e sz (xs ++ ys)] := by
  intro Γ D ι M w ac K Q hS hV hM hf hk
  have hn : ¬ D nb := hf nb (Nat.le_refl _) (by simp)
  obtain ⟨A, c, news, hs⟩ := hsrc Γ D ι M w _ hS (hV y (by simp [ho, Op.operands, Call.operands])) hM
  have hb : ∃ (v : Value) (cs : List Value), ac.eval x = v ∧ w.ownsRow 0 e sz v xs.length cs ∧ (∀ u, u ∈ cs → flat u = true) ∧ (∀ x, x ∈ xs → x.length = sz) ∧
      (∀ (i j : Nat) x g, xs[i]? = some x → x[j]? = some g → VP Γ.Im w g (cs.getD (i * sz + j) undef)) ∧
      (∀ b, v.ownBlock = some b → ∃ id, M id ≠ .dead ∧ (ι id).A = some b ∧ ups = [(id, .dead)]) := by
    rcases hbase with ⟨h1, h2, _⟩ | ⟨id, h1, h2, h3, h4⟩
    · have := (h1 ▸ hV x (by simp [ho, Op.operands, Call.operands])).lit_inv
      refine ⟨.slice none 0 0, [], this, by subst h2; exact World.ownsRow_nil w 0 e sz, fun _ h => by simp at h, fun _ h => by subst h2; simp at h, fun i j x g h => by subst h2; simp at h, fun b hb => by simp [Value.ownBlock] at hb⟩
    · obtain ⟨hD, h5⟩ := (h1 ▸ hV x (by simp [ho, Op.operands, Call.operands])).row_inv
      have hMi := hM id h4
      have hob := hS.obj id
      rw [hMi, h2] at hob
      obtain ⟨h6, h7, h8, cs, h9, h10, h11, _⟩ := row_cases hob
      refine ⟨_, cs, h5, h9, h10, h8, h11, fun b hb => ⟨id, by rw [hMi, h2]; simp, ?_, h3⟩⟩
      unfold Hd.val at hb
      cases hA : (ι id).A with
      | none => simp [hA, Value.ownBlock] at hb
      | some b' => simp [hA, Value.ownBlock] at hb; rw [hb]
  obtain ⟨v, cs, hev, hown, hcf, hxl, hrel, hblk⟩ := hb
  obtain ⟨v', w', hr, hown', hg, hnew, hsz⟩ := run_app (P := P) (w := w) (ty := o.type) ht hi hz hsize hzs hpos hown (m := ys.length) (c := c) (news := news) hs.nil hs.len hs.cell hs.flt h63 hbytes
  obtain ⟨hv1, hv2, hv3, hv4⟩ := hdOf_val hown'
  have hD : (fun i => D i ∨ (nb ≤ i ∧ i < nb + [GO.row e sz (xs ++ ys)].length)) = fun i => D i ∨ i = nb := by
    funext i; simp only [List.length_singleton, eq_iff_iff]
    constructor <;> rintro (h | h) <;> first | exact .inl h | (right; omega)
  have hk' := hk Γ.Im (fun i => if i = nb then hdOf sz v' else ι i) v' w'
    ⟨hg.os, hg.tape, hg.output, hsz, fun b hb => hg.block b (hS.lt b hb) fun e => by
      obtain ⟨id, h1, h2, _⟩ := hblk b e.symm
      exact hS.own id b h1 h2 hb⟩ (fun _ h => h)
    (fun i hi => by rw [if_neg]; rintro rfl; exact hn hi)
  rw [hD] at hk'
  have hSR : SR Γ (fun i => D i ∨ i = nb) (fun i => if i = nb then hdOf sz v' else ι i) (updF M ups nb [GO.row e sz (xs ++ ys)]) w' := by
    have hVRm : ∀ g u, VP Γ.Im w g u → VP Γ.Im w' g u := fun g u h =>
      h.mono (fun _ h => h) fun b hb =>
        have hh : Γ.has b := .inl hb
        hg.block b (hS.lt b hh) fun e => by
          obtain ⟨id, h1, h2, _⟩ := hblk b e.symm
          exact hS.own id b h1 h2 hh
    refine hS.new hn (fun i => Iff.rfl) (fun i hi => by rw [if_neg]; rintro rfl; exact hn hi) (o := GO.row e sz (xs ++ ys)) ?_ ?_ hsz ?_ ?_ ?_
    · intro i hi
      have : updF M ups nb [GO.row e sz (xs ++ ys)] i = ((ups.find? (·.1 == i)).map (·.2)).getD (M i) := by
        unfold updF
        rw [if_neg (by simp; omega)]
      rw [this]
      rcases hbase with ⟨_, _, rfl⟩ | ⟨id, _, _, rfl, _⟩
      · right; rfl
      · by_cases e : id = i
        · subst e; left; simp
        · right
          have : (id == i) = false := by simpa using e
          simp [this]
    · unfold updF
      rw [if_pos (by simp)]
      simp
    · intro b hb _ hne
      refine hg.block b hb fun e => ?_
      obtain ⟨id, h1, h2, h3⟩ := hblk b e.symm
      refine hne id h1 ?_ h2
      unfold updF
      rw [if_neg (fun h4 => ?_), h3]
      · simp
      · have h5 : id = nb := by have := h4.2; simp at this; omega
        subst h5; exact hn (hS.liv _ h1)
    · intro b hb
      simp only [if_true] at hb
      rcases hnew b ((hv4 b).1 hb) with h | h
      · exact .inl h
      · obtain ⟨id, h1, h2, h3⟩ := hblk b h
        refine .inr ⟨id, h1, ?_, h2⟩
        unfold updF
        rw [if_neg (fun h4 => ?_), h3]
        · simp
        · have h5 : id = nb := by have := h4.2; simp at this; omega
          subst h5; exact hn (hS.liv _ h1)
    · simp only [if_true]
      refine ⟨hv2, by rw [hv3]; simp, fun x hx => ?_, cs ++ news, ?_, fun u hu => ?_, fun i j x g hx hj => ?_⟩
      · rcases List.mem_append.1 hx with h | h
        · exact hxl x h
        · exact hs.esz x h
      · rw [hv1, List.length_append]; exact hown'
      · rcases List.mem_append.1 hu with h | h
        · exact hcf u h
        · exact hs.flt u h
      · rw [List.getElem?_append] at hx
        split at hx
        · rename_i hi'
          have hxl' := hxl x (List.mem_of_getElem? hx)
          have hjl : j < sz := by rw [← hxl']; exact (List.getElem?_eq_some_iff.1 hj).1
          have e : (cs ++ news).getD (i * sz + j) undef = cs.getD (i * sz + j) undef := by
            simp only [List.getD_eq_getElem?_getD]
            rw [List.getElem?_append_left (by rw [hown.1]; exact grid_lt hi' hjl)]
          rw [e]
          exact hVRm _ _ (hrel i j x g hx hj)
        · rename_i hi'
          have hxl' := hs.esz x (List.mem_of_getElem? hx)
          have hge : xs.length * sz ≤ i * sz := Nat.mul_le_mul_right _ (by omega)
          have e : (cs ++ news).getD (i * sz + j) undef = news.getD ((i - xs.length) * sz + j) undef := by
            simp only [List.getD_eq_getElem?_getD]
            rw [List.getElem?_append_right (by rw [hown.1]; omega), hown.1]
            congr 2
            rw [Nat.sub_mul]; omega
          rw [e]
          exact hVRm _ _ (hs.rel _ j x g hx hj)
  obtain ⟨cc, hrun⟩ := run_call_builtin (P := P) (w := w) (a := ac) ho
  unfold Oper.wp
  rw [hrun]
  simp only [List.map_toArray, List.map_cons, List.map_nil, hev, hs.val, builtin, Sem.run_bind, hr, Result.andThen_ok, Sem.run_pure]
  refine hk' hSR ?_
  have := VR.row (Im := Γ.Im) (Bw := Γ.Bw) (D := fun i => D i ∨ i = nb) (ι := fun i => if i = nb then hdOf sz v' else ι i) (w := w') nb (.inr rfl)
  simp only [if_true] at this
  have h2 : VR Γ.Im Γ.Bw (fun i => D i ∨ i = nb) (fun i => if i = nb then hdOf sz v' else ι i) w' (.row nb) (hdOf sz v').val := this
  rw [hv1] at h2
  exact h2

end
end Go.Gh
