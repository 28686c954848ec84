import Derived.Test.YtoamjccphppdmaaGhJ

namespace Go.Gh
section
variable {P : Program} {o : Oper} {ρ : Rho} {nb : Nat} {M0 : Nat → GO}
variable {Im Bw D : Nat → Prop} {ι : Nat → Hd} {w : World}

/-- What may be appended: what is in it, and which objects are looked at. -/
def srcOf (M : Nat → GO) (sz : Nat) : GV → Option (List (List GV))
  | .sl _ sz' xs _ => if sz' = sz then some xs else none
  | .lit (.slice none 0 0) => some []
  | .row id => match M id with | .row _ sz' xs => if sz' = sz then some xs else none | _ => none
  | .sub id lo hi => match M id with | .row _ sz' xs => if sz' = sz then some ((xs.drop lo).take (hi - lo)) else none | _ => none
  | .win id lo hi => match M id with | .row _ sz' xs => if sz' = sz then some ((xs.drop lo).take (hi - lo)) else none | _ => none
  | .zl => some []
  | _ => none

theorem srcOf_sound {sz : Nat} {g : GV} {ys : List (List GV)} (hpos : 0 < sz) (h : srcOf M0 sz g = some ys) (Γ : Ctx) (D : Nat → Prop) (ι : Nat → Hd) (M : Nat → GO) (w : World) (u : Value)
    (hS : SR Γ D ι M w) (hV : VR Γ.Im Γ.Bw D ι w g u) (hM : ∀ id, id ∈ gid g → M id = M0 id) : ∃ A c news, Src (VP Γ.Im w) w u sz ys A c news := by
  cases g <;> try (cases h; done)
  case lit v =>
    unfold srcOf at h
    split at h <;> first | cases h | skip
    all_goals try (rename_i e; cases e; done)
    · rename_i e
      cases e
      have := hV.lit_inv
      subst this
      exact ⟨none, 0, [], src_nil sz⟩
  case sl bw sz' xs ex =>
    simp only [srcOf] at h
    split at h
    · rename_i e; subst e; cases h; exact src_sl hpos hV
    · cases h
  case row id =>
    simp only [srcOf] at h
    split at h
    · rename_i e' sz' xs hm
      split at h
      · rename_i e; subst e; cases h
        exact src_row hV (by have := hS.obj id; rwa [hM id (by simp [gid]), hm] at this)
      · cases h
    · cases h
  case sub id lo hi =>
    simp only [srcOf] at h
    split at h
    · rename_i e' sz' xs hm
      split at h
      · rename_i e; subst e; cases h
        exact src_sub hV (by have := hS.obj id; rwa [hM id (by simp [gid]), hm] at this)
      · cases h
    · cases h
  case win id lo hi =>
    simp only [srcOf] at h
    split at h
    · rename_i e' sz' xs hm
      split at h
      · rename_i e; subst e; cases h
        exact src_sub hV.win_sub (by have := hS.obj id; rwa [hM id (by simp [gid]), hm] at this)
      · cases h
    · cases h
  case zl =>
    simp only [srcOf, Option.some.injEq] at h
    subst h
    exact src_zl hV

structure ElemT (P : Program) (t e sz bytes : Nat) : Prop where
  und : P.underlying t = some (.slice e)
  hsz : P.cellsOf e = sz
  by_ : P.bytesOf e = bytes
  zero : ∃ z, zeroOf P e = some z ∧ z.cells.size = sz
  pos : 0 < sz

theorem ElemT.info {t e sz bytes : Nat} (h : ElemT P t e sz bytes) : ∃ i z, P.info? e = some i ∧ i.zero = some z ∧ i.size = sz ∧ i.bytes = bytes ∧ z.cells.size = sz := by
  obtain ⟨z, hz, hzs⟩ := h.zero
  unfold zeroOf at hz
  have h1 := h.hsz
  have h2 := h.by_
  unfold Program.cellsOf at h1
  unfold Program.bytesOf at h2
  cases hi : P.info? e with
  | none => simp [hi] at hz
  | some i => simp [hi] at hz h1 h2; exact ⟨i, z, rfl, hz, h1, h2, hzs⟩

theorem os_append_nil {t e sz bytes : Nat} (hT : ElemT P t e sz bytes) {x y : Operand} {ys : List (List GV)}
    (ho : o.op = .call { callee := .builtin .append, args := #[x, y], argTypes := #[t, t] }) (hx : ρ x = .lit (.slice none 0 0)) (hy : srcOf M0 sz (ρ y) = some ys)
    (hb : ys.length * bytes ≤ 140737488355328) (h63 : ys.length ≤ 140737488355328) :
    OpS P o ρ nb M0 (gid (ρ y)) (.row nb) [] [.row e sz ys] := by
  obtain ⟨i, z, h1, h2, h3, h4, h5⟩ := hT.info
  have := app_core (P := P) (ρ := ρ) (nb := nb) (M0 := M0) (xs := []) (ys := ys) (ids := gid (ρ y)) (ups := []) hT.und h1 h2 h3 h5 hT.pos ho (by simp [maxLen]; omega) (by rw [h4]; simpa using hb)
    (.inl ⟨hx, rfl, rfl⟩) (fun Γ D ι M w u hS hV hM => srcOf_sound hT.pos hy Γ D ι M w u hS hV hM)
  simpa using this

theorem os_append_row {t e sz bytes : Nat} (hT : ElemT P t e sz bytes) {x y : Operand} {id : Nat} {xs ys : List (List GV)}
    (ho : o.op = .call { callee := .builtin .append, args := #[x, y], argTypes := #[t, t] }) (hx : ρ x = .row id) (hM : M0 id = .row e sz xs) (hy : srcOf M0 sz (ρ y) = some ys)
    (hb : (xs.length + ys.length) * bytes ≤ 140737488355328) (h63 : xs.length + ys.length ≤ 140737488355328) :
    OpS P o ρ nb M0 (id :: gid (ρ y)) (.row nb) [(id, .dead)] [.row e sz (xs ++ ys)] := by
  obtain ⟨i, z, h1, h2, h3, h4, h5⟩ := hT.info
  exact app_core (P := P) (ρ := ρ) (nb := nb) (M0 := M0) (xs := xs) (ys := ys) (ids := id :: gid (ρ y)) (ups := [(id, .dead)]) hT.und h1 h2 h3 h5 hT.pos ho (by simp [maxLen]; omega) (by rw [h4]; exact hb)
    (.inr ⟨id, hx, hM, rfl, by simp⟩) (fun Γ D ι M w u hS hV hM => srcOf_sound hT.pos hy Γ D ι M w u hS hV (fun i hi => hM i (by simp [hi])))

/-! len -/

def lenOfG (M : Nat → GO) : GV → Option Nat
  | .sl _ _ xs _ => some xs.length
  | .lit (.slice none 0 0) => some 0
  | .row id => match M id with | .row _ _ xs => some xs.length | _ => none
  | .sub _ lo hi => some (hi - lo)
  | .win _ lo hi => some (hi - lo)
  | .zl => some 0
  | _ => none

theorem lenOfG_sound {g : GV} {n : Nat} (h : lenOfG M0 g = some n) {Γ : Ctx} {D : Nat → Prop} {ι : Nat → Hd} {M : Nat → GO} {w : World} {u : Value}
    (hS : SR Γ D ι M w) (hV : VR Γ.Im Γ.Bw D ι w g u) (hM : ∀ id, id ∈ gid g → M id = M0 id) : ∃ A c, u = .slice A n c := by
  cases g <;> try (cases h; done)
  case lit v =>
    unfold lenOfG at h
    split at h <;> first | cases h | skip
    all_goals try (rename_i e; cases e; done)
    · rename_i e
      cases e
      have := hV.lit_inv
      exact ⟨none, 0, this⟩
  case sl bw sz' xs ex =>
    simp only [lenOfG, Option.some.injEq] at h
    obtain ⟨A, c, V, h1, _⟩ := hV.sl_inv
    exact ⟨A, c, h ▸ h1⟩
  case row id =>
    simp only [lenOfG] at h
    split at h
    · rename_i e' sz' xs hm
      cases h
      have ho := hS.obj id
      rw [hM id (by simp [gid]), hm] at ho
      obtain ⟨_, h1⟩ := hV.row_inv
      obtain ⟨_, hn, _⟩ := ho
      exact ⟨_, _, by rw [h1, Hd.val, hn]⟩
    · cases h
  case sub id lo hi =>
    simp only [lenOfG, Option.some.injEq] at h
    obtain ⟨_, _, _, A, c, h1, _⟩ := hV.sub_inv
    exact ⟨A, c, h ▸ h1⟩
  case win id lo hi =>
    simp only [lenOfG, Option.some.injEq] at h
    obtain ⟨_, _, _, _, A, h1, _⟩ := hV.win_inv
    exact ⟨A, _, h ▸ h1⟩
  case zl =>
    simp only [lenOfG, Option.some.injEq] at h
    obtain ⟨A, h1⟩ := hV.zl_inv
    exact ⟨A, 0, h ▸ h1⟩

theorem os_len {t e n : Nat} {x : Operand} (ho : o.op = .call { callee := .builtin .len, args := #[x], argTypes := #[t] }) (ht : P.underlying t = some (.slice e))
    (hx : lenOfG M0 (ρ x) = some n) : OpS P o ρ nb M0 (gid (ρ x)) (.lit (.int .i64 n)) [] [] := by
  refine .quiet fun Γ D ι M w ac hS hV hM => ⟨_, .litv _, ?_⟩
  obtain ⟨A, c, h1⟩ := lenOfG_sound hx hS (hV x (by simp [ho, Op.operands, Call.operands])) hM
  obtain ⟨cc, hrun⟩ := run_call_builtin (P := P) (w := w) (a := ac) ho
  rw [hrun]
  simp [builtin, Builtin.len_, h1, run_und ht, goInt]

theorem os_lenStr {t : Nat} {x : Operand} {s : ByteArray} (ho : o.op = .call { callee := .builtin .len, args := #[x], argTypes := #[t] }) (ht : P.underlying t = some .string)
    (hx : ρ x = .lit (.string s)) : OpS P o ρ nb M0 [] (.lit (.int .i64 s.size)) [] [] := by
  refine .quiet fun Γ D ι M w ac hS hV hM => ⟨_, .litv _, ?_⟩
  have h1 := (hx ▸ hV x (by simp [ho, Op.operands, Call.operands])).lit_inv
  obtain ⟨cc, hrun⟩ := run_call_builtin (P := P) (w := w) (a := ac) ho
  rw [hrun]
  simp [builtin, Builtin.len_, h1, run_und ht, goInt]

theorem os_lenArr {t e n : Nat} {x : Operand} (ho : o.op = .call { callee := .builtin .len, args := #[x], argTypes := #[t] }) (ht : P.underlying t = some (.array n e)) :
    OpS P o ρ nb M0 [] (.lit (.int .i64 n)) [] [] := by
  refine .quiet fun Γ D ι M w ac hS hV hM => ⟨_, .litv _, ?_⟩
  obtain ⟨cc, hrun⟩ := run_call_builtin (P := P) (w := w) (a := ac) ho
  rw [hrun]
  simp [builtin, Builtin.len_, run_und ht, goInt]

theorem os_cap {t e : Nat} {x : Operand} {bw : Bool} {sz : Nat} {xs ex : List (List GV)} (ho : o.op = .call { callee := .builtin .cap, args := #[x], argTypes := #[t] }) (ht : P.underlying t = some (.slice e))
    (hx : ρ x = .sl bw sz xs ex) :
    OpS P o ρ nb M0 [] (.ige (xs.length + ex.length)) [] [] := by
  refine .quiet fun Γ D ι M w ac hS hV hM => ?_
  have hv := hx ▸ hV x (by simp [ho, Op.operands, Call.operands])
  obtain ⟨A, c, V, h1, h2, _⟩ := hv.sl_inv
  obtain ⟨cc, hrun⟩ := run_call_builtin (P := P) (w := w) (a := ac) ho
  have := h2.2
  refine ⟨.int .i64 c, .imm (.ige _ _ (by omega) (by simp [maxLen] at this; omega)), ?_⟩
  rw [hrun]
  simp [builtin, Builtin.cap_, h1, run_und ht, goInt]

/-! min, max -/

theorem run_min2 {k k' : IntKind} {a b : Int} : (Builtin.min2 (.int k a) (.int k' b)).run P w = .ok (.int k (if b < a then b else a)) w := rfl
theorem run_max2 {k k' : IntKind} {a b : Int} : (Builtin.max2 (.int k a) (.int k' b)).run P w = .ok (.int k (if b > a then b else a)) w := rfl

theorem os_min2 {x y : Operand} {ts : Array TypeId} {k : IntKind} {a b : Int} (ho : o.op = .call { callee := .builtin .min, args := #[x, y], argTypes := ts })
    (hx : ρ x = .lit (.int k a)) (hy : ρ y = .lit (.int k b)) : OpS P o ρ nb M0 [] (.lit (.int k (if b < a then b else a))) [] [] := by
  refine .quiet fun Γ D ι M w ac hS hV hM => ⟨_, .litv _, ?_⟩
  have h1 := (hx ▸ hV x (by simp [ho, Op.operands, Call.operands])).lit_inv
  have h2 := (hy ▸ hV y (by simp [ho, Op.operands, Call.operands])).lit_inv
  obtain ⟨cc, hrun⟩ := run_call_builtin (P := P) (w := w) (a := ac) ho
  rw [hrun]
  simp [builtin, Builtin.min_, h1, h2, run_min2]

theorem os_min3 {x y z : Operand} {ts : Array TypeId} {k : IntKind} {a b c : Int} (ho : o.op = .call { callee := .builtin .min, args := #[x, y, z], argTypes := ts })
    (hx : ρ x = .lit (.int k a)) (hy : ρ y = .lit (.int k b)) (hz : ρ z = .lit (.int k c)) : OpS P o ρ nb M0 [] (.lit (.int k (if c < (if b < a then b else a) then c else (if b < a then b else a)))) [] [] := by
  refine .quiet fun Γ D ι M w ac hS hV hM => ⟨_, .litv _, ?_⟩
  have h1 := (hx ▸ hV x (by simp [ho, Op.operands, Call.operands])).lit_inv
  have h2 := (hy ▸ hV y (by simp [ho, Op.operands, Call.operands])).lit_inv
  have h3 := (hz ▸ hV z (by simp [ho, Op.operands, Call.operands])).lit_inv
  obtain ⟨cc, hrun⟩ := run_call_builtin (P := P) (w := w) (a := ac) ho
  rw [hrun]
  simp [builtin, Builtin.min_, h1, h2, h3, run_min2]

theorem os_max2 {x y : Operand} {ts : Array TypeId} {k : IntKind} {a b : Int} (ho : o.op = .call { callee := .builtin .max, args := #[x, y], argTypes := ts })
    (hx : ρ x = .lit (.int k a)) (hy : ρ y = .lit (.int k b)) : OpS P o ρ nb M0 [] (.lit (.int k (if b > a then b else a))) [] [] := by
  refine .quiet fun Γ D ι M w ac hS hV hM => ⟨_, .litv _, ?_⟩
  have h1 := (hx ▸ hV x (by simp [ho, Op.operands, Call.operands])).lit_inv
  have h2 := (hy ▸ hV y (by simp [ho, Op.operands, Call.operands])).lit_inv
  obtain ⟨cc, hrun⟩ := run_call_builtin (P := P) (w := w) (a := ac) ho
  rw [hrun]
  simp [builtin, Builtin.max_, h1, h2, run_max2]

/-! A closure. -/

theorem os_closure {f : Nat} {caps : Array Operand} (ho : o.op = .makeFunc (.func f) #[] caps) : OpS P o ρ nb M0 [] (.clo f (caps.toList.map ρ)) [] [] := by
  refine .quiet fun Γ D ι M w ac hS hV hM => ⟨.func (.func f) #[] (caps.map ac.eval), ?_, ?_⟩
  · refine .clo f _ _ (by simp) fun i g hg => ?_
    simp only [List.getElem?_map, Array.getElem?_toList, Option.map_eq_some_iff] at hg
    obtain ⟨x, hx, rfl⟩ := hg
    have : (caps.map ac.eval).getD i undef = ac.eval x := by simp [hx]
    rw [this]
    exact hV x (by simp only [ho, Op.operands, Array.empty_append]; exact Array.mem_of_getElem? hx)
  · simp [execOp, ho, Instr.makeFunc]

end
end Go.Gh
