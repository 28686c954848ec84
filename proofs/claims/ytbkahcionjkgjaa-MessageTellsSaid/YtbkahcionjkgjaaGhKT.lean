import Derived.Test.YtbkahcionjkgjaaGhAJ

namespace Go.Gh
section
variable {P : Program} {o : Oper} {ρ : Rho} {nb : Nat} {M0 : Nat → GO}
variable {Im Bw D : Nat → Prop} {ι : Nat → Hd} {w : World}

/-- What may be appended: what is in it, and which objects are looked at. -/
def srcOf (M : Nat → GO) (sz : Nat) : GV → Option (List (List GV))
  | .sl _ sz' xs _ => if sz' = sz then some xs else none
  | .lit (.slice none 0 0) => some []
  | .row id => match M id with | .row _ sz' xs => if sz' = sz then some xs else none | _ => none
  | .sub id lo hi => match M id with | .row _ sz' xs => if sz' = sz then some ((xs.drop lo).take (hi - lo)) else none | _ => none
  | .win id lo hi => match M id with | .row _ sz' xs => if sz' = sz then some ((xs.drop lo).take (hi - lo)) else none | _ => none
  | .zl => some []
  | _ => none

theorem srcOf_sound {sz : Nat} {g : GV} {ys : List (List GV)} (hpos : 0 < sz) (h : srcOf M0 sz g = some ys) (Γ : Ctx) (D : Nat → Prop) (ι : Nat → Hd) (M : Nat → GO) (w : World) (u : Value)
    (hS : SR Γ D ι M w) (hV : VR Γ.Im Γ.Bw D ι w g u) (hM : ∀ id, id ∈ gid g → M id = M0 id) : ∃ A c news, Src (VP Γ.Im w) w u sz ys A c news := by
  cases g <;> try (cases h; done)
  case lit v =>
    unfold srcOf at h
    split at h <;> first | cases h | skip
    all_goals try (rename_i e; cases e; done)
    · rename_i e
      cases e
      have := hV.lit_inv
      subst this
      exact ⟨none, 0, [], src_nil sz⟩
  case sl bw sz' xs ex =>
    simp only [srcOf] at h
    split at h
    · rename_i e; subst e; cases h; exact src_sl hpos hV
    · cases h
  case row id =>
    simp only [srcOf] at h
    split at h
    · rename_i e' sz' xs hm
      split at h
      · rename_i e; subst e; cases h
        exact src_row hV (by have := hS.obj id; rwa [hM id (by simp [gid]), hm] at this)
      · cases h
    · cases h
  case sub id lo hi =>
    simp only [srcOf] at h
    split at h
    · rename_i e' sz' xs hm
      split at h
      · rename_i e; subst e; cases h
        exact src_sub hV (by have := hS.obj id; rwa [hM id (by simp [gid]), hm] at this)
      · cases h
    · cases h
  case win id lo hi =>
    simp only [srcOf] at h
    split at h
    · rename_i e' sz' xs hm
      split at h
      · rename_i e; subst e; cases h
        exact src_sub hV.win_sub (by have := hS.obj id; rwa [hM id (by simp [gid]), hm] at this)
      · cases h
    · cases h
  case zl =>
    simp only [srcOf, Option.some.injEq] at h
    subst h
    exact src_zl hV

structure ElemT (P : Program) (t e sz bytes : Nat) : Prop where
  und : P.underlying t = some (.slice e)
  hsz : P.cellsOf e = sz
  by_ : P.bytesOf e = bytes
  zero : ∃ z, zeroOf P e = some z ∧ z.cells.size = sz ∧ flatAll z = true
  pos : 0 < sz

theorem ElemT.info {t e sz bytes : Nat} (h : ElemT P t e sz bytes) : ∃ i z, P.info? e = some i ∧ i.zero = some z ∧ i.size = sz ∧ i.bytes = bytes ∧ z.cells.size = sz := by
  obtain ⟨z, hz, hzs, _⟩ := h.zero
  unfold zeroOf at hz
  have h1 := h.hsz
  have h2 := h.by_
  unfold Program.cellsOf at h1
  unfold Program.bytesOf at h2
  cases hi : P.info? e with
  | none => simp [hi] at hz
  | some i => simp [hi] at hz h1 h2; exact ⟨i, z, rfl, hz, h1, h2, hzs⟩

theorem ElemT.flt {t e sz bytes : Nat} (h : ElemT P t e sz bytes) {i : TypeInfo} {z : Value} (hi : P.info? e = some i) (hz : i.zero = some z) : flatAll z = true := by
  obtain ⟨z', hz', _, hf⟩ := h.zero
  unfold zeroOf at hz'
  simp [hi, hz] at hz'
  rw [hz']; exact hf

theorem os_append_nil {t e sz bytes : Nat} (hT : ElemT P t e sz bytes) {x y : Operand} {ys : List (List GV)}
    (ho : o.op = .call { callee := .builtin .append, args := #[x, y], argTypes := #[t, t] }) (hx : ρ x = .lit (.slice none 0 0)) (hy : srcOf M0 sz (ρ y) = some ys)
    (hb : ys.length * bytes ≤ 140737488355328) (h63 : ys.length ≤ 140737488355328) :
    OpS P o ρ nb M0 (gid (ρ y)) (.row nb) [] [.row e sz ys] := by
  obtain ⟨i, z, h1, h2, h3, h4, h5⟩ := hT.info
  have := app_core (P := P) (ρ := ρ) (nb := nb) (M0 := M0) (xs := []) (ys := ys) (ids := gid (ρ y)) (ups := []) hT.und h1 h2 h3 h5 hT.pos (hT.flt h1 h2) ho (by simp [maxLen]; omega) (by rw [h4]; simpa using hb)
    (.inl ⟨hx, rfl, rfl⟩) (fun Γ D ι M w u hS hV hM => srcOf_sound hT.pos hy Γ D ι M w u hS hV hM)
  simpa using this

theorem os_append_row {t e sz bytes : Nat} (hT : ElemT P t e sz bytes) {x y : Operand} {id : Nat} {xs ys : List (List GV)}
    (ho : o.op = .call { callee := .builtin .append, args := #[x, y], argTypes := #[t, t] }) (hx : ρ x = .row id) (hM : M0 id = .row e sz xs) (hy : srcOf M0 sz (ρ y) = some ys)
    (hb : (xs.length + ys.length) * bytes ≤ 140737488355328) (h63 : xs.length + ys.length ≤ 140737488355328) :
    OpS P o ρ nb M0 (id :: gid (ρ y)) (.row nb) [(id, .dead)] [.row e sz (xs ++ ys)] := by
  obtain ⟨i, z, h1, h2, h3, h4, h5⟩ := hT.info
  exact app_core (P := P) (ρ := ρ) (nb := nb) (M0 := M0) (xs := xs) (ys := ys) (ids := id :: gid (ρ y)) (ups := [(id, .dead)]) hT.und h1 h2 h3 h5 hT.pos (hT.flt h1 h2) ho (by simp [maxLen]; omega) (by rw [h4]; exact hb)
    (.inr ⟨id, hx, hM, rfl, by simp⟩) (fun Γ D ι M w u hS hV hM => srcOf_sound hT.pos hy Γ D ι M w u hS hV (fun i hi => hM i (by simp [hi])))

/-! len -/

def lenOfG (M : Nat → GO) : GV → Option Nat
  | .sl _ _ xs _ => some xs.length
  | .lit (.slice none 0 0) => some 0
  | .row id => match M id with | .row _ _ xs => some xs.length | _ => none
  | .sub _ lo hi => some (hi - lo)
  | .win _ lo hi => some (hi - lo)
  | .zl => some 0
  | _ => none

theorem lenOfG_sound {g : GV} {n : Nat} (h : lenOfG M0 g = some n) {Γ : Ctx} {D : Nat → Prop} {ι : Nat → Hd} {M : Nat → GO} {w : World} {u : Value}
    (hS : SR Γ D ι M w) (hV : VR Γ.Im Γ.Bw D ι w g u) (hM : ∀ id, id ∈ gid g → M id = M0 id) : ∃ A c, u = .slice A n c := by
  cases g <;> try (cases h; done)
  case lit v =>
    unfold lenOfG at h
    split at h <;> first | cases h | skip
    all_goals try (rename_i e; cases e; done)
    · rename_i e
      cases e
      have := hV.lit_inv
      exact ⟨none, 0, this⟩
  case sl bw sz' xs ex =>
    simp only [lenOfG, Option.some.injEq] at h
    obtain ⟨A, c, V, h1, _⟩ := hV.sl_inv
    exact ⟨A, c, h ▸ h1⟩
  case row id =>
    simp only [lenOfG] at h
    split at h
    · rename_i e' sz' xs hm
      cases h
      have ho := hS.obj id
      rw [hM id (by simp [gid]), hm] at ho
      obtain ⟨_, h1⟩ := hV.row_inv
      obtain ⟨_, hn, _⟩ := ho
      exact ⟨_, _, by rw [h1, Hd.val, hn]⟩
    · cases h
  case sub id lo hi =>
    simp only [lenOfG, Option.some.injEq] at h
    obtain ⟨_, _, _, A, c, h1, _⟩ := hV.sub_inv
    exact ⟨A, c, h ▸ h1⟩
  case win id lo hi =>
    simp only [lenOfG, Option.some.injEq] at h
    obtain ⟨_, _, _, _, A, h1, _⟩ := hV.win_inv
    exact ⟨A, _, h ▸ h1⟩
  case zl =>
    simp only [lenOfG, Option.some.injEq] at h
    obtain ⟨A, h1⟩ := hV.zl_inv
    exact ⟨A, 0, h ▸ h1⟩

theorem os_len {t e n : Nat} {x : Operand} (ho : o.op = .call { callee := .builtin .len, args := #[x], argTypes := #[t] }) (ht : P.underlying t = some (.slice e))
    (hx : lenOfG M0 (ρ x) = some n) : OpS P o ρ nb M0 (gid (ρ x)) (.lit (.int .i64 n)) [] [] := by
  refine .quiet fun Γ D ι M w ac hS hV hM => ⟨_, .litv _, ?_⟩
  obtain ⟨A, c, h1⟩ := lenOfG_sound hx hS (hV x (by simp [ho, Op.operands, Call.operands])) hM
  obtain ⟨cc, hrun⟩ := run_call_builtin (P := P) (w := w) (a := ac) ho
  rw [hrun]
  simp [builtin, Builtin.len_, h1, run_und ht, goInt]

theorem os_lenStr {t : Nat} {x : Operand} {s : ByteArray} (ho : o.op = .call { callee := .builtin .len, args := #[x], argTypes := #[t] }) (ht : P.underlying t = some .string)
    (hx : ρ x = .lit (.string s)) : OpS P o ρ nb M0 [] (.lit (.int .i64 s.size)) [] [] := by
  refine .quiet fun Γ D ι M w ac hS hV hM => ⟨_, .litv _, ?_⟩
  have h1 := (hx ▸ hV x (by simp [ho, Op.operands, Call.operands])).lit_inv
  obtain ⟨cc, hrun⟩ := run_call_builtin (P := P) (w := w) (a := ac) ho
  rw [hrun]
  simp [builtin, Builtin.len_, h1, run_und ht, goInt]

theorem os_lenArr {t e n : Nat} {x : Operand} (ho : o.op = .call { callee := .builtin .len, args := #[x], argTypes := #[t] }) (ht : P.underlying t = some (.array n e)) :
    OpS P o ρ nb M0 [] (.lit (.int .i64 n)) [] [] := by
  refine .quiet fun Γ D ι M w ac hS hV hM => ⟨_, .litv _, ?_⟩
  obtain ⟨cc, hrun⟩ := run_call_builtin (P := P) (w := w) (a := ac) ho
  rw [hrun]
  simp [builtin, Builtin.len_, run_und ht, goInt]

theorem os_cap {t e : Nat} {x : Operand} {bw : Bool} {sz : Nat} {xs ex : List (List GV)} (ho : o.op = .call { callee := .builtin .cap, args := #[x], argTypes := #[t] }) (ht : P.underlying t = some (.slice e))
    (hx : ρ x = .sl bw sz xs ex) :
    OpS P o ρ nb M0 [] (.ige (xs.length + ex.length)) [] [] := by
  refine .quiet fun Γ D ι M w ac hS hV hM => ?_
  have hv := hx ▸ hV x (by simp [ho, Op.operands, Call.operands])
  obtain ⟨A, c, V, h1, h2, _⟩ := hv.sl_inv
  obtain ⟨cc, hrun⟩ := run_call_builtin (P := P) (w := w) (a := ac) ho
  have := h2.2
  refine ⟨.int .i64 c, .imm (.ige _ _ (by omega) (by simp [maxLen] at this; omega)), ?_⟩
  rw [hrun]
  simp [builtin, Builtin.cap_, h1, run_und ht, goInt]

/-! min, max -/

theorem run_min2 {k k' : IntKind} {a b : Int} : (Builtin.min2 (.int k a) (.int k' b)).run P w = .ok (.int k (if b < a then b else a)) w := rfl
theorem run_max2 {k k' : IntKind} {a b : Int} : (Builtin.max2 (.int k a) (.int k' b)).run P w = .ok (.int k (if b > a then b else a)) w := rfl

theorem os_min2 {x y : Operand} {ts : Array TypeId} {k : IntKind} {a b : Int} (ho : o.op = .call { callee := .builtin .min, args := #[x, y], argTypes := ts })
    (hx : ρ x = .lit (.int k a)) (hy : ρ y = .lit (.int k b)) : OpS P o ρ nb M0 [] (.lit (.int k (if b < a then b else a))) [] [] := by
  refine .quiet fun Γ D ι M w ac hS hV hM => ⟨_, .litv _, ?_⟩
  have h1 := (hx ▸ hV x (by simp [ho, Op.operands, Call.operands])).lit_inv
  have h2 := (hy ▸ hV y (by simp [ho, Op.operands, Call.operands])).lit_inv
  obtain ⟨cc, hrun⟩ := run_call_builtin (P := P) (w := w) (a := ac) ho
  rw [hrun]
  simp [builtin, Builtin.min_, h1, h2, run_min2]

theorem os_min3 {x y z : Operand} {ts : Array TypeId} {k : IntKind} {a b c : Int} (ho : o.op = .call { callee := .builtin .min, args := #[x, y, z], argTypes := ts })
    (hx : ρ x = .lit (.int k a)) (hy : ρ y = .lit (.int k b)) (hz : ρ z = .lit (.int k c)) : OpS P o ρ nb M0 [] (.lit (.int k (if c < (if b < a then b else a) then c else (if b < a then b else a)))) [] [] := by
  refine .quiet fun Γ D ι M w ac hS hV hM => ⟨_, .litv _, ?_⟩
  have h1 := (hx ▸ hV x (by simp [ho, Op.operands, Call.operands])).lit_inv
  have h2 := (hy ▸ hV y (by simp [ho, Op.operands, Call.operands])).lit_inv
  have h3 := (hz ▸ hV z (by simp [ho, Op.operands, Call.operands])).lit_inv
  obtain ⟨cc, hrun⟩ := run_call_builtin (P := P) (w := w) (a := ac) ho
  rw [hrun]
  simp [builtin, Builtin.min_, h1, h2, h3, run_min2]

theorem os_max2 {x y : Operand} {ts : Array TypeId} {k : IntKind} {a b : Int} (ho : o.op = .call { callee := .builtin .max, args := #[x, y], argTypes := ts })
    (hx : ρ x = .lit (.int k a)) (hy : ρ y = .lit (.int k b)) : OpS P o ρ nb M0 [] (.lit (.int k (if b > a then b else a))) [] [] := by
  refine .quiet fun Γ D ι M w ac hS hV hM => ⟨_, .litv _, ?_⟩
  have h1 := (hx ▸ hV x (by simp [ho, Op.operands, Call.operands])).lit_inv
  have h2 := (hy ▸ hV y (by simp [ho, Op.operands, Call.operands])).lit_inv
  obtain ⟨cc, hrun⟩ := run_call_builtin (P := P) (w := w) (a := ac) ho
  rw [hrun]
  simp [builtin, Builtin.max_, h1, h2, run_max2]

/-! A closure. -/

theorem os_closure {f : Nat} {caps : Array Operand} (ho : o.op = .makeFunc (.func f) #[] caps) : OpS P o ρ nb M0 [] (.clo f (caps.toList.map ρ)) [] [] := by
  refine .quiet fun Γ D ι M w ac hS hV hM => ⟨.func (.func f) #[] (caps.map ac.eval), ?_, ?_⟩
  · refine .clo f _ _ (by simp) fun i g hg => ?_
    simp only [List.getElem?_map, Array.getElem?_toList, Option.map_eq_some_iff] at hg
    obtain ⟨x, hx, rfl⟩ := hg
    have : (caps.map ac.eval).getD i undef = ac.eval x := by simp [hx]
    rw [this]
    exact hV x (by simp only [ho, Op.operands, Array.empty_append]; exact Array.mem_of_getElem? hx)
  · simp [execOp, ho, Instr.makeFunc]

end
end Go.Gh


namespace Go.Gh

mutual
/-- Objects numbered anew. -/
def ren (f : Nat → Nat) : GV → GV
  | .row id => .row (f id)
  | .sub id lo hi => .sub (f id) lo hi
  | .win id lo hi => .win (f id) lo hi
  | .adr id i j => .adr (f id) i j
  | .agg cs => .agg (renL f cs)
  | .tup cs => .tup (renL f cs)
  | .clo n cs => .clo n (renL f cs)
  | .mref id => .mref (f id)
  | g => g
def renL (f : Nat → Nat) : List GV → List GV
  | [] => []
  | g :: l => ren f g :: renL f l
end

mutual
/-- Only these objects are spoken of. -/
def gin (ids : List Nat) : GV → Bool
  | .row id => ids.contains id
  | .sub id _ _ => ids.contains id
  | .win id _ _ => ids.contains id
  | .adr id _ _ => ids.contains id
  | .agg cs => ginL ids cs
  | .tup cs => ginL ids cs
  | .clo _ cs => ginL ids cs
  | .mref id => ids.contains id
  | _ => true
def ginL (ids : List Nat) : List GV → Bool
  | [] => true
  | g :: l => gin ids g && ginL ids l
end

theorem renL_get (f : Nat → Nat) : ∀ (l : List GV) (i : Nat), (renL f l)[i]? = (l[i]?).map (ren f)
  | [], i => by simp [renL]
  | g :: l, 0 => by simp [renL]
  | g :: l, i + 1 => by simp [renL, renL_get f l i]

theorem renL_length (f : Nat → Nat) : ∀ (l : List GV), (renL f l).length = l.length
  | [] => rfl
  | g :: l => by simp [renL, renL_length f l]

theorem ginL_get {ids : List Nat} : ∀ {l : List GV} {i : Nat} {g : GV}, ginL ids l = true → l[i]? = some g → gin ids g = true
  | [], i, g, _, h => by simp at h
  | x :: l, 0, g, h, hg => by simp at hg; subst hg; simp only [ginL, Bool.and_eq_true] at h; exact h.1
  | x :: l, i + 1, g, h, hg => by simp only [ginL, Bool.and_eq_true] at h; exact ginL_get h.2 (by simpa using hg)

section
variable {Im Bw D : Nat → Prop} {ι : Nat → Hd} {w : World}

theorem VI.ren {f : Nat → Nat} {g : GV} {v : Value} (h : VI Im Bw w g v) : VI Im Bw w (ren f g) v := by
  induction h with
  | any v => exact .any v
  | lit v => exact .lit v
  | zl A => exact .zl A
  | ige n m h h2 => exact .ige n m h h2
  | agg cs vs hn hf _ ih =>
    refine .agg _ vs (by rw [renL_length]; exact hn) hf fun i g hg => ?_
    rw [renL_get] at hg
    obtain ⟨x, hx, rfl⟩ := Option.map_eq_some_iff.1 hg
    exact ih i x hx
  | tup cs vs hn _ ih =>
    refine .tup _ vs (by rw [renL_length]; exact hn) fun i g hg => ?_
    rw [renL_get] at hg
    obtain ⟨x, hx, rfl⟩ := Option.map_eq_some_iff.1 hg
    exact ih i x hx
  | sl bw sz xs ex A c V hc hA hs hsz hcell hf hv => exact .sl bw sz xs ex A c V hc hA hs hsz hcell hf hv
  | iadr bw cs ad V hs hcell hf hv => exact .iadr bw cs ad V hs hcell hf hv

theorem VR.ren {f : Nat → Nat} {D' : Nat → Prop} {ι' : Nat → Hd} (hD : ∀ i, D i → D' (f i) ∧ ι' (f i) = ι i) {g : GV} {v : Value} (h : VR Im Bw D ι w g v) : VR Im Bw D' ι' w (ren f g) v := by
  induction h with
  | imm h => exact .imm h.ren
  | agg cs vs hn hf _ ih =>
    refine .agg _ vs (by rw [renL_length]; exact hn) hf fun i g hg => ?_
    rw [renL_get] at hg
    obtain ⟨x, hx, rfl⟩ := Option.map_eq_some_iff.1 hg
    exact ih i x hx
  | tup cs vs hn _ ih =>
    refine .tup _ vs (by rw [renL_length]; exact hn) fun i g hg => ?_
    rw [renL_get] at hg
    obtain ⟨x, hx, rfl⟩ := Option.map_eq_some_iff.1 hg
    exact ih i x hx
  | row id h =>
    obtain ⟨h1, h2⟩ := hD id h
    rw [← h2]; exact .row _ h1
  | sub id lo hi h A c a b c' d e k =>
    obtain ⟨h1, h2⟩ := hD id h
    exact .sub _ lo hi h1 A c a (by rw [h2]; exact b) c' d e (by rw [h2]; exact k)
  | win id lo hi h A a b c' d e k =>
    obtain ⟨h1, h2⟩ := hD id h
    rw [← h2]; exact .win _ lo hi h1 A a (by rw [h2]; exact b) (by rw [h2]; exact c') (by rw [h2]; exact d) e (by rw [h2]; exact k)
  | adr id i j b h hb =>
    obtain ⟨h1, h2⟩ := hD id h
    rw [← h2]; exact .adr _ i j b h1 (by rw [h2]; exact hb)
  | clo n cs vs hn _ ih =>
    refine .clo n _ vs (by rw [renL_length]; exact hn) fun i g hg => ?_
    rw [renL_get] at hg
    obtain ⟨x, hx, rfl⟩ := Option.map_eq_some_iff.1 hg
    exact ih i x hx
  | mref id b h hb =>
    obtain ⟨h1, h2⟩ := hD id h
    exact .mref _ b h1 (by rw [h2]; exact hb)

theorem VR.restrict {ids : List Nat} {g : GV} {v : Value} (h : VR Im Bw D ι w g v) : gin ids g = true → VR Im Bw (· ∈ ids) ι w g v := by
  induction h with
  | imm h => exact fun _ => .imm h
  | agg cs vs hn hf _ ih => exact fun hg => .agg cs vs hn hf fun i g hg' => ih i g hg' (ginL_get (by simpa [gin] using hg) hg')
  | tup cs vs hn _ ih => exact fun hg => .tup cs vs hn fun i g hg' => ih i g hg' (ginL_get (by simpa [gin] using hg) hg')
  | row id h => exact fun hg => .row id (by simpa [gin] using hg)
  | sub id lo hi h A c a b c' d e k => exact fun hg => .sub id lo hi (by simpa [gin] using hg) A c a b c' d e k
  | win id lo hi h A a b c' d e k => exact fun hg => .win id lo hi (by simpa [gin] using hg) A a b c' d e k
  | adr id i j b h hb => exact fun hg => .adr id i j b (by simpa [gin] using hg) hb
  | clo n cs vs hn _ ih => exact fun hg => .clo n cs vs hn fun i g hg' => ih i g hg' (ginL_get (by simpa [gin] using hg) hg')
  | mref id b h hb => exact fun hg => .mref id b (by simpa [gin] using hg) hb

/-- A row, lent out to be read. -/
theorem lend_src {u : Value} {sz : Nat} {ys : List (List GV)} {A : Option Addr} {c : Nat} {news : List Value} (bw : Bool) (hs : Src (VP Im w) w u sz ys A c news)
    (hA : ∀ a, A = some a → a.spot = none) (hc : ys.length ≤ c) {Im' Bw' : Nat → Prop} (hI : ∀ b, Im b → Im' b)
    (hb : ∀ a, A = some a → ys.length ≠ 0 → bif bw then Bw' a.block else Im' a.block) : VI Im' Bw' w (.sl bw sz ys []) u := by
  rw [hs.val]
  have cellOf : ∀ (i j : Nat) x g, (ys ++ [])[i]? = some x → x[j]? = some g → i < ys.length ∧ j < sz ∧ ys[i]? = some x ∧ i * sz + j < news.length := fun i j x g hx hg => by
    rw [List.append_nil] at hx
    have h1 : i < ys.length := (List.getElem?_eq_some_iff.1 hx).1
    have h2 := hs.esz x (List.mem_of_getElem? hx)
    have h3 : j < sz := by rw [← h2]; exact (List.getElem?_eq_some_iff.1 hg).1
    exact ⟨h1, h3, hx, by rw [hs.len]; exact grid_lt h1 h3⟩
  refine .sl bw sz ys [] A c (fun i j => news.getD (i * sz + j) undef) ⟨by simpa using hc, hs.cb⟩ (fun h => (hs.nil h).2) (fun a h => .inl (hA a h)) (fun x hx => hs.esz x (by simpa using hx)) (fun i j x g hx hg => ?_) (fun i j x g hx hg => ?_) (fun i j x g hx hg => ?_)
  · obtain ⟨h1, h2, h3, h4⟩ := cellOf i j x g hx hg
    have e : news.getD (i * sz + j) undef = news[i * sz + j] := by simp [h4]
    obtain ⟨a, ha, hcl⟩ := hs.cell (i * sz + j) news[i * sz + j] (List.getElem?_eq_getElem h4)
    refine ⟨a, ha, hb a ha (by omega), ?_⟩
    rw [e, ← add_addr (hA a ha)]
    exact hcl
  · obtain ⟨h1, h2, h3, h4⟩ := cellOf i j x g hx hg
    have e : news.getD (i * sz + j) undef = news[i * sz + j] := by simp [h4]
    simp only [e]
    exact hs.flt _ (List.getElem_mem h4)
  · obtain ⟨h1, h2, h3, h4⟩ := cellOf i j x g hx hg
    exact (hs.rel i j x g h3 hg).mono hI fun _ _ => rfl

end

/-- An object numbered anew. -/
def renO (f : Nat → Nat) : GO → GO
  | .dead => .dead
  | .cells cs => .cells (renL f cs)
  | .row e sz xs => .row e sz xs
  | .mp k l => .mp k l

def ginO (ids : List Nat) : GO → Bool
  | .dead => true
  | .cells cs => ginL ids cs
  | .row _ _ _ => true
  | .mp _ _ => true

def nobwO : GO → Bool
  | .dead => true
  | .cells cs => nobwL cs
  | .row _ _ _ => true
  | .mp _ _ => true

theorem OR.ren {V V' Vp : GV → Value → Prop} {w : World} {hd : Hd} {o : GO} {f : Nat → Nat} (h : OR V Vp w hd o) (hV : ∀ g v, V g v → V' (ren f g) v) : OR V' Vp w hd (renO f o) := by
  cases o with
  | dead => trivial
  | cells cs =>
    obtain ⟨h0, b, arr, t, h1, h2, h3, h4, h5⟩ := h
    refine ⟨h0, b, arr, t, h1, h2, by rw [renL_length]; exact h3, h4, fun j g hg => ?_⟩
    rw [renL_get] at hg
    obtain ⟨x, hx, rfl⟩ := Option.map_eq_some_iff.1 hg
    exact hV _ _ (h5 j x hx)
  | row e sz xs => exact h
  | mp k l => exact h

/-- What holds of an object's parts. -/
def allO (p : GV → Prop) : GO → Prop
  | .dead => True
  | .cells cs => ∀ (i : Nat) g, cs[i]? = some g → p g
  | .row _ _ _ => True
  | .mp _ _ => True

theorem OR.monoP {V V' Vp Vp' : GV → Value → Prop} {w : World} {hd : Hd} {o : GO} {p : GV → Prop} (h : OR V Vp w hd o) (hp : allO p o) (hV : ∀ g v, p g → V g v → V' g v) (hP : ∀ g v, Vp g v → Vp' g v) : OR V' Vp' w hd o := by
  cases o with
  | dead => trivial
  | cells cs =>
    obtain ⟨h0, b, arr, t, h1, h2, h3, h4, h5⟩ := h
    exact ⟨h0, b, arr, t, h1, h2, h3, h4, fun j g hg => hV _ _ (hp j g hg) (h5 j g hg)⟩
  | row e sz xs =>
    obtain ⟨h0, h1, h2, cs, h3, h4, h5⟩ := h
    exact ⟨h0, h1, h2, cs, h3, h4, fun i j x g hx hg => hP _ _ (h5 i j x g hx hg)⟩
  | mp k l =>
    obtain ⟨b, es, cl, h1, h2, h3, h4⟩ := h
    refine ⟨b, es, cl, h1, h2, h3, fun i e he => ?_⟩
    obtain ⟨m, a, c, d⟩ := h4 i e he
    exact ⟨m, a, c, hP _ _ d⟩

theorem allO_gin {ids : List Nat} {o : GO} (h : ginO ids o = true) : allO (fun g => gin ids g = true) o := by
  cases o with
  | dead => trivial
  | cells cs => exact fun i g hg => ginL_get h hg
  | row e sz xs => trivial
  | mp k l => trivial

theorem allO_nobw {o : GO} (h : nobwO o = true) : allO (fun g => nobw g = true) o := by
  cases o with
  | dead => trivial
  | cells cs => exact fun i g hg => nobwL_get h hg
  | row e sz xs => trivial
  | mp k l => trivial

end Go.Gh


namespace Go.Gh

def getM (M : List GO) : Nat → GO := fun i => M.getD i .dead

/-- The function makes r out of these, and turns objects M into M' (new ones behind the old). -/
structure FS (P : Program) (f : FuncId) (args : List GV) (M : List GO) (r : GV) (M' : List GO) : Prop where
  run : ∀ (Γ : Ctx) (ι : Nat → Hd) (w : World) (as : Array Value), SR Γ (· < M.length) ι (getM M) w → as.size = args.length →
    (∀ (i : Nat) g, args[i]? = some g → VR Γ.Im Γ.Bw (· < M.length) ι w g (as.getD i undef)) →
    Calls P f as w fun e w' => ∃ (v : Value) (Im' : Nat → Prop) (ι' : Nat → Hd), e = .returned v ∧ Keep Γ w w' ∧ (∀ b, Γ.Im b → Im' b) ∧ (∀ i, i < M.length → ι' i = ι i) ∧
      SR ⟨Im', Γ.Bw, Γ.Fz⟩ (· < M'.length) ι' (getM M') w' ∧ VR Im' Γ.Bw (· < M'.length) ι' w' r v

def lend (M : Nat → GO) (ids : List Nat) (g : GV) : Option GV :=
  match g with
  | .row id => if ids.contains id then some (.row (ids.idxOf id)) else match M id with
    | .row _ sz xs => some (.sl true sz xs [])
    | _ => none
  | .sub id lo hi => if ids.contains id then some (.sub (ids.idxOf id) lo hi) else match M id with
    | .row _ sz xs => some (.sl true sz ((xs.drop lo).take (hi - lo)) [])
    | _ => none
  | .adr id i j => if ids.contains id then some (.adr (ids.idxOf id) i j) else match M id with
    | .cells cs => if pureL cs then some (.iadr true (cs.drop j)) else none
    | _ => none
  | g => if gin ids g then some (ren (ids.idxOf ·) g) else none

def lendAll (M : Nat → GO) (ids : List Nat) : List GV → Option (List GV)
  | [] => some []
  | g :: l => (lend M ids g).bind fun x => (lendAll M ids l).map fun r => x :: r

def bor (ids : List Nat) : GV → List Nat
  | .row id => if ids.contains id then [] else [id]
  | .sub id _ _ => if ids.contains id then [] else [id]
  | .adr id _ _ => if ids.contains id then [] else [id]
  | _ => []

def borAll (ids : List Nat) : List GV → List Nat
  | [] => []
  | g :: l => bor ids g ++ borAll ids l

theorem bor_not {ids : List Nat} {g : GV} {id : Nat} (h : id ∈ bor ids g) : id ∉ ids := by
  cases g <;> simp only [bor, List.not_mem_nil] at h
  all_goals
    split at h
    · simp at h
    · rename_i hc
      simp only [List.mem_singleton] at h
      subst h
      simpa using hc

theorem borAll_not {ids : List Nat} {l : List GV} {id : Nat} (h : id ∈ borAll ids l) : id ∉ ids := by
  induction l with
  | nil => simp [borAll] at h
  | cons g l ih =>
    simp only [borAll, List.mem_append] at h
    exact h.elim bor_not ih

theorem bor_mem {ids : List Nat} {l : List GV} {i : Nat} {g : GV} (hg : l[i]? = some g) {id : Nat} (h : id ∈ bor ids g) : id ∈ borAll ids l := by
  induction l generalizing i with
  | nil => simp at hg
  | cons x l ih =>
    simp only [borAll, List.mem_append]
    cases i with
    | zero => simp at hg; subst hg; exact .inl h
    | succ i => exact .inr (ih (by simpa using hg))

theorem lendAll_get {M : Nat → GO} {ids : List Nat} : ∀ {l r : List GV}, lendAll M ids l = some r → r.length = l.length ∧ ∀ (i : Nat) g', r[i]? = some g' → ∃ g, l[i]? = some g ∧ lend M ids g = some g'
  | [], r, h => by simp only [lendAll, Option.some.injEq] at h; subst h; exact ⟨rfl, fun i g' h => by simp at h⟩
  | g :: l, r, h => by
    simp only [lendAll, Option.bind_eq_some_iff, Option.map_eq_some_iff] at h
    obtain ⟨x, hx, r', hr, rfl⟩ := h
    obtain ⟨h1, h2⟩ := lendAll_get hr
    refine ⟨by simp [h1], fun i g' hg => ?_⟩
    cases i with
    | zero => simp at hg; subst hg; exact ⟨g, by simp, hx⟩
    | succ i => obtain ⟨y, h3, h4⟩ := h2 i g' (by simpa using hg); exact ⟨y, by simpa using h3, h4⟩

theorem lend_sound {Γ : Ctx} {D : Nat → Prop} {ι : Nat → Hd} {M M0 : Nat → GO} {w : World} (hS : SR Γ D ι M w) {ids : List Nat} {g g' : GV} {u : Value} (hV : VR Γ.Im Γ.Bw D ι w g u)
    (hM : ∀ id, id ∈ bor ids g → M id = M0 id) (h : lend M0 ids g = some g') {Bw' : Nat → Prop} (hB : ∀ b, Γ.Bw b → Bw' b)
    (hBor : ∀ id b, id ∈ bor ids g → M id ≠ .dead → (ι id).A = some b → Bw' b) {ι' : Nat → Hd} {n : Nat}
    (hι : ∀ i, i ∈ ids → ids.idxOf i < n ∧ ι' (ids.idxOf i) = ι i) : VR Γ.Im Bw' (· < n) ι' w g' u := by
  have gen : gin ids g = true → VR Γ.Im Bw' (· < n) ι' w (ren (ids.idxOf ·) g) u := fun hg =>
    ((hV.restrict hg).ren hι).mono (fun _ h => h) hB (fun _ h => h) (fun _ _ => rfl) (fun _ _ => rfl)
  cases g
  case row id =>
    simp only [lend] at h
    split at h
    · rename_i hc
      cases h
      exact gen (by simpa [gin] using hc)
    · rename_i hc
      have hb : id ∈ bor ids (.row id) := by simp only [bor]; rw [if_neg hc]; simp
      split at h
      · rename_i e sz xs hm
        cases h
        · have ho := hS.obj id
          rw [hM id hb, hm] at ho
          obtain ⟨A, c, news, hs⟩ := src_row hV ho
          obtain ⟨hD, hu⟩ := hV.row_inv
          obtain ⟨_, h1, _, cs, _, _, _, h2⟩ := row_cases ho
          have hval := hs.val
          rw [hu, Hd.val] at hval
          simp only [Value.slice.injEq] at hval
          obtain ⟨hA, _, hc'⟩ := hval
          refine .imm (lend_src true hs (fun a ha => ?_) ?_ (fun _ h => h) fun a ha _ => ?_)
          · rw [← hA] at ha
            cases hA' : (ι id).A with
            | none => simp [hA'] at ha
            | some b => simp [hA'] at ha; subst ha; rfl
          · rcases h2 with ⟨_, h3, h4⟩ | ⟨b, _, h3, _⟩ <;> omega
          · rw [← hA] at ha
            cases hA' : (ι id).A with
            | none => simp [hA'] at ha
            | some b => simp [hA'] at ha; subst ha; exact hBor id b hb (by rw [hM id hb, hm]; simp) hA'
      · cases h
  case sub id lo hi =>
    simp only [lend] at h
    split at h
    · rename_i hc
      cases h
      exact gen (by simpa [gin] using hc)
    · rename_i hc
      have hb : id ∈ bor ids (.sub id lo hi) := by simp only [bor]; rw [if_neg hc]; simp
      split at h
      · rename_i e sz xs hm
        cases h
        · have ho := hS.obj id
          rw [hM id hb, hm] at ho
          obtain ⟨A, c, news, hs⟩ := src_sub hV ho
          obtain ⟨hD, hle, hhi, A', c', hu, hcap, _, hsp, hblk⟩ := hV.sub_inv
          obtain ⟨_, h1, _⟩ := row_cases ho
          have hval := hs.val
          have hlen : ((xs.drop lo).take (hi - lo)).length = hi - lo := by simp; omega
          rw [hu] at hval
          simp only [Value.slice.injEq] at hval
          obtain ⟨rfl, _, rfl⟩ := hval
          refine .imm (lend_src true hs hsp (by omega) (fun _ h => h) fun a ha hne => ?_)
          rw [hlen] at hne
          obtain ⟨b, hb1, hb2⟩ := hblk (by omega)
          rw [ha] at hb2
          simp only [Option.some.injEq] at hb2
          subst hb2
          exact hBor id b hb (by rw [hM id hb, hm]; simp) hb1
      · cases h
  case adr id i j =>
    simp only [lend] at h
    split at h
    · rename_i hc
      cases h
      exact gen (by simpa [gin] using hc)
    · rename_i hc
      have hb : id ∈ bor ids (.adr id i j) := by simp only [bor]; rw [if_neg hc]; simp
      split at h
      · rename_i cs hm
        split at h
        · rename_i hpu
          cases h
          have ho := hS.obj id
          rw [hM id hb, hm] at ho
          obtain ⟨hD, b, hA, rfl⟩ := hV.adr_inv
          obtain ⟨h0, b', arr, t, h1, h2, h3, hf, h4⟩ := ho
          obtain rfl : b' = b := Option.some.inj (h1.symm.trans hA)
          rw [h0, Nat.mul_zero, Nat.zero_add]
          have hlt : ∀ (k : Nat) g, (cs.drop j)[k]? = some g → j + k < arr.size ∧ cs[j + k]? = some g := fun k g hg => by
            rw [List.getElem?_drop] at hg
            exact ⟨by rw [h3]; exact (List.getElem?_eq_some_iff.1 hg).1, hg⟩
          refine .imm (.iadr true _ _ (fun k => arr.getD (j + k) undef) rfl (fun k g hg => ?_) (fun k g hg => ?_) (fun k g hg => ?_))
          · obtain ⟨k1, k2⟩ := hlt k g hg
            refine ⟨hBor id b' hb (by rw [hM id hb, hm]; simp) hA, ?_⟩
            simp [World.cell?, h2, k1]
          · exact hf _ (hlt k g hg).1
          · obtain ⟨k1, k2⟩ := hlt k g hg
            exact (h4 _ g k2).toVP (pureL_get hpu k2).1 (pureL_get hpu k2).2
        · cases h
      · cases h
  all_goals
    simp only [lend] at h
    split at h
    · rename_i hc
      cases h
      exact gen hc
    · cases h

end Go.Gh


namespace Go.Gh

/-- Where the callee's object j stands with the caller. -/
def upN (ids : List Nat) (nb j : Nat) : Nat := if j < ids.length then ids.getD j 0 else nb + (j - ids.length)

def calleeG : GV → Option (FuncId × List GV)
  | .lit (.func (.func f) a b) => if a.size = 0 ∧ b.size = 0 then some (f, []) else none
  | .clo f cs => some (f, cs)
  | _ => none

theorem calleeG_sound {Im Bw D : Nat → Prop} {ι : Nat → Hd} {w : World} {g : GV} {u : Value} {f : FuncId} {cs : List GV} (h : calleeG g = some (f, cs)) (hV : VR Im Bw D ι w g u) :
    ∃ vs : Array Value, u = .func (.func f) #[] vs ∧ vs.size = cs.length ∧ ∀ (i : Nat) g, cs[i]? = some g → VR Im Bw D ι w g (vs.getD i undef) := by
  unfold calleeG at h
  split at h
  · rename_i f' a b
    split at h
    · rename_i hab
      cases h
      have ha : a = #[] := Array.eq_empty_of_size_eq_zero hab.1
      have hb : b = #[] := Array.eq_empty_of_size_eq_zero hab.2
      subst ha; subst hb
      exact ⟨#[], hV.lit_inv, rfl, fun i g hg => by simp at hg⟩
    · cases h
  · cases h
    exact hV.clo_inv
  · cases h

theorem find_zip {ids : List Nat} : ∀ {l : List GO}, ids.Nodup → l.length = ids.length → ∀ {j : Nat} (hj : j < ids.length),
    ((ids.zip l).find? (·.1 == ids[j])).map (·.2) = l[j]? := by
  induction ids with
  | nil => intro l _ _ j hj; simp at hj
  | cons a ids ih =>
    intro l hn hl j hj
    cases l with
    | nil => simp at hl
    | cons x l =>
      simp only [List.nodup_cons] at hn
      cases j with
      | zero => simp
      | succ j =>
        have hj' : j < ids.length := by simpa using hj
        have hne : (a == ids[j]) = false := by
          simp only [beq_eq_false_iff_ne]
          rintro rfl
          exact hn.1 (List.getElem_mem hj')
        simp only [List.zip_cons_cons, List.getElem_cons_succ, List.find?_cons, hne, List.getElem?_cons_succ]
        exact ih hn.2 (by simpa using hl) hj'

theorem find_zip_none {ids : List Nat} {l : List GO} {i : Nat} (h : i ∉ ids) : ((ids.zip l).find? (·.1 == i)).map (·.2) = none := by
  rw [Option.map_eq_none_iff, List.find?_eq_none]
  rintro ⟨a, b⟩ hab
  have := (List.of_mem_zip hab).1
  simp only [beq_iff_eq]
  rintro rfl
  exact h this

theorem os_call {P : Program} {o : Oper} {ρ : Rho} {nb : Nat} {M0 : Nat → GO} {f : FuncId} {fn : Func} {c : Operand} {xs : Array Operand} {ts : Array TypeId} {caps : List GV}
    (hf : P.funcs[f]? = some fn) (hb : fn.body.isSome = true) (hname : (fn.name == "runtime.NumGoroutine") = false)
    (ho : o.op = .call { callee := .value c, args := xs, argTypes := ts }) (hc : calleeG (ρ c) = some (f, caps)) (ids : List Nat) (hnd : ids.Nodup)
    (hlive : ∀ id, id ∈ ids → M0 id ≠ .dead) (hcl : ∀ id, id ∈ ids → ginO ids (M0 id) = true)
    {args : List GV} (hargs : lendAll M0 ids (xs.toList.map ρ ++ caps) = some args) {r : GV} {M' : List GO}
    (hFS : FS P f args (ids.map fun id => renO (ids.idxOf ·) (M0 id)) r M') (hlen : ids.length ≤ M'.length) (hnb : nobw r = true) (hnbM : ∀ o, o ∈ M' → nobwO o = true) :
    OpS P o ρ nb M0 (ids ++ borAll ids (xs.toList.map ρ ++ caps)) (ren (upN ids nb) r) (ids.zip ((M'.take ids.length).map (renO (upN ids nb)))) ((M'.drop ids.length).map (renO (upN ids nb))) := by
  intro Γ D ι M w ac K Q hS hV hM hfr hk
  generalize hbs : borAll ids (xs.toList.map ρ ++ caps) = bs at hM
  have hMi : ∀ id, id ∈ ids → M id = M0 id := fun id h => hM id (by simp [h])
  have hMb : ∀ id, id ∈ bs → M id = M0 id := fun id h => hM id (by simp [h])
  have hDi : ∀ id, id ∈ ids → D id := fun id h => hS.liv id (by rw [hMi id h]; exact hlive id h)
  have hbnot : ∀ id, id ∈ bs → id ∉ ids := fun id h => borAll_not (hbs ▸ h)
  -- the callee, and what is handed to it
  obtain ⟨vs, hcv, hvn, hvr⟩ := calleeG_sound hc (hV c (by simp [ho, Op.operands, Call.operands]))
  let n := ids.length
  let Mc : List GO := ids.map fun id => renO (ids.idxOf ·) (M0 id)
  let ιc : Nat → Hd := fun j => ι (ids.getD j 0)
  let Γc : Ctx := ⟨Γ.Im, fun b => Γ.Bw b ∨ ∃ id, id ∈ bs ∧ M id ≠ .dead ∧ (ι id).A = some b, fun b => Γ.Fz b ∨ ∃ id, M id ≠ .dead ∧ id ∉ ids ∧ id ∉ bs ∧ (ι id).A = some b⟩
  have hMcl : Mc.length = n := by simp [Mc, n]
  have hgetD : ∀ j (hj : j < n), ids.getD j 0 = ids[j] := fun j hj => by have : j < ids.length := hj; simp [this]
  have hgetM : ∀ j (hj : j < n), getM Mc j = renO (ids.idxOf ·) (M0 ids[j]) := fun j hj => by
    have : j < ids.length := hj
    simp [getM, Mc, this]
  have hgetM0 : ∀ j, ¬ j < n → getM Mc j = .dead := fun j hj => by
    have : ¬ j < ids.length := hj
    simp [getM, Mc]
    rw [List.getElem?_eq_none (by omega)]; rfl
  have hidx : ∀ i, i ∈ ids → ids.idxOf i < n ∧ ιc (ids.idxOf i) = ι i := fun i hi => by
    have h1 : ids.idxOf i < ids.length := List.idxOf_lt_length_iff.2 hi
    refine ⟨h1, ?_⟩
    show ι (ids.getD (ids.idxOf i) 0) = ι i
    rw [hgetD _ h1, List.getElem_idxOf]
  have halive : ∀ j, getM Mc j ≠ .dead → ∃ hj : j < n, M ids[j] ≠ .dead := fun j hj => by
    by_cases h : j < n
    · have : j < ids.length := h
      exact ⟨h, by rw [hMi _ (List.getElem_mem _)]; exact hlive _ (List.getElem_mem _)⟩
    · exact absurd (hgetM0 j h) hj
  have hSc : SR Γc (· < Mc.length) ιc (getM Mc) w := by
    rw [hMcl]
    refine ⟨fun j => ?_, fun j hj => (halive j hj).1, fun i j b hi hj ei ej => ?_, ?_, ?_, ?_⟩
    · by_cases hj : j < n
      · have hj' : j < ids.length := hj
        rw [hgetM j hj]
        show OR _ _ w (ι (ids.getD j 0)) _
        rw [hgetD j hj]
        have h0 := hS.obj ids[j]
        rw [hMi _ (List.getElem_mem _)] at h0
        have h1 := h0.monoP (allO_gin (hcl _ (List.getElem_mem _))) (V' := VR Γ.Im Γ.Bw (· ∈ ids) ι w) (fun g v hg hv => hv.restrict hg) fun _ _ h => h
        refine h1.ren fun g v hv => ?_
        exact (hv.ren (D' := (· < n)) (ι' := ιc) hidx).mono (fun _ h => h) (fun _ h => .inl h) (fun _ h => h) (fun _ _ => rfl) (fun _ _ => rfl)
      · rw [hgetM0 j hj]; trivial
    · obtain ⟨hi', h1⟩ := halive i hi
      obtain ⟨hj', h2⟩ := halive j hj
      have ei' : (ι (ids.getD i 0)).A = some b := ei
      have ej' : (ι (ids.getD j 0)).A = some b := ej
      rw [hgetD i hi'] at ei'
      rw [hgetD j hj'] at ej'
      have := hS.inj _ _ b h1 h2 ei' ej'
      exact (List.getElem_inj hnd).1 this
    · rintro b (h | (h | ⟨id, h1, h2, h3⟩) | (h | ⟨id, h2, _, _, h3⟩))
      · exact hS.lt b (.inl h)
      · exact hS.lt b (.inr (.inl h))
      · exact (hS.obj id).lt h2 h3
      · exact hS.lt b (.inr (.inr h))
      · exact (hS.obj id).lt h2 h3
    · intro j b hj ej hh
      obtain ⟨hj', h1⟩ := halive j hj
      have ej' : (ι (ids.getD j 0)).A = some b := ej
      rw [hgetD j hj'] at ej'
      have hmem : ids[j] ∈ ids := List.getElem_mem _
      rcases hh with h | (h | ⟨id, h2, h3, h4⟩) | (h | ⟨id, h3, h2, _, h4⟩)
      · exact hS.own _ b h1 ej' (.inl h)
      · exact hS.own _ b h1 ej' (.inr (.inl h))
      · have := hS.inj _ _ b h1 h3 ej' h4
        exact hbnot id h2 (this ▸ hmem)
      · exact hS.own _ b h1 ej' (.inr (.inr h))
      · have := hS.inj _ _ b h1 h3 ej' h4
        exact h2 (this ▸ hmem)
    · intro b
      refine ⟨?_, ?_, ?_⟩
      · rintro h (h2 | ⟨id, _, h3, h4⟩)
        · exact (hS.dj b).1 h h2
        · exact hS.own id b h3 h4 (.inl h)
      · rintro h (h2 | ⟨id, h3, _, _, h4⟩)
        · exact (hS.dj b).2.1 h h2
        · exact hS.own id b h3 h4 (.inl h)
      · rintro (h | ⟨id, h2, h3, h4⟩) (h5 | ⟨id', h6, h7, h8, h9⟩)
        · exact (hS.dj b).2.2 h h5
        · exact hS.own id' b h6 h9 (.inr (.inl h))
        · exact hS.own id b h3 h4 (.inr (.inr h5))
        · exact h8 (hS.inj id id' b h3 h6 h4 h9 ▸ h2)
  obtain ⟨hal, hag⟩ := lendAll_get hargs
  have hgs : ∀ (i : Nat) g, (xs.toList.map ρ ++ caps)[i]? = some g → VR Γ.Im Γ.Bw D ι w g ((xs.map ac.eval ++ vs).getD i undef) := fun i g hg => by
    by_cases hi : i < xs.size
    · rw [List.getElem?_append_left (by simpa using hi)] at hg
      simp only [List.getElem?_map, Array.getElem?_toList, Option.map_eq_some_iff] at hg
      obtain ⟨x, hx, rfl⟩ := hg
      have : (xs.map ac.eval ++ vs).getD i undef = ac.eval x := by
        rw [Array.getD_eq_getD_getElem?, Array.getElem?_append_left (by simpa using hi)]
        simp [hx]
      rw [this]
      exact hV x (by simp only [ho, Op.operands, Call.operands, Array.mem_append]; exact .inr (Array.mem_of_getElem? hx))
    · rw [List.getElem?_append_right (by simpa using hi)] at hg
      have := hvr _ g hg
      have e : (xs.map ac.eval ++ vs).getD i undef = vs.getD (i - (List.map ρ xs.toList).length) undef := by
        rw [Array.getD_eq_getD_getElem?, Array.getElem?_append_right (by simpa using hi)]
        simp
      rw [e]; exact this
  have hcalls := hFS.run Γc ιc w (xs.map ac.eval ++ vs) hSc (by simp [hal, hvn]) (fun i g' hg' => by
    obtain ⟨g, hg, hl⟩ := hag i g' hg'
    show VR Γ.Im Γc.Bw (· < Mc.length) ιc w g' _
    rw [hMcl]
    exact lend_sound hS (hgs i g hg) (fun id h => hMb id (hbs ▸ bor_mem hg h)) hl (fun _ h => .inl h) (fun id b h1 h2 h3 => .inr ⟨id, hbs ▸ bor_mem hg h1, h2, h3⟩) hidx)
  have hrun : (execOp ac.eval o).run P w = .ok (.enter f (xs.map ac.eval ++ vs)) w := by
    simp only [execOp, ho, resolve, hcv, Deferred.ofValue, invoke, Sem.run_bind, Sem.run_pure, Result.andThen_ok]
    have hn : fn.body ≠ none := by cases h : fn.body <;> simp_all
    have hname' : fn.name ≠ "runtime.NumGoroutine" := by simpa using hname
    simp [callFunc, hf, hname', hn]
  unfold Oper.wp
  rw [hrun]
  refine hcalls.mono ?_
  rintro e w' ⟨v', Im', ιr, rfl, hkp, hIm, hιr, hSr, hVr⟩
  rw [hMcl] at hιr
  show K (ac.put o.dst v') w'
  -- with the caller again
  let k := M'.length - n
  let news : List GO := (M'.drop ids.length).map (renO (upN ids nb))
  let ups : List (Nat × GO) := ids.zip ((M'.take ids.length).map (renO (upN ids nb)))
  let ι' : Nat → Hd := fun i => if nb ≤ i ∧ i < nb + news.length then ιr (n + (i - nb)) else ι i
  have hnl : news.length = M'.length - n := by simp [news, n]
  have hfresh : ∀ i, D i → ¬ (nb ≤ i ∧ i < nb + news.length) := fun i hi h => hfr i h.1 h.2 hi
  have hιold : ∀ i, D i → ι' i = ι i := fun i hi => by simp only [ι']; rw [if_neg (hfresh i hi)]
  have hιnew : ∀ j, n ≤ j → j < M'.length → ι' (nb + (j - n)) = ιr j := fun j h1 h2 => by
    simp only [ι']
    rw [if_pos (by rw [hnl]; omega)]
    congr 1; omega
  have hup1 : ∀ j (hj : j < n), upN ids nb j = ids[j] := fun j hj => by
    unfold upN; rw [if_pos hj]; exact hgetD j hj
  have hup2 : ∀ j, n ≤ j → upN ids nb j = nb + (j - n) := fun j hj => by
    unfold upN; rw [if_neg (by show ¬ j < n; omega)]
  have hupι : ∀ j, j < M'.length → ι' (upN ids nb j) = ιr j := fun j hj => by
    by_cases h : j < n
    · rw [hup1 j h, hιold _ (hDi _ (List.getElem_mem _)), hιr j h]
      show ι ids[j] = ι (ids.getD j 0)
      rw [hgetD j h]
    · rw [hup2 j (by omega)]; exact hιnew j (by omega) hj
  have hupD : ∀ j, j < M'.length → D (upN ids nb j) ∨ (nb ≤ upN ids nb j ∧ upN ids nb j < nb + news.length) := fun j hj => by
    by_cases h : j < n
    · rw [hup1 j h]; exact .inl (hDi _ (List.getElem_mem _))
    · rw [hup2 j (by omega), hnl]; right; omega
  have hups : ∀ j, j < M'.length → updF M ups nb news (upN ids nb j) = renO (upN ids nb) (getM M' j) := fun j hj => by
    have hget : getM M' j = M'[j] := by simp [getM, hj]
    by_cases h : j < n
    · have h' : j < ids.length := h
      rw [hup1 j h, hget]
      unfold updF
      rw [if_neg (hfresh _ (hDi _ (List.getElem_mem _)))]
      rw [find_zip hnd (by simp; omega) h']
      simp [h', hj]
    · rw [hup2 j (by omega), hget]
      unfold updF
      rw [if_pos (by rw [hnl]; omega)]
      have e : nb + (j - n) - nb = j - n := by omega
      have e2 : ids.length + (j - n) = j := by show n + (j - n) = j; omega
      rw [e]
      simp [news, e2, hj]
  have hother : ∀ i, (∀ j, j < M'.length → i ≠ upN ids nb j) → updF M ups nb news i = M i ∧ ι' i = ι i ∧ i ∉ ids := fun i hi => by
    have h1 : ¬ (nb ≤ i ∧ i < nb + news.length) := fun h => by
      rw [hnl] at h
      refine hi (n + (i - nb)) (by omega) ?_
      rw [hup2 _ (by omega)]; omega
    have h2 : i ∉ ids := fun h => by
      obtain ⟨j, hj, rfl⟩ := List.mem_iff_getElem.1 h
      exact hi j (by omega) (hup1 j hj).symm
    refine ⟨?_, by simp only [ι']; rw [if_neg h1], h2⟩
    unfold updF
    rw [if_neg h1, find_zip_none h2]
    rfl
  have hupinj : ∀ i j, i < M'.length → j < M'.length → upN ids nb i = upN ids nb j → i = j := fun i j hi hj e => by
    by_cases h1 : i < n
    · by_cases h2 : j < n
      · rw [hup1 i h1, hup1 j h2] at e
        exact (List.getElem_inj hnd).1 e
      · rw [hup1 i h1, hup2 j (by omega)] at e
        exact (hfresh _ (hDi _ (List.getElem_mem _)) (by rw [e, hnl]; omega)).elim
    · by_cases h2 : j < n
      · rw [hup2 i (by omega), hup1 j h2] at e
        exact (hfresh _ (hDi _ (List.getElem_mem _)) (by rw [← e, hnl]; omega)).elim
      · rw [hup2 i (by omega), hup2 j (by omega)] at e
        omega
  have hdead : ∀ j, renO (upN ids nb) (getM M' j) ≠ .dead → getM M' j ≠ .dead := fun j h h' => by rw [h'] at h; exact h rfl
  have hkeep : Keep Γ w w' := hkp.weaken fun b hb => by
    rcases hb with h | h | h
    · exact .inl h
    · exact .inr (.inl (.inl h))
    · exact .inr (.inr (.inl h))
  have hoth : ∀ i b, M i ≠ .dead → i ∉ ids → (ι i).A = some b → Γc.has b := fun i b h1 h2 h3 => by
    by_cases h : i ∈ bs
    · exact .inr (.inl (.inr ⟨i, h, h1, h3⟩))
    · exact .inr (.inr (.inr ⟨i, h1, h2, h, h3⟩))
  have hrenV : ∀ g v, nobw g = true → VR Im' Γc.Bw (· < M'.length) ιr w' g v →
      VR Im' Γ.Bw (fun i => D i ∨ (nb ≤ i ∧ i < nb + news.length)) ι' w' (ren (upN ids nb) g) v := fun g v hg hv =>
    (hv.nobw (Bw' := Γ.Bw) hg).ren fun j hj => ⟨hupD j hj, hupι j hj⟩
  refine hk Im' ι' v' w' hkeep hIm hιold ?_ (hrenV r v' hnb hVr)
  have class_ : ∀ i, (∃ j, j < M'.length ∧ i = upN ids nb j) ∨ ∀ j, j < M'.length → i ≠ upN ids nb j := fun i => by
    by_cases h : ∃ j, j < M'.length ∧ i = upN ids nb j
    · exact .inl h
    · exact .inr fun j hj e => h ⟨j, hj, e⟩
  refine ⟨fun i => ?_, fun i hi => ?_, fun i j b hi hj ei ej => ?_, fun b hb => ?_, fun i b hi ei => ?_, fun b => ?_⟩
  · rcases class_ i with ⟨j, hj, rfl⟩ | h
    · show OR _ _ w' (ι' (upN ids nb j)) (updF M ups nb news (upN ids nb j))
      rw [hups j hj, hupι j hj]
      have h0 := hSr.obj j
      have hmem : nobwO (getM M' j) = true := by
        have : getM M' j = M'[j] := by simp [getM, hj]
        rw [this]; exact hnbM _ (List.getElem_mem _)
      exact (h0.monoP (allO_nobw hmem) (V' := fun g v => nobw g = true ∧ VR Im' Γc.Bw (· < M'.length) ιr w' g v) (fun g v h1 h2 => ⟨h1, h2⟩) fun _ _ h => h).ren fun g v h => hrenV g v h.1 h.2
    · obtain ⟨h1, h2, h3⟩ := hother i h
      show OR _ _ w' (ι' i) (updF M ups nb news i)
      rw [h1, h2]
      refine (hS.obj i).mono (fun g v hv => hv.mono hIm (fun _ h => h) (fun _ => .inl) hιold fun b hb => ?_) (fun g v hv => hv.mono hIm fun b hb => hkeep.block b (.inl hb)) fun b hd hb => hkp.block b (hoth i b hd h3 hb)
      exact hkeep.block b (hb.elim .inl fun x => .inr (.inl x))
  · rcases class_ i with ⟨j, hj, rfl⟩ | h
    · exact hupD j hj
    · have h1 := (hother i h).1
      exact .inl (hS.liv i (by intro h2; exact hi (by show updF M ups nb news i = _; rw [h1, h2])))
  · have side : ∀ i, updF M ups nb news i ≠ .dead → (ι' i).A = some b → (∃ j, j < M'.length ∧ i = upN ids nb j ∧ getM M' j ≠ .dead ∧ (ιr j).A = some b) ∨
        ((∀ j, j < M'.length → i ≠ upN ids nb j) ∧ M i ≠ .dead ∧ i ∉ ids ∧ (ι i).A = some b) := fun i hi ei => by
      rcases class_ i with ⟨j, hj, rfl⟩ | h
      · rw [hups j hj] at hi
        rw [hupι j hj] at ei
        exact .inl ⟨j, hj, rfl, hdead j hi, ei⟩
      · obtain ⟨h1, h2, h3⟩ := hother i h
        rw [h1] at hi
        rw [h2] at ei
        exact .inr ⟨h, hi, h3, ei⟩
    rcases side i hi ei with ⟨x, h1, rfl, h2, h3⟩ | ⟨h1, h2, h3, h4⟩
    · rcases side j hj ej with ⟨y, h4, rfl, h5, h6⟩ | ⟨h4, h5, h6, h7⟩
      · rw [hSr.inj x y b h2 h5 h3 h6]
      · exact (hSr.own x b h2 h3 (by
          rcases hoth j b h5 h6 h7 with h | h | h
          · exact .inl (hIm b h)
          · exact .inr (.inl h)
          · exact .inr (.inr h))).elim
    · rcases side j hj ej with ⟨y, h5, rfl, h6, h7⟩ | ⟨h5, h6, h7, h8⟩
      · exact (hSr.own y b h6 h7 (by
          rcases hoth i b h2 h3 h4 with h | h | h
          · exact .inl (hIm b h)
          · exact .inr (.inl h)
          · exact .inr (.inr h))).elim
      · exact hS.inj i j b h2 h6 h4 h8
  · refine hSr.lt b ?_
    rcases hb with h | h | h
    · exact .inl h
    · exact .inr (.inl (.inl h))
    · exact .inr (.inr (.inl h))
  · rcases class_ i with ⟨j, hj, rfl⟩ | h
    · have hi' : updF M ups nb news (upN ids nb j) ≠ .dead := hi
      rw [hups j hj] at hi'
      rw [hupι j hj] at ei
      intro hb
      refine hSr.own j b (hdead j hi') ei ?_
      rcases hb with h | h | h
      · exact .inl h
      · exact .inr (.inl (.inl h))
      · exact .inr (.inr (.inl h))
    · obtain ⟨h1, h2, h3⟩ := hother i h
      have hi' : updF M ups nb news i ≠ .dead := hi
      rw [h1] at hi'
      rw [h2] at ei
      rintro (h4 | h4 | h4)
      · rcases hoth i b hi' h3 ei with h5 | h5 | h5
        · exact hS.own i b hi' ei (.inl h5)
        · exact (hSr.dj b).1 h4 h5
        · exact (hSr.dj b).2.1 h4 h5
      · exact hS.own i b hi' ei (.inr (.inl h4))
      · exact hS.own i b hi' ei (.inr (.inr h4))
  · refine ⟨fun h1 h2 => (hSr.dj b).1 h1 (.inl h2), fun h1 h2 => (hSr.dj b).2.1 h1 (.inl h2), (hS.dj b).2.2⟩

end Go.Gh


namespace Go.Gh

def rhoOf (σ : List GV) : Rho
  | .tmp t => σ.getD t .any
  | .const v => .lit v
  | .global _ => .any
  | .func f => .lit (.func (.func f) #[] #[])

def putS (σ : List GV) (d : Option Tmp) (g : GV) : List GV :=
  match d with
  | some t => σ.set t g
  | none => σ

def updL (M : List GO) (ups : List (Nat × GO)) (news : List GO) : List GO :=
  match ups with
  | [] => M ++ news
  | ups => M.mapIdx (fun i o => ((ups.find? (·.1 == i)).map (·.2)).getD o) ++ news

theorem getM_updL (M : List GO) (ups : List (Nat × GO)) (news : List GO) (hu : ∀ x, x ∈ ups → x.1 < M.length) : getM (updL M ups news) = updF (getM M) ups M.length news := by
  have gen : getM (M.mapIdx (fun i o => ((ups.find? (·.1 == i)).map (·.2)).getD o) ++ news) = updF (getM M) ups M.length news := by
    funext i
    unfold updF getM
    by_cases h1 : i < M.length
    · rw [if_neg (by omega), List.getD_eq_getElem?_getD, List.getElem?_append_left (by simpa using h1)]
      simp [h1]
    · by_cases h2 : i < M.length + news.length
      · rw [if_pos (by omega)]
        simp only [List.getD_eq_getElem?_getD]
        rw [List.getElem?_append_right (by simp; omega)]
        simp
      · rw [if_neg (by omega)]
        have : ups.find? (·.1 == i) = none := by
          rw [List.find?_eq_none]
          intro x hx
          have := hu x hx
          simp; omega
        rw [this]
        simp only [List.getD_eq_getElem?_getD]
        rw [List.getElem?_eq_none (by simp; omega), List.getElem?_eq_none (by omega)]
        rfl
  cases ups with
  | nil =>
    rw [← gen]
    have : M.mapIdx (fun i o => (((([] : List (Nat × GO)).find? (·.1 == i)).map (·.2)).getD o)) = M := by
      apply List.ext_getElem?
      intro i
      simp
    rw [this]; rfl
  | cons x l => exact gen

theorem updL_length (M : List GO) (ups : List (Nat × GO)) (news : List GO) : (updL M ups news).length = M.length + news.length := by
  cases ups <;> simp [updL]

/-- What a skipped operation leaves. -/
def gundef : GV := .lit (.tuple #[])

/-- Is this operation wanted? -/
def gwant (ops : Array Oper) (σ : List GV) (o : Oper) : Option Bool :=
  match o.guard with
  | none => some true
  | some (j, want) => match (ops[j]?).bind (·.dst) with
    | some d => match σ[d]? with
      | some (.lit (.bool b)) => some (b == want)
      | some (.lit (.tuple _)) => some false
      | _ => none
    | none => none

/-- What an operation did. -/
structure Rec where
  dst : Option Tmp
  ids : List Nat
  g : GV
  ups : List (Nat × GO)
  nb : Nat
  news : List GO

/-- A region's operations, in the text's order. -/
inductive TR (P : Program) (ops : Array Oper) : List Oper → List GV → List GO → List Rec → List GV → List GO → Prop
  | nil (σ M) : TR P ops [] σ M [] σ M
  | skip {o rest σ M tr σ' M'} (hg : gwant ops σ o = some false) (h : TR P ops rest (putS σ o.dst gundef) M tr σ' M') :
      TR P ops (o :: rest) σ M (⟨o.dst, [], gundef, [], M.length, []⟩ :: tr) σ' M'
  | step {o rest σ M tr σ' M' ids g ups news} (hg : gwant ops σ o = some true) (hs : OpS P o (rhoOf σ) M.length (getM M) ids g ups news)
      (hu : ∀ x, x ∈ ups → x.1 < M.length) (h : TR P ops rest (putS σ o.dst g) (updL M ups news) tr σ' M') :
      TR P ops (o :: rest) σ M (⟨o.dst, ids, g, ups, M.length, news⟩ :: tr) σ' M'

def SL (Γ : Ctx) (D : Nat → Prop) (ι : Nat → Hd) (w : World) (σ : List GV) (a : Act) : Prop :=
  a.tmps.size = σ.length ∧ ∀ (t : Nat) g, σ[t]? = some g → VR Γ.Im Γ.Bw D ι w g (a.tmps.getD t undef)

theorem SL.mono {Γ Γ' : Ctx} {D D' : Nat → Prop} {ι ι' : Nat → Hd} {w w' : World} {σ : List GV} {a : Act} (h : SL Γ D ι w σ a) (hI : ∀ b, Γ.Im b → Γ'.Im b) (hB : ∀ b, Γ.Bw b → Γ'.Bw b) (hD : ∀ i, D i → D' i)
    (hι : ∀ i, D i → ι' i = ι i) (hw : ∀ b, Γ.Im b ∨ Γ.Bw b → w'.heap[b]? = w.heap[b]?) : SL Γ' D' ι' w' σ a :=
  ⟨h.1, fun t g hg => (h.2 t g hg).mono hI hB hD hι hw⟩

theorem SL.eval {Γ : Ctx} {D : Nat → Prop} {ι : Nat → Hd} {w : World} {σ : List GV} {a : Act} (h : SL Γ D ι w σ a) (x : Operand) : VR Γ.Im Γ.Bw D ι w (rhoOf σ x) (a.eval x) := by
  cases x with
  | tmp t =>
    show VR _ _ _ _ _ (σ.getD t .any) (a.tmps.getD t undef)
    by_cases ht : t < σ.length
    · have : σ.getD t .any = σ[t] := by simp [ht]
      rw [this]
      exact h.2 t _ (List.getElem?_eq_getElem ht)
    · have : σ.getD t .any = .any := by rw [List.getD_eq_getElem?_getD, List.getElem?_eq_none (Nat.le_of_not_lt ht)]; rfl
      rw [this]
      exact .imm (.any _)
  | const v => exact .litv v
  | global g => exact .imm (.any _)
  | func f => exact .litv _

theorem SL.put {Γ : Ctx} {D : Nat → Prop} {ι : Nat → Hd} {w : World} {σ : List GV} {a : Act} (h : SL Γ D ι w σ a) (d : Option Tmp) {g : GV} {v : Value} (hv : VR Γ.Im Γ.Bw D ι w g v) : SL Γ D ι w (putS σ d g) (a.put d v) := by
  cases d with
  | none => exact h
  | some t =>
    refine ⟨by simp [Act.put, putS, h.1], fun t' g' hg => ?_⟩
    simp only [putS] at hg
    by_cases e : t = t'
    · subst e
      by_cases ht : t < σ.length
      · rw [List.getElem?_set_self ht] at hg
        cases hg
        have ht' : t < a.tmps.size := by rw [h.1]; exact ht
        have : (a.put (some t) v).tmps.getD t undef = v := by simp [Act.put, ht']
        rw [this]; exact hv
      · rw [List.getElem?_eq_none (by rw [List.length_set]; exact Nat.le_of_not_lt ht)] at hg; cases hg
    · rw [List.getElem?_set_ne e] at hg
      have : (a.put (some t) v).tmps.getD t' undef = a.tmps.getD t' undef := by
        simp only [Act.put, Array.getD_eq_getD_getElem?]
        rw [Array.getElem?_setIfInBounds_ne e]
      rw [this]; exact h.2 t' g' hg

theorem gwant_sound {ops : Array Oper} {σ : List GV} {o : Oper} {b : Bool} {Γ : Ctx} {D : Nat → Prop} {ι : Nat → Hd} {w : World} {a : Act} (h : gwant ops σ o = some b) (hs : SL Γ D ι w σ a) :
    Region.wanted o (yielded ops a.tmps) = b := by
  unfold gwant at h
  unfold Region.wanted
  split at h
  · rename_i hg
    rw [hg]; cases h; rfl
  · rename_i j want hg
    rw [hg]
    split at h
    · rename_i d hd
      split at h
      · rename_i b' hb
        cases h
        have h1 := (hs.2 d _ hb).lit_inv
        have hlt : d < a.tmps.size := by rw [hs.1]; exact (List.getElem?_eq_some_iff.1 hb).1
        have h2 : a.tmps[d]? = some (.bool b') := by
          rw [Array.getElem?_eq_getElem hlt]
          have e : a.tmps.getD d undef = a.tmps[d] := by simp [hlt]
          rw [← e, h1]
        simp only [yielded, hd, Option.bind_some, h2]
        cases b' <;> cases want <;> rfl
      · rename_i u hb
        cases h
        have h1 := (hs.2 d _ hb).lit_inv
        have hlt : d < a.tmps.size := by rw [hs.1]; exact (List.getElem?_eq_some_iff.1 hb).1
        have h2 : a.tmps[d]? = some (.tuple u) := by
          rw [Array.getElem?_eq_getElem hlt]
          have e : a.tmps.getD d undef = a.tmps[d] := by simp [hlt]
          rw [← e, h1]
        simp only [yielded, hd, Option.bind_some, h2]
        cases want <;> rfl
      · cases h
    · cases h

/-- What a code does, from these slots and objects: it ends so, with these. The first m objects keep their numbers. -/
def CS (P : Program) (m : Nat) (c : Code) (σ : List GV) (M : List GO) (R : Exit → List GV → List GO → Prop) : Prop :=
  ∀ (Γ : Ctx) (ι : Nat → Hd) (w : World) (a : Act) (Q : Exit → Act → World → Prop), m ≤ M.length → SR Γ (· < M.length) ι (getM M) w → SL Γ (· < M.length) ι w σ a → a.defers = [] →
    (∀ (e : Exit) (σ' : List GV) (M' : List GO) (Im' : Nat → Prop) (ι' : Nat → Hd) (w' : World) (a' : Act), R e σ' M' → Keep Γ w w' → (∀ b, Γ.Im b → Im' b) → (∀ i, i < m → ι' i = ι i) → m ≤ M'.length →
      SR ⟨Im', Γ.Bw, Γ.Fz⟩ (· < M'.length) ι' (getM M') w' → SL ⟨Im', Γ.Bw, Γ.Fz⟩ (· < M'.length) ι' w' σ' a' → a'.defers = [] → Q e a' w') → c.wp P Q a w

theorem put_defers {a : Act} {d : Option Tmp} {v : Value} : (a.put d v).defers = a.defers := by cases d <;> rfl

/-- In the text's order. -/
theorem seq_ops {P : Program} {ops : Array Oper} : ∀ {rest : List Oper} {σ : List GV} {M : List GO} {tr : List Rec} {σ' : List GV} {M' : List GO}, TR P ops rest σ M tr σ' M' →
    ∀ (Γ : Ctx) (ι : Nat → Hd) (w : World) (a : Act) (Q : Exit → Act → World → Prop), SR Γ (· < M.length) ι (getM M) w → SL Γ (· < M.length) ι w σ a → a.defers = [] →
    (∀ (Im' : Nat → Prop) (ι' : Nat → Hd) (w' : World) (a' : Act), Keep Γ w w' → (∀ b, Γ.Im b → Im' b) → (∀ i, i < M.length → ι' i = ι i) → M.length ≤ M'.length →
      SR ⟨Im', Γ.Bw, Γ.Fz⟩ (· < M'.length) ι' (getM M') w' → SL ⟨Im', Γ.Bw, Γ.Fz⟩ (· < M'.length) ι' w' σ' a' → a'.defers = [] → Q .normal a' w') → wpList P ops Q rest a w := by
  intro rest σ M tr σ' M' h
  induction h with
  | nil σ M => exact fun Γ ι w a Q hS hL hd hk => hk Γ.Im ι w a (Keep.refl _ _) (fun _ h => h) (fun _ _ => rfl) (Nat.le_refl _) hS hL hd
  | skip hg _ ih =>
    intro Γ ι w a Q hS hL hd hk
    unfold wpList
    rw [if_neg (by rw [gwant_sound hg hL]; simp)]
    exact ih Γ ι w _ Q hS (hL.put _ (.imm (.lit _))) (by rw [put_defers]; exact hd) hk
  | @step o rest σ M tr σ' M' ids g ups news hg hs hu _ ih =>
    intro Γ ι w a Q hS hL hd hk
    unfold wpList
    rw [if_pos (gwant_sound hg hL)]
    refine .inl (hs Γ (· < M.length) ι (getM M) w a _ Q hS (fun x _ => hL.eval x) (fun _ _ => rfl) (fun i h1 _ => by omega) fun Im' ι' v' w' hkp hI hι hS' hV' => ?_)
    have hD : (fun i => i < M.length ∨ (M.length ≤ i ∧ i < M.length + news.length)) = (· < (updL M ups news).length) := by
      funext i; rw [updL_length]; simp only [eq_iff_iff]; omega
    rw [hD, ← getM_updL M ups news hu] at hS'
    rw [hD] at hV'
    have hL' : SL ⟨Im', Γ.Bw, Γ.Fz⟩ (· < (updL M ups news).length) ι' w' (putS σ o.dst g) (a.put o.dst v') :=
      (hL.mono (Γ' := ⟨Im', Γ.Bw, Γ.Fz⟩) (D' := (· < (updL M ups news).length)) hI (fun _ h => h) (fun i hi => by show i < _; rw [updL_length]; have : i < M.length := hi; omega) hι fun b hb => hkp.block b (hb.elim .inl fun x => .inr (.inl x))).put _ hV'
    refine ih ⟨Im', Γ.Bw, Γ.Fz⟩ ι' w' _ Q hS' hL' (by rw [put_defers]; exact hd) fun Im'' ι'' w'' a'' h1 h2 h3 h4 h5 h6 h7 => ?_
    refine hk Im'' ι'' w'' a'' (hkp.trans h1 fun b hb => ?_) (fun b hb => h2 b (hI b hb)) (fun i hi => (h3 i (by rw [updL_length]; omega)).trans (hι i hi)) (by rw [updL_length] at h4; omega) h5 h6 h7
    rcases hb with h | h | h
    · exact .inl (hI b h)
    · exact .inr (.inl h)
    · exact .inr (.inr h)

theorem CS_region {P : Program} {m id : Nat} {ops : Array Oper} {σ σ' : List GV} {M M' : List GO} {tr : List Rec} {R : Exit → List GV → List GO → Prop}
    (h : TR P ops ops.toList σ M tr σ' M') (hR : R .normal σ' M') : CS P m (.region id ops false) σ M R := by
  intro Γ ι w a Q hm hS hL hd hk
  refine wp_region_list (seq_ops h Γ ι w a Q hS hL hd fun Im' ι' w' a' h1 h2 h3 h4 h5 h6 h7 => ?_)
  exact hk .normal σ' M' Im' ι' w' a' hR h1 h2 (fun i hi => h3 i (by omega)) (by omega) h5 h6 h7

end Go.Gh


namespace Go.Gh
section
variable {P : Program} {m : Nat} {σ : List GV} {M : List GO} {R R' : Exit → List GV → List GO → Prop}

theorem CS.mono {c : Code} (h : CS P m c σ M R) (hR : ∀ e σ M, R e σ M → R' e σ M) : CS P m c σ M R' :=
  fun Γ ι w a Q hm hS hL hd hk => h Γ ι w a Q hm hS hL hd fun e σ' M' Im' ι' w' a' hr => hk e σ' M' Im' ι' w' a' (hR e σ' M' hr)

theorem CS_skip (h : R .normal σ M) : CS P m .skip σ M R :=
  fun Γ ι w a _ hm hS hL hd hk => wp_skip (hk .normal σ M Γ.Im ι w a h (Keep.refl _ _) (fun _ h => h) (fun _ _ => rfl) hm hS hL hd)

theorem CS_ret (h : R .ret σ M) : CS P m .ret σ M R :=
  fun Γ ι w a _ hm hS hL hd hk => wp_ret (hk .ret σ M Γ.Im ι w a h (Keep.refl _ _) (fun _ h => h) (fun _ _ => rfl) hm hS hL hd)

theorem CS_exit {id : Nat} (h : R (.exit id) σ M) : CS P m (.exit id) σ M R :=
  fun Γ ι w a _ hm hS hL hd hk => wp_exit (hk (.exit id) σ M Γ.Im ι w a h (Keep.refl _ _) (fun _ h => h) (fun _ _ => rfl) hm hS hL hd)

theorem keep_trans {Γ : Ctx} {Im' : Nat → Prop} {w w' w'' : World} (h1 : Keep Γ w w') (hI : ∀ b, Γ.Im b → Im' b) (h2 : Keep ⟨Im', Γ.Bw, Γ.Fz⟩ w' w'') : Keep Γ w w'' :=
  h1.trans h2 fun b hb => by
    rcases hb with h | h | h
    · exact .inl (hI b h)
    · exact .inr (.inl h)
    · exact .inr (.inr h)

theorem CS_seq {x y : Code} (h : CS P m x σ M fun e σ' M' => match e with | .normal => CS P m y σ' M' R | e => R e σ' M') : CS P m (.seq x y) σ M R := by
  intro Γ ι w a Q hm hS hL hd hk
  refine wp_seq (h Γ ι w a _ hm hS hL hd fun e σ' M' Im' ι' w' a' hr h1 h2 h3 h4 h5 h6 h7 => ?_)
  cases e with
  | normal =>
    refine hr ⟨Im', Γ.Bw, Γ.Fz⟩ ι' w' a' Q h4 h5 h6 h7 fun e σ'' M'' Im'' ι'' w'' a'' k0 k1 k2 k3 k4 k5 k6 k7 => ?_
    exact hk e σ'' M'' Im'' ι'' w'' a'' k0 (keep_trans h1 h2 k1) (fun b hb => k2 b (h2 b hb)) (fun i hi => (k3 i hi).trans (h3 i hi)) k4 k5 k6 k7
  | exit id => exact hk _ σ' M' Im' ι' w' a' hr h1 h2 h3 h4 h5 h6 h7
  | goto l => exact hk _ σ' M' Im' ι' w' a' hr h1 h2 h3 h4 h5 h6 h7
  | ret => exact hk _ σ' M' Im' ι' w' a' hr h1 h2 h3 h4 h5 h6 h7
  | panic ch => exact hk _ σ' M' Im' ι' w' a' hr h1 h2 h3 h4 h5 h6 h7
  | outgrown => exact hk _ σ' M' Im' ι' w' a' hr h1 h2 h3 h4 h5 h6 h7

theorem CS_cond {x : Operand} {t : Bool} {a b : Code} (hx : rhoOf σ x = .lit (.bool t)) (h : CS P m (bif t then a else b) σ M R) : CS P m (.cond x a b) σ M R := by
  intro Γ ι w ac Q hm hS hL hd hk
  have h1 := (hx ▸ hL.eval x).lit_inv
  refine wp_cond h1 ?_
  cases t
  · exact h Γ ι w ac Q hm hS hL hd hk
  · exact h Γ ι w ac Q hm hS hL hd hk

theorem CS_block {id : Nat} {c : Code} (h : CS P m c σ M fun e σ' M' => match e with | .exit id' => if id' = id then R .normal σ' M' else R (.exit id') σ' M' | e => R e σ' M') : CS P m (.block id c) σ M R := by
  intro Γ ι w a Q hm hS hL hd hk
  refine wp_block (h Γ ι w a _ hm hS hL hd fun e σ' M' Im' ι' w' a' hr h1 h2 h3 h4 h5 h6 h7 => ?_)
  cases e with
  | exit id' =>
    simp only [Exit.inBlock]
    split
    · rename_i e
      simp only [e, if_true] at hr
      exact hk _ σ' M' Im' ι' w' a' hr h1 h2 h3 h4 h5 h6 h7
    · rename_i e
      simp only [e, if_false] at hr
      exact hk _ σ' M' Im' ι' w' a' hr h1 h2 h3 h4 h5 h6 h7
  | normal => exact hk _ σ' M' Im' ι' w' a' hr h1 h2 h3 h4 h5 h6 h7
  | goto l => exact hk _ σ' M' Im' ι' w' a' hr h1 h2 h3 h4 h5 h6 h7
  | ret => exact hk _ σ' M' Im' ι' w' a' hr h1 h2 h3 h4 h5 h6 h7
  | panic ch => exact hk _ σ' M' Im' ι' w' a' hr h1 h2 h3 h4 h5 h6 h7
  | outgrown => exact hk _ σ' M' Im' ι' w' a' hr h1 h2 h3 h4 h5 h6 h7

end

/-! Forgetting: only these slots, only these objects, numbered anew. -/

def nslots (keep live : List Nat) (σ : List GV) : List GV :=
  σ.mapIdx fun t g => if live.contains t && gin keep g then ren (keep.idxOf ·) g else .any

def nobjs (keep : List Nat) (M : List GO) : List GO :=
  keep.map fun id => if ginO keep (getM M id) then renO (keep.idxOf ·) (getM M id) else .dead

theorem norm_SR {Γ : Ctx} {ι : Nat → Hd} {M : List GO} {w : World} (hS : SR Γ (· < M.length) ι (getM M) w) {keep : List Nat} (hn : keep.Nodup) :
    SR Γ (· < (nobjs keep M).length) (fun j => ι (keep.getD j 0)) (getM (nobjs keep M)) w := by
  have hlen : (nobjs keep M).length = keep.length := by simp [nobjs]
  have hget : ∀ j, getM (nobjs keep M) j ≠ .dead → ∃ hj : j < keep.length, ginO keep (getM M keep[j]) = true ∧ getM (nobjs keep M) j = renO (keep.idxOf ·) (getM M keep[j]) ∧ getM M keep[j] ≠ .dead := fun j hj => by
    by_cases h : j < keep.length
    · have e : getM (nobjs keep M) j = if ginO keep (getM M keep[j]) then renO (keep.idxOf ·) (getM M keep[j]) else .dead := by
        show (nobjs keep M).getD j .dead = _
        simp [nobjs, h]
      rw [e] at hj
      split at hj
      · rename_i hg
        refine ⟨h, hg, by rw [e, if_pos hg], fun h2 => ?_⟩
        rw [h2] at hj; exact hj rfl
      · exact absurd rfl hj
    · exfalso
      apply hj
      show (nobjs keep M).getD j .dead = _
      rw [List.getD_eq_getElem?_getD, List.getElem?_eq_none (by omega)]; rfl
  have hgd : ∀ j (hj : j < keep.length), keep.getD j 0 = keep[j] := fun j hj => by simp [hj]
  have hidx : ∀ i, i ∈ keep → keep.idxOf i < (nobjs keep M).length ∧ ι (keep.getD (keep.idxOf i) 0) = ι i := fun i hi => by
    have h1 : keep.idxOf i < keep.length := List.idxOf_lt_length_iff.2 hi
    exact ⟨by rw [hlen]; exact h1, by rw [hgd _ h1, List.getElem_idxOf]⟩
  refine ⟨fun j => ?_, fun j hj => ?_, fun i j b hi hj ei ej => ?_, hS.lt, fun j b hj ej => ?_, hS.dj⟩
  · by_cases hd : getM (nobjs keep M) j = .dead
    · rw [hd]; trivial
    · obtain ⟨hj, hg, e, _⟩ := hget j hd
      rw [e, hgd j hj]
      exact ((hS.obj keep[j]).monoP (allO_gin hg) (V' := VR Γ.Im Γ.Bw (· ∈ keep) ι w) (fun g v h1 h2 => h2.restrict h1) fun _ _ h => h).ren fun g v hv => hv.ren hidx
  · rw [hlen]; exact (hget j hj).1
  · obtain ⟨h1, _, _, h2⟩ := hget i hi
    obtain ⟨h3, _, _, h4⟩ := hget j hj
    rw [hgd i h1] at ei
    rw [hgd j h3] at ej
    exact (List.getElem_inj hn).1 (hS.inj _ _ b h2 h4 ei ej)
  · obtain ⟨h1, _, _, h2⟩ := hget j hj
    rw [hgd j h1] at ej
    exact hS.own _ b h2 ej

theorem norm_VR {Im Bw : Nat → Prop} {D : Nat → Prop} {ι : Nat → Hd} {w : World} {keep : List Nat} {g : GV} {v : Value} (h : VR Im Bw D ι w g v) (hg : gin keep g = true) :
    VR Im Bw (· < keep.length) (fun j => ι (keep.getD j 0)) w (ren (keep.idxOf ·) g) v :=
  (h.restrict hg).ren fun i hi => by
    have h1 : keep.idxOf i < keep.length := List.idxOf_lt_length_iff.2 hi
    refine ⟨h1, ?_⟩
    have : keep.getD (keep.idxOf i) 0 = i := by simp [h1, List.getElem_idxOf]
    show ι (keep.getD (keep.idxOf i) 0) = ι i
    rw [this]

theorem norm_SL {Γ : Ctx} {D : Nat → Prop} {ι : Nat → Hd} {w : World} {σ : List GV} {a : Act} (h : SL Γ D ι w σ a) (keep live : List Nat) :
    SL Γ (· < keep.length) (fun j => ι (keep.getD j 0)) w (nslots keep live σ) a := by
  refine ⟨by simp [nslots, h.1], fun t g hg => ?_⟩
  simp only [nslots, List.getElem?_mapIdx, Option.map_eq_some_iff] at hg
  obtain ⟨x, hx, rfl⟩ := hg
  split
  · rename_i hc
    simp only [Bool.and_eq_true] at hc
    exact norm_VR (h.2 t x hx) hc.2
  · exact .imm (.any _)

/-- The first m objects keep their numbers. -/
def pins (m : Nat) (keep : List Nat) : Bool := (List.range m).all fun i => keep[i]? == some i

theorem pins_get {m : Nat} {keep : List Nat} (h : pins m keep = true) {i : Nat} (hi : i < m) : i < keep.length ∧ keep.getD i 0 = i := by
  have := List.all_eq_true.1 h i (by simpa using hi)
  simp only [beq_iff_eq] at this
  exact ⟨(List.getElem?_eq_some_iff.1 this).1, by simp [this]⟩

theorem CS_norm {P : Program} {m : Nat} {c : Code} {σ : List GV} {M : List GO} {R : Exit → List GV → List GO → Prop} (keep live : List Nat) (hn : keep.Nodup) (hp : pins m keep = true)
    (h : CS P m c (nslots keep live σ) (nobjs keep M) R) : CS P m c σ M R := by
  intro Γ ι w a Q hm hS hL hd hk
  have hlen : (nobjs keep M).length = keep.length := by simp [nobjs]
  have hmk : m ≤ keep.length := by
    rcases Nat.eq_zero_or_pos m with h0 | h0
    · omega
    · have := (pins_get hp (i := m - 1) (by omega)).1; omega
  refine h Γ _ w a Q (by omega) (norm_SR hS hn) (by have := norm_SL hL keep live; rw [← hlen] at this; exact this) hd fun e σ' M' Im' ι' w' a' h0 h1 h2 h3 h4 h5 h6 h7 => ?_
  refine hk e σ' M' Im' ι' w' a' h0 h1 h2 (fun i hi => ?_) h4 h5 h6 h7
  rw [h3 i hi]
  show ι (keep.getD i 0) = ι i
  rw [(pins_get hp hi).2]

/-! Loops. -/

/-- At a loop's head. -/
def HeadWp (P : Program) (c : Code) (Q : Exit → Act → World → Prop) (a : Act) (w : World) : Prop :=
  ∀ (b : Frame) (k : List Item) (cs : List Frame), ∃ e a' w', Q e a' w' ∧ Arrives P (lone (b.at a (.code c :: .inLoop c :: k)) cs w) b k cs e a' w'

theorem HeadWp_of {P : Program} {c : Code} {Q : Exit → Act → World → Prop} {a : Act} {w : World} (h : c.wp P (Exit.then (HeadWp P c Q) Q) a w) : HeadWp P c Q a w := by
  intro b k cs
  obtain ⟨e, a₁, w₁, hq, harr⟩ := h b (.inLoop c :: k) cs
  cases e with
  | normal =>
    obtain ⟨e₂, a₂, w₂, hq₂, harr₂⟩ := hq b k cs
    exact ⟨e₂, a₂, w₂, hq₂, .of_steps (Steps.trans harr (.one step_inLoop)) harr₂⟩
  | exit id => exact ⟨_, a₁, w₁, hq, .pass (x := .inLoop c) rfl (fun _ _ => .inl (by simp)) harr⟩
  | goto l => exact ⟨_, a₁, w₁, hq, .pass (x := .inLoop c) rfl (fun _ _ => .inl (by simp)) harr⟩
  | ret => exact ⟨_, a₁, w₁, hq, .pass (x := .inLoop c) rfl (fun _ _ => .inl (by simp)) harr⟩
  | panic ch => exact ⟨_, a₁, w₁, hq, .pass (x := .inLoop c) rfl (fun _ _ => .inl (by simp)) harr⟩
  | outgrown => exact ⟨_, a₁, w₁, hq, .pass (x := .inLoop c) rfl (fun _ _ => .inl (by simp)) harr⟩

theorem wp_loop_head {P : Program} {c : Code} {Q : Exit → Act → World → Prop} {a : Act} {w : World} (h : HeadWp P c Q a w) : (Code.loop c).wp P Q a w := by
  intro b k cs
  obtain ⟨e, a', w', hq, harr⟩ := h b k cs
  exact ⟨e, a', w', hq, .of_steps (.one step_loop) harr⟩

/-- A loop: what holds at each round's head, told by x; each round goes to a lesser x, once what the round made is forgotten. -/
theorem CS_loop {P : Program} {m : Nat} {c : Code} {R : Exit → List GV → List GO → Prop} {X : Type} (inv : X → List GV) (obs : X → List GO) (μ : X → Nat)
    (round : ∀ x, CS P m c (inv x) (obs x) fun e σ' M' => match e with
      | .normal => ∃ x' keep live, μ x' < μ x ∧ keep.Nodup ∧ pins m keep = true ∧ nslots keep live σ' = inv x' ∧ nobjs keep M' = obs x'
      | e => R e σ' M') (x : X) : CS P m (.loop c) (inv x) (obs x) R := by
  intro Γ ι w a Q hm hS hL hd hk
  refine wp_loop_head ?_
  have key : ∀ n x (Γ : Ctx) (ι : Nat → Hd) (w : World) (a : Act), μ x = n → m ≤ (obs x).length → SR Γ (· < (obs x).length) ι (getM (obs x)) w → SL Γ (· < (obs x).length) ι w (inv x) a → a.defers = [] →
      (∀ (e : Exit) (σ' : List GV) (M' : List GO) (Im' : Nat → Prop) (ι' : Nat → Hd) (w' : World) (a' : Act), R e σ' M' → Keep Γ w w' → (∀ b, Γ.Im b → Im' b) → (∀ i, i < m → ι' i = ι i) → m ≤ M'.length →
        SR ⟨Im', Γ.Bw, Γ.Fz⟩ (· < M'.length) ι' (getM M') w' → SL ⟨Im', Γ.Bw, Γ.Fz⟩ (· < M'.length) ι' w' σ' a' → a'.defers = [] → Q e a' w') → HeadWp P c Q a w := by
    intro n
    induction n using Nat.strongRecOn with
    | _ n ih =>
      intro x Γ ι w a hn hm hS hL hd hk
      refine HeadWp_of (round x Γ ι w a _ hm hS hL hd fun e σ' M' Im' ι' w' a' hr h1 h2 h3 h4 h5 h6 h7 => ?_)
      cases e with
      | normal =>
        obtain ⟨x', keep, live, hlt, hnd, hp, hσ, hM⟩ := hr
        have hlen : (nobjs keep M').length = keep.length := by simp [nobjs]
        have hmk : m ≤ keep.length := by
          rcases Nat.eq_zero_or_pos m with h0 | h0
          · omega
          · have := (pins_get hp (i := m - 1) (by omega)).1; omega
        have hS' := norm_SR h5 hnd
        have hL' := norm_SL h6 keep live
        rw [← hlen, hM, hσ] at hL'
        rw [hM] at hS'
        refine ih (μ x') (hn ▸ hlt) x' ⟨Im', Γ.Bw, Γ.Fz⟩ _ w' a' rfl (by rw [← hM, hlen]; exact hmk) hS' hL' h7 fun e σ'' M'' Im'' ι'' w'' a'' k0 k1 k2 k3 k4 k5 k6 k7 => ?_
        refine hk e σ'' M'' Im'' ι'' w'' a'' k0 (keep_trans h1 h2 k1) (fun b hb => k2 b (h2 b hb)) (fun i hi => ?_) k4 k5 k6 k7
        rw [k3 i hi]
        show ι' (keep.getD i 0) = ι i
        rw [(pins_get hp hi).2]
        exact h3 i hi
      | exit id => exact hk _ σ' M' Im' ι' w' a' hr h1 h2 h3 h4 h5 h6 h7
      | goto l => exact hk _ σ' M' Im' ι' w' a' hr h1 h2 h3 h4 h5 h6 h7
      | ret => exact hk _ σ' M' Im' ι' w' a' hr h1 h2 h3 h4 h5 h6 h7
      | panic ch => exact hk _ σ' M' Im' ι' w' a' hr h1 h2 h3 h4 h5 h6 h7
      | outgrown => exact hk _ σ' M' Im' ι' w' a' hr h1 h2 h3 h4 h5 h6 h7
  exact key _ x Γ ι w a rfl hm hS hL hd hk

/-! A function, whole. -/

def gres1 (P : Program) (σ : List GV) (M : List GO) : ResultVar → Option GV
  | .tmp t => some (σ.getD t .any)
  | .cell t ty => match σ.getD t .any with
    | .adr id i j => (cellsAt (getM M id) i).bind fun cs => ldv P ty (cs.drop j)
    | _ => none

def gresL (P : Program) (σ : List GV) (M : List GO) : List ResultVar → Option (List GV)
  | [] => some []
  | r :: l => (gres1 P σ M r).bind fun g => (gresL P σ M l).map fun x => g :: x

def gres (P : Program) (σ : List GV) (M : List GO) (rs : List ResultVar) : Option GV :=
  (gresL P σ M rs).map fun l => match l with | [g] => g | l => .tup l

theorem gres1_sound {P : Program} {Γ : Ctx} {ι : Nat → Hd} {M : List GO} {w : World} {σ : List GV} {a : Act} (hS : SR Γ (· < M.length) ι (getM M) w) (hL : SL Γ (· < M.length) ι w σ a) {r : ResultVar} {g : GV} (h : gres1 P σ M r = some g) :
    ∀ F : ResultVar → Sem Value, (∀ t, F (.tmp t) = pure (a.tmps.getD t undef)) → (∀ b t, F (.cell b t) = do loadVar t (← asAddr (a.tmps.getD b undef))) →
    ∃ v, (F r).run P w = .ok v w ∧ VR Γ.Im Γ.Bw (· < M.length) ι w g v := by
  cases r with
  | tmp t =>
    simp only [gres1, Option.some.injEq] at h
    subst h
    intro F hF _
    exact ⟨_, by rw [hF]; rfl, hL.eval (.tmp t)⟩
  | cell t ty =>
    simp only [gres1] at h
    split at h
    · rename_i id i j hx
      simp only [Option.bind_eq_some_iff] at h
      obtain ⟨cs, hc, hl⟩ := h
      have h0 := hL.eval (.tmp t)
      have e : rhoOf σ (.tmp t) = .adr id i j := hx
      rw [e] at h0
      obtain ⟨hD, b, hb, h1⟩ := h0.adr_inv
      obtain ⟨W, hW⟩ := (hS.obj id).at (fun g v h => .imm h.toVI) hc hb
      obtain ⟨v, hr, hv⟩ := ldv_sound (P := P) (ad := ⟨b, i * (ι id).sz + j, none⟩) rfl (fun k => W (j + k)) (fun k g hg => by
        rw [List.getElem?_drop] at hg
        have := hW (j + k) g hg
        simpa [Nat.add_assoc] using this) hl
      have h1' : a.tmps.getD t undef = .pointer (some ⟨b, i * (ι id).sz + j, none⟩) := h1
      intro F _ hF
      exact ⟨v, by rw [hF]; simp only [Sem.run_bind, h1', asAddr, Sem.run_pure, Result.andThen_ok, hr], hv⟩
    · cases h

theorem gresL_sound {P : Program} {Γ : Ctx} {ι : Nat → Hd} {M : List GO} {w : World} {σ : List GV} {a : Act} (hS : SR Γ (· < M.length) ι (getM M) w) (hL : SL Γ (· < M.length) ι w σ a) (F : ResultVar → Sem Value)
    (hF1 : ∀ t, F (.tmp t) = pure (a.tmps.getD t undef)) (hF2 : ∀ b t, F (.cell b t) = do loadVar t (← asAddr (a.tmps.getD b undef))) :
    ∀ (rs : List ResultVar) (gs : List GV), gresL P σ M rs = some gs →
    ∃ vs : List Value, (rs.mapM (m := Sem) F).run P w = .ok vs w ∧ vs.length = gs.length ∧ ∀ (i : Nat) g, gs[i]? = some g → VR Γ.Im Γ.Bw (· < M.length) ι w g (vs.getD i undef)
  | [], gs, h => by
    simp only [gresL, Option.some.injEq] at h
    subst h
    exact ⟨[], by simp, rfl, fun i g hg => by simp at hg⟩
  | r :: rs, gs, h => by
    simp only [gresL, Option.bind_eq_some_iff, Option.map_eq_some_iff] at h
    obtain ⟨g, hg, gs', hgs, rfl⟩ := h
    obtain ⟨v, hv, hr⟩ := gres1_sound hS hL hg F hF1 hF2
    obtain ⟨vs, h1, h2, h3⟩ := gresL_sound hS hL F hF1 hF2 rs gs' hgs
    refine ⟨v :: vs, ?_, by simp [h2], fun i g hg => ?_⟩
    · rw [List.mapM_cons]
      simp only [Sem.run_bind, Sem.run_pure]
      rw [hv]
      simp only [Result.andThen_ok, h1]
    · cases i with
      | zero => simp at hg; subst hg; exact hr
      | succ i => exact h3 i g (by simpa using hg)

theorem gres_sound {P : Program} {Γ : Ctx} {ι : Nat → Hd} {M : List GO} {w : World} {σ : List GV} {a : Act} {fn : Func} (hS : SR Γ (· < M.length) ι (getM M) w) (hL : SL Γ (· < M.length) ι w σ a) {g : GV}
    (h : gres P σ M fn.results.toList = some g) : ∃ v, (results fn a.tmps).run P w = .ok v w ∧ VR Γ.Im Γ.Bw (· < M.length) ι w g v := by
  unfold gres at h
  obtain ⟨gs, hgs, rfl⟩ := Option.map_eq_some_iff.1 h
  obtain ⟨F, hF, hF1, hF2⟩ : ∃ F : ResultVar → Sem Value, results fn a.tmps = (do let vs ← fn.results.mapM F; pure (if h : vs.size = 1 then vs[0] else .tuple vs)) ∧
      (∀ t, F (.tmp t) = pure (a.tmps.getD t undef)) ∧ (∀ b t, F (.cell b t) = do loadVar t (← asAddr (a.tmps.getD b undef))) := ⟨_, rfl, fun _ => rfl, fun _ _ => rfl⟩
  obtain ⟨vs, h1, h2, h3⟩ := gresL_sound hS hL F hF1 hF2 _ _ hgs
  have hm : (fn.results.mapM (m := Sem) F).run P w = .ok vs.toArray w := by
    rw [← Array.toArray_toList (xs := fn.results), List.mapM_toArray]
    simp only [Sem.run_map]
    rw [h1]; rfl
  have hr : (results fn a.tmps).run P w = .ok (if h : vs.toArray.size = 1 then vs.toArray[0] else .tuple vs.toArray) w := by
    rw [hF]
    simp only [Sem.run_bind]
    rw [hm]; rfl
  refine ⟨_, hr, ?_⟩
  by_cases h1 : vs.length = 1
  · have hg1 : gs.length = 1 := by omega
    obtain ⟨g, rfl⟩ := List.length_eq_one_iff.1 hg1
    rw [dif_pos (by simpa using h1)]
    have := h3 0 g (by simp)
    have e : vs.toArray[0]'(by simp; omega) = vs.getD 0 undef := by
      rw [List.getD_eq_getElem?_getD, List.getElem?_eq_getElem (by omega)]; rfl
    rw [e]; exact this
  · rw [dif_neg (by simpa using h1)]
    have : (match gs with | [g] => g | l => GV.tup l) = .tup gs := by
      cases gs with
      | nil => rfl
      | cons x l =>
        cases l with
        | nil => exact absurd h2 h1
        | cons y l => rfl
    rw [this]
    exact .tup gs _ (by simpa using h2) fun i g hg => by
      have := h3 i g hg
      simpa using this

theorem FS_enter {P : Program} {f : FuncId} {fn : Func} {c : Code} {args : List GV} {M : List GO} {r : GV} {M' : List GO} (hf : P.funcs[f]? = some fn) (hb : fn.body = some c)
    (h : CS P M.length c (args ++ List.replicate (fn.ntmps - args.length) .any) M fun e σ' M1 => (e = .normal ∨ e = .ret) ∧
      ∃ g keep, gres P σ' M1 fn.results.toList = some g ∧ keep.Nodup ∧ pins M.length keep = true ∧ gin keep g = true ∧ r = ren (keep.idxOf ·) g ∧ M' = nobjs keep M1) : FS P f args M r M' := by
  constructor
  intro Γ ι w as hS hn hV
  refine calls_of_wp hf hb (h Γ ι w _ _ (Nat.le_refl _) hS ⟨by simp [hn], fun t g hg => ?_⟩ rfl fun e σ' M1 Im' ι' w' a' hR h1 h2 h3 h4 h5 h6 h7 => ?_)
  · by_cases ht : t < args.length
    · rw [List.getElem?_append_left ht] at hg
      have e : (as ++ Array.replicate (fn.ntmps - as.size) undef).getD t undef = as.getD t undef := by
        rw [Array.getD_eq_getD_getElem?, Array.getElem?_append_left (by omega)]
        simp
      show VR _ _ _ _ _ g ((as ++ Array.replicate (fn.ntmps - as.size) undef).getD t undef)
      rw [e]
      exact hV t g hg
    · rw [List.getElem?_append_right (Nat.le_of_not_lt ht), List.getElem?_replicate] at hg
      split at hg
      · cases hg; exact .imm (.any _)
      · cases hg
  · obtain ⟨he, g, keep, hg, hnd, hp, hgin, rfl, rfl⟩ := hR
    obtain ⟨v, hr, hv⟩ := gres_sound (fn := fn) h5 h6 hg
    have hlen : (nobjs keep M1).length = keep.length := by simp [nobjs]
    have fin : ∃ v', (results fn a'.tmps).run P w' = .ok v' w' ∧ (∃ (v : Value) (Im' : Nat → Prop) (ι' : Nat → Hd), Ending.returned v' = .returned v ∧ Keep Γ w w' ∧ (∀ b, Γ.Im b → Im' b) ∧ (∀ i, i < M.length → ι' i = ι i) ∧
      SR ⟨Im', Γ.Bw, Γ.Fz⟩ (· < (nobjs keep M1).length) ι' (getM (nobjs keep M1)) w' ∧ VR Im' Γ.Bw (· < (nobjs keep M1).length) ι' w' (ren (keep.idxOf ·) g) v) := by
      refine ⟨v, hr, v, Im', fun j => ι' (keep.getD j 0), rfl, h1, h2, fun i hi => ?_, norm_SR h5 hnd, ?_⟩
      · show ι' (keep.getD i 0) = ι i
        rw [(pins_get hp hi).2]; exact h3 i hi
      · rw [hlen]; exact norm_VR hv hgin
    rcases he with rfl | rfl
    · exact ⟨h7, fin⟩
    · exact ⟨h7, fin⟩

end Go.Gh


namespace Go.Gh

/-! A region whose order is open. -/

def lastW {V : Type} (wr : Rec → Option V) : List Rec → Nat → (Nat → Bool) → V → V
  | [], _, _, x => x
  | r :: tr, k, L, x => lastW wr tr (k + 1) L (if L k then (wr r).getD x else x)

theorem lastW_congr {V : Type} {wr : Rec → Option V} : ∀ {tr : List Rec} {k : Nat} {L L' : Nat → Bool} {x : V},
    (∀ (j : Nat) r, tr[j]? = some r → (wr r).isSome = true → L (k + j) = L' (k + j)) → lastW wr tr k L x = lastW wr tr k L' x
  | [], k, L, L', x, _ => rfl
  | r :: tr, k, L, L', x, h => by
    simp only [lastW]
    have h0 : (if L k then (wr r).getD x else x) = if L' k then (wr r).getD x else x := by
      cases hw : wr r with
      | none => simp
      | some v => have := h 0 r (by simp) (by simp [hw]); rw [Nat.add_zero] at this; rw [this]
    rw [h0]
    exact lastW_congr fun j r' hj hs => by have := h (j + 1) r' (by simpa using hj) hs; rwa [show k + 1 + j = k + (j + 1) by omega]

theorem lastW_off {V : Type} {wr : Rec → Option V} : ∀ {tr : List Rec} {k : Nat} {L : Nat → Bool} {x : V},
    (∀ (j : Nat) r, tr[j]? = some r → (wr r).isSome = true → L (k + j) = false) → lastW wr tr k L x = x
  | [], k, L, x, _ => rfl
  | r :: tr, k, L, x, h => by
    simp only [lastW]
    have h0 : (if L k then (wr r).getD x else x) = x := by
      cases hw : wr r with
      | none => simp
      | some v => have := h 0 r (by simp) (by simp [hw]); rw [Nat.add_zero] at this; simp [this]
    rw [h0]
    exact lastW_off fun j r' hj hs => by have := h (j + 1) r' (by simpa using hj) hs; rwa [show k + 1 + j = k + (j + 1) by omega]

theorem lastW_hit {V : Type} {wr : Rec → Option V} : ∀ {tr : List Rec} {k : Nat} {L : Nat → Bool} {x v : V} {i : Nat} {r : Rec}, tr[i]? = some r → wr r = some v → L (k + i) = true →
    (∀ (j : Nat) r', i < j → tr[j]? = some r' → (wr r').isSome = true → L (k + j) = false) → lastW wr tr k L x = v
  | [], k, L, x, v, i, r, hr, _, _, _ => by simp at hr
  | r0 :: tr, k, L, x, v, 0, r, hr, hw, hL, h => by
    simp at hr; subst hr
    simp only [lastW]
    rw [lastW_off fun j r' hj hs => by have := h (j + 1) r' (by omega) (by simpa using hj) hs; rwa [show k + 1 + j = k + (j + 1) by omega]]
    rw [Nat.add_zero] at hL
    simp [hL, hw]
  | r0 :: tr, k, L, x, v, i + 1, r, hr, hw, hL, h => by
    simp only [lastW]
    exact lastW_hit (i := i) (by simpa using hr) hw (by rwa [show k + 1 + i = k + (i + 1) by omega])
      fun j r' hij hj hs => by have := h (j + 1) r' (by omega) (by simpa using hj) hs; rwa [show k + 1 + j = k + (j + 1) by omega]

def slE : List Rec → Nat → (Nat → Bool) → List GV → List GV
  | [], _, _, s => s
  | r :: tr, k, L, s => slE tr (k + 1) L (if L k then putS s r.dst r.g else s)

def obE : List Rec → Nat → (Nat → Bool) → (Nat → GO) → Nat → GO
  | [], _, _, M => M
  | r :: tr, k, L, M => obE tr (k + 1) L (if L k then updF M r.ups r.nb r.news else M)

def dmE : List Rec → Nat → (Nat → Bool) → (Nat → Prop) → Nat → Prop
  | [], _, _, D => D
  | r :: tr, k, L, D => dmE tr (k + 1) L (if L k then fun i => D i ∨ (r.nb ≤ i ∧ i < r.nb + r.news.length) else D)

def wrS (t : Nat) (r : Rec) : Option GV := if r.dst = some t then some r.g else none

def inW (r : Rec) (id : Nat) : Bool := (decide (r.nb ≤ id) && decide (id < r.nb + r.news.length)) || r.ups.any (·.1 == id)

def valW (r : Rec) (id : Nat) : GO := if r.nb ≤ id ∧ id < r.nb + r.news.length then r.news.getD (id - r.nb) .dead else ((r.ups.find? (·.1 == id)).map (·.2)).getD .dead

def wrO (id : Nat) (r : Rec) : Option GO := if inW r id then some (valW r id) else none

theorem putS_length (s : List GV) (d : Option Tmp) (g : GV) : (putS s d g).length = s.length := by cases d <;> simp [putS]

theorem putS_get (s : List GV) (d : Option Tmp) (g : GV) (t : Nat) (x : GV) (hx : s[t]? = some x) : (putS s d g)[t]? = some (if d = some t then g else x) := by
  have ht : t < s.length := (List.getElem?_eq_some_iff.1 hx).1
  cases d with
  | none => simpa [putS] using hx
  | some d =>
    by_cases e : d = t
    · subst e; simp only [putS, if_true]; exact List.getElem?_set_self ht
    · have : ¬ (some d = some t) := fun h => e (Option.some.inj h)
      simp only [putS, if_neg this]
      rw [List.getElem?_set_ne e]; exact hx

theorem slE_length : ∀ (tr : List Rec) (k : Nat) (L : Nat → Bool) (s : List GV), (slE tr k L s).length = s.length
  | [], _, _, _ => rfl
  | r :: tr, k, L, s => by simp only [slE]; rw [slE_length]; split <;> simp [putS_length]

theorem slE_get : ∀ (tr : List Rec) (k : Nat) (L : Nat → Bool) (s : List GV) (t : Nat) (x : GV), s[t]? = some x → (slE tr k L s)[t]? = some (lastW (wrS t) tr k L x)
  | [], _, _, _, _, _, h => h
  | r :: tr, k, L, s, t, x, h => by
    simp only [slE, lastW]
    refine slE_get tr (k + 1) L _ t _ ?_
    cases hk : L k with
    | false => simpa using h
    | true =>
      simp only [if_true]
      rw [putS_get s r.dst r.g t x h]
      unfold wrS
      split <;> rfl

theorem updF_eq (M : Nat → GO) (r : Rec) (id : Nat) : updF M r.ups r.nb r.news id = (wrO id r).getD (M id) := by
  unfold updF wrO inW valW
  by_cases h : r.nb ≤ id ∧ id < r.nb + r.news.length
  · simp [h]
  · have h' : (decide (r.nb ≤ id) && decide (id < r.nb + r.news.length)) = false := by simpa using h
    rw [if_neg h, h', Bool.false_or]
    cases ha : r.ups.find? (·.1 == id) with
    | none =>
      have : r.ups.any (·.1 == id) = false := by
        rw [List.find?_eq_none] at ha
        rw [Bool.eq_false_iff]
        intro h
        obtain ⟨x, hx, h2⟩ := List.any_eq_true.1 h
        exact ha x hx h2
      simp [this]
    | some x =>
      have : r.ups.any (·.1 == id) = true := List.any_eq_true.2 ⟨x, List.mem_of_find?_eq_some ha, by have := List.find?_some ha; simpa using this⟩
      simp [this, h]

theorem obE_get : ∀ (tr : List Rec) (k : Nat) (L : Nat → Bool) (M : Nat → GO) (id : Nat), obE tr k L M id = lastW (wrO id) tr k L (M id)
  | [], _, _, _, _ => rfl
  | r :: tr, k, L, M, id => by
    simp only [obE, lastW]
    rw [obE_get]
    congr 1
    cases L k with
    | false => rfl
    | true => simp only [if_true]; exact updF_eq M r id

theorem dmE_iff : ∀ (tr : List Rec) (k : Nat) (L : Nat → Bool) (D : Nat → Prop) (id : Nat),
    dmE tr k L D id ↔ D id ∨ ∃ (j : Nat) (r : Rec), tr[j]? = some r ∧ L (k + j) = true ∧ r.nb ≤ id ∧ id < r.nb + r.news.length
  | [], _, _, D, id => by simp [dmE]
  | r :: tr, k, L, D, id => by
    simp only [dmE]
    rw [dmE_iff]
    constructor
    · rintro (h | ⟨j, r', h1, h2, h3⟩)
      · split at h
        · rename_i hk
          rcases h with h | h
          · exact .inl h
          · exact .inr ⟨0, r, by simp, by simpa using hk, h⟩
        · exact .inl h
      · exact .inr ⟨j + 1, r', by simpa using h1, by rwa [show k + (j + 1) = k + 1 + j by omega], h3⟩
    · rintro (h | ⟨j, r', h1, h2, h3⟩)
      · left; split
        · exact .inl h
        · exact h
      · cases j with
        | zero =>
          simp at h1; subst h1
          left; rw [Nat.add_zero] at h2; rw [if_pos h2]; exact .inr h3
        | succ j => exact .inr ⟨j, r', by simpa using h1, by rwa [show k + 1 + j = k + (j + 1) by omega], h3⟩

/-! What is known of a trace. -/

/-- The state ahead of operation i, in the text's order. -/
def slAt (tr : List Rec) (s : List GV) (i : Nat) : List GV := slE tr 0 (fun j => decide (j < i)) s
def obAt (tr : List Rec) (M : Nat → GO) (i : Nat) : Nat → GO := obE tr 0 (fun j => decide (j < i)) M

theorem slE_shift (tr : List Rec) (k : Nat) (L : Nat → Bool) (s : List GV) : slE tr (k + 1) L s = slE tr k (fun j => L (j + 1)) s := by
  induction tr generalizing k s with
  | nil => rfl
  | cons r tr ih => simp only [slE]; rw [ih]

theorem obE_shift (tr : List Rec) (k : Nat) (L : Nat → Bool) (M : Nat → GO) : obE tr (k + 1) L M = obE tr k (fun j => L (j + 1)) M := by
  induction tr generalizing k M with
  | nil => rfl
  | cons r tr ih => simp only [obE]; rw [ih]

theorem slE_none (tr : List Rec) (k : Nat) (s : List GV) : slE tr k (fun _ => false) s = s := by
  induction tr generalizing k s with
  | nil => rfl
  | cons r tr ih => simp only [slE]; simpa using ih (k + 1) s

theorem obE_none (tr : List Rec) (k : Nat) (M : Nat → GO) : obE tr k (fun _ => false) M = M := by
  induction tr generalizing k M with
  | nil => rfl
  | cons r tr ih => simp only [obE]; simpa using ih (k + 1) M

theorem slAt_cons (r : Rec) (tr : List Rec) (s : List GV) (i : Nat) : slAt (r :: tr) s (i + 1) = slAt tr (putS s r.dst r.g) i := by
  unfold slAt
  simp only [slE]
  rw [slE_shift]
  simp
theorem obAt_cons (r : Rec) (tr : List Rec) (M : Nat → GO) (i : Nat) : obAt (r :: tr) M (i + 1) = obAt tr (updF M r.ups r.nb r.news) i := by
  unfold obAt
  simp only [obE]
  rw [obE_shift]
  simp
theorem slAt_zero (tr : List Rec) (s : List GV) : slAt tr s 0 = s := by unfold slAt; simpa using slE_none tr 0 s
theorem obAt_zero (tr : List Rec) (M : Nat → GO) : obAt tr M 0 = M := by unfold obAt; simpa using obE_none tr 0 M

/-- Each operation, and what it did, from the state ahead of it. -/
def RecOk (P : Program) (ops : Array Oper) (o : Oper) (r : Rec) (σ : List GV) (M : Nat → GO) : Prop :=
  r.dst = o.dst ∧ ((gwant ops σ o = some false ∧ r.g = gundef ∧ r.ups = [] ∧ r.news = [] ∧ r.ids = []) ∨ (gwant ops σ o = some true ∧ OpS P o (rhoOf σ) r.nb M r.ids r.g r.ups r.news))

theorem TR.recs {P : Program} {ops : Array Oper} {l : List Oper} {σ σ' : List GV} {M M' : List GO} {tr : List Rec} (h : TR P ops l σ M tr σ' M') :
    tr.length = l.length ∧ (∀ (i : Nat) o r, l[i]? = some o → tr[i]? = some r → RecOk P ops o r (slAt tr σ i) (obAt tr (getM M) i) ∧ M.length ≤ r.nb ∧ r.nb + r.news.length ≤ M'.length) ∧
      (∀ (i j : Nat) r r', i < j → tr[i]? = some r → tr[j]? = some r' → r.nb + r.news.length ≤ r'.nb) ∧
      slAt tr σ tr.length = σ' ∧ obAt tr (getM M) tr.length = getM M' ∧ M.length ≤ M'.length ∧
      (∀ id, id < M'.length → id < M.length ∨ ∃ (j : Nat) (r : Rec), tr[j]? = some r ∧ r.nb ≤ id ∧ id < r.nb + r.news.length) := by
  induction h with
  | nil σ M => exact ⟨rfl, fun i o r h => by simp at h, fun i j r r' _ h => by simp at h, slAt_zero [] σ, obAt_zero [] _, Nat.le_refl _, fun id h => .inl h⟩
  | @skip o rest σ M tr σ' M' hg _ ih =>
    obtain ⟨h1, h2, h3, h4, h5, h6, h7⟩ := ih
    have hu : updF (getM M) [] M.length [] = getM M := updF_nil _ _
    refine ⟨by simp [h1], fun i o' r ho hr => ?_, fun i j r r' hij hr hr' => ?_, ?_, ?_, h6, fun id hid => ?_⟩
    · cases i with
      | zero =>
        simp at ho hr; subst ho; subst hr
        rw [slAt_zero, obAt_zero]
        exact ⟨⟨rfl, .inl ⟨hg, rfl, rfl, rfl, rfl⟩⟩, Nat.le_refl _, by simpa using h6⟩
      | succ i =>
        have := h2 i o' r (by simpa using ho) (by simpa using hr)
        rw [slAt_cons, obAt_cons]
        simp only [hu]
        exact this
    · cases j with
      | zero => omega
      | succ j =>
        have hr'' : tr[j]? = some r' := by simpa using hr'
        cases i with
        | zero =>
          simp at hr; subst hr
          have hj : j < rest.length := by rw [← h1]; exact (List.getElem?_eq_some_iff.1 hr'').1
          simpa using (h2 j _ r' (List.getElem?_eq_getElem hj) hr'').2.1
        | succ i => exact h3 i j r r' (by omega) (by simpa using hr) hr''
    · rw [List.length_cons, slAt_cons]; exact h4
    · rw [List.length_cons, obAt_cons]; simp only [hu]; exact h5
    · rcases h7 id hid with h | ⟨j, r, h8, h9⟩
      · exact .inl h
      · exact .inr ⟨j + 1, r, by simpa using h8, h9⟩
  | @step o rest σ M tr σ' M' ids g ups news hg hs hu0 _ ih =>
    obtain ⟨h1, h2, h3, h4, h5, h6, h7⟩ := ih
    rw [updL_length] at h6
    have hu : updF (getM M) ups M.length news = getM (updL M ups news) := (getM_updL M ups news hu0).symm
    refine ⟨by simp [h1], fun i o' r ho hr => ?_, fun i j r r' hij hr hr' => ?_, ?_, ?_, by omega, fun id hid => ?_⟩
    · cases i with
      | zero =>
        simp at ho hr; subst ho; subst hr
        rw [slAt_zero, obAt_zero]
        exact ⟨⟨rfl, .inr ⟨hg, hs⟩⟩, Nat.le_refl _, h6⟩
      | succ i =>
        obtain ⟨k1, k2, k3⟩ := h2 i o' r (by simpa using ho) (by simpa using hr)
        rw [slAt_cons, obAt_cons]
        simp only [hu]
        rw [updL_length] at k2
        exact ⟨k1, by omega, k3⟩
    · cases j with
      | zero => omega
      | succ j =>
        have hr'' : tr[j]? = some r' := by simpa using hr'
        cases i with
        | zero =>
          simp at hr; subst hr
          have hj : j < rest.length := by rw [← h1]; exact (List.getElem?_eq_some_iff.1 hr'').1
          have := (h2 j _ r' (List.getElem?_eq_getElem hj) hr'').2.1
          rw [updL_length] at this
          exact this
        | succ i => exact h3 i j r r' (by omega) (by simpa using hr) hr''
    · rw [List.length_cons, slAt_cons]; exact h4
    · rw [List.length_cons, obAt_cons]; simp only [hu]; exact h5
    · rcases h7 id hid with h | ⟨j, r, h8, h9⟩
      · rw [updL_length] at h
        by_cases h' : id < M.length
        · exact .inl h'
        · exact .inr ⟨0, _, List.getElem?_cons_zero, by show M.length ≤ id; omega, h⟩
      · exact .inr ⟨j + 1, r, by simpa using h8, h9⟩

end Go.Gh


namespace Go.Gh

/-! Which operations must wait for which. -/

def befG (acc : List Nat) (o : Oper) : Nat :=
  o.after.toList.foldl (fun s e => if Region.binds .any e then s ||| 2 ^ e.on ||| acc.getD e.on 0 else s) 0

def befs : List Oper → List Nat → List Nat
  | [], acc => acc
  | o :: r, acc => befs r (acc ++ [befG acc o])

def edgesBack (ops : List Oper) : Bool := ops.zipIdx.all fun (o, j) => o.after.toList.all fun e => !Region.binds .any e || decide (e.on < j)

theorem befs_prefix : ∀ (l : List Oper) (acc : List Nat), ∃ r, befs l acc = acc ++ r ∧ r.length = l.length
  | [], acc => ⟨[], by simp [befs], rfl⟩
  | o :: l, acc => by
    obtain ⟨r, h1, h2⟩ := befs_prefix l (acc ++ [befG acc o])
    exact ⟨befG acc o :: r, by simp [befs, h1], by simp [h2]⟩

theorem befs_get : ∀ (l : List Oper) (acc : List Nat) (j : Nat) o, l[j]? = some o → ∃ acc', acc'.length = acc.length + j ∧ (befs l acc)[acc.length + j]? = some (befG acc' o) ∧
    ∀ i, i < acc.length + j → (befs l acc)[i]? = acc'[i]?
  | [], acc, j, o, h => by simp at h
  | x :: l, acc, 0, o, h => by
    simp at h; subst h
    obtain ⟨r, h1, _⟩ := befs_prefix l (acc ++ [befG acc x])
    refine ⟨acc, rfl, ?_, fun i hi => ?_⟩
    · simp [befs, h1]
    · simp only [befs, h1, List.append_assoc]
      rw [List.getElem?_append_left (by omega)]
  | x :: l, acc, j + 1, o, h => by
    obtain ⟨acc', h1, h2, h3⟩ := befs_get l (acc ++ [befG acc x]) j o (by simpa using h)
    simp only [List.length_append, List.length_singleton] at h1 h2 h3
    refine ⟨acc', by omega, ?_, fun i hi => h3 i (by omega)⟩
    rw [show acc.length + (j + 1) = acc.length + 1 + j by omega]
    exact h2

theorem befG_bit {acc : List Nat} {o : Oper} {i : Nat} (h : (befG acc o).testBit i = true) : ∃ e, e ∈ o.after.toList ∧ Region.binds .any e = true ∧ (i = e.on ∨ (acc.getD e.on 0).testBit i = true) := by
  unfold befG at h
  generalize hl : o.after.toList = l at h ⊢
  have gen : ∀ (l : List Edge) (s : Nat), (l.foldl (fun s e => if Region.binds .any e then s ||| 2 ^ e.on ||| acc.getD e.on 0 else s) s).testBit i = true →
      s.testBit i = true ∨ ∃ e, e ∈ l ∧ Region.binds .any e = true ∧ (i = e.on ∨ (acc.getD e.on 0).testBit i = true) := by
    intro l
    induction l with
    | nil => exact fun s h => .inl h
    | cons e l ih =>
      intro s h
      rcases ih _ h with h | ⟨e', h1, h2⟩
      · have h : (if Region.binds .any e then s ||| 2 ^ e.on ||| acc.getD e.on 0 else s).testBit i = true := h
        split at h
        · rename_i hb
          simp only [Nat.testBit_or, Bool.or_eq_true] at h
          rcases h with (h | h) | h
          · exact .inl h
          · rw [Nat.testBit_two_pow] at h
            exact .inr ⟨e, by simp, hb, .inl (by simpa using (of_decide_eq_true h).symm)⟩
          · exact .inr ⟨e, by simp, hb, .inr h⟩
        · exact .inl h
      · exact .inr ⟨e', by simp [h1], h2⟩
  rcases gen l 0 h with h | h
  · simp at h
  · exact h

/-- Operation i comes ahead of j, whatever the order. -/
def ahead (ops : List Oper) (i j : Nat) : Bool := ((befs ops []).getD j 0).testBit i

theorem ahead_step {ops : List Oper} (hb : edgesBack ops = true) {i j : Nat} {o : Oper} (ho : ops[j]? = some o) (h : ahead ops i j = true) :
    ∃ e, e ∈ o.after.toList ∧ Region.binds .any e = true ∧ (i = e.on ∨ ahead ops i e.on = true) := by
  obtain ⟨acc', h1, h2, h3⟩ := befs_get ops [] j o ho
  simp only [List.length_nil, Nat.zero_add] at h1 h2 h3
  unfold ahead at h
  rw [List.getD_eq_getElem?_getD, h2] at h
  obtain ⟨e, he, hbd, hi⟩ := befG_bit h
  refine ⟨e, he, hbd, hi.imp id fun hi => ?_⟩
  have hlt : e.on < j := by
    have hz : ops.zipIdx[j]? = some (o, j) := by simp [List.getElem?_zipIdx, ho]
    have := List.all_eq_true.1 hb (o, j) (List.mem_of_getElem? hz)
    have := List.all_eq_true.1 this e he
    simpa [hbd] using this
  unfold ahead
  rw [List.getD_eq_getElem?_getD, h3 e.on hlt, ← List.getD_eq_getElem?_getD]
  exact hi

/-- The slots that an operation looks at. -/
def readsOf (ops : Array Oper) (o : Oper) : List Nat :=
  (o.op.operands.toList.filterMap fun | .tmp t => some t | _ => none) ++
  (match o.guard with
   | some (g, _) => ((ops[g]?).bind (·.dst)).toList
   | none => [])

/-- May these two not change places? -/
def clash (ops : Array Oper) (o o' : Oper) (r r' : Rec) : Bool :=
  (match r.dst with | some d => (readsOf ops o').contains d | none => false) ||
  (match r'.dst with | some d => (readsOf ops o).contains d | none => false) ||
  (match r.dst, r'.dst with | some d, some d' => d == d' | _, _ => false) ||
  r'.ids.any (inW r) || r.ids.any (inW r') || (r'.ups.any fun x => inW r x.1) || (r.ups.any fun x => inW r' x.1)

/-- Whatever two operations may change places do not see each other. -/
def indep (ops : Array Oper) (tr : List Rec) : Bool :=
  edgesBack ops.toList && (List.range tr.length).all fun j => (List.range j).all fun i =>
    ahead ops.toList i j || !(clash ops (ops.getD i default) (ops.getD j default) (tr.getD i ⟨none, [], .any, [], 0, []⟩) (tr.getD j ⟨none, [], .any, [], 0, []⟩))

end Go.Gh


namespace Go.Gh

theorem rho_congr {σ σ' : List GV} {ops : Array Oper} {o : Oper} (h : ∀ t, t ∈ readsOf ops o → σ[t]? = σ'[t]?) {x : Operand} (hx : x ∈ o.op.operands) : rhoOf σ x = rhoOf σ' x := by
  cases x with
  | tmp t =>
    have : t ∈ readsOf ops o := by
      unfold readsOf
      refine List.mem_append_left _ (List.mem_filterMap.2 ⟨.tmp t, by simpa using hx, rfl⟩)
    show σ.getD t .any = σ'.getD t .any
    rw [List.getD_eq_getElem?_getD, List.getD_eq_getElem?_getD, h t this]
  | const v => rfl
  | global g => rfl
  | func f => rfl

theorem gwant_congr {σ σ' : List GV} {ops : Array Oper} {o : Oper} (h : ∀ t, t ∈ readsOf ops o → σ[t]? = σ'[t]?) : gwant ops σ o = gwant ops σ' o := by
  unfold gwant
  split
  · rfl
  · rename_i j want hg
    split
    · rename_i d hd
      have : d ∈ readsOf ops o := by
        unfold readsOf
        refine List.mem_append_right _ ?_
        rw [hg]
        simp [hd]
      rw [h d this]
    · rfl

theorem obAt_ext {tr : List Rec} {M : Nat → GO} {L : Nat → Bool} {i id : Nat} (h : ∀ (j : Nat) r, tr[j]? = some r → inW r id = true → L j = decide (j < i)) : obE tr 0 L M id = obAt tr M i id := by
  unfold obAt
  rw [obE_get, obE_get]
  refine lastW_congr fun j r hr hs => ?_
  rw [Nat.zero_add]
  refine h j r hr ?_
  unfold wrO at hs
  split at hs
  · assumption
  · simp at hs

theorem slAt_ext {tr : List Rec} {s : List GV} {L : Nat → Bool} {i t : Nat} (h : ∀ (j : Nat) r, tr[j]? = some r → r.dst = some t → L j = decide (j < i)) : (slE tr 0 L s)[t]? = (slAt tr s i)[t]? := by
  unfold slAt
  by_cases ht : t < s.length
  · have hx := List.getElem?_eq_getElem ht
    rw [slE_get tr 0 _ s t _ hx, slE_get tr 0 _ s t _ hx]
    congr 1
    refine lastW_congr fun j r hr hs => ?_
    rw [Nat.zero_add]
    refine h j r hr ?_
    unfold wrS at hs
    split at hs
    · assumption
    · simp at hs
  · rw [List.getElem?_eq_none (by rw [slE_length]; omega), List.getElem?_eq_none (by rw [slE_length]; omega)]

/-- The facts about a region that its walk needs. -/
structure Reg (P : Program) (ops : Array Oper) (tr : List Rec) (s : List GV) (M : List GO) (n : Nat) : Prop where
  len : tr.length = ops.size
  rec_ : ∀ (i : Nat) o r, ops[i]? = some o → tr[i]? = some r → RecOk P ops o r (slAt tr s i) (obAt tr (getM M) i) ∧ M.length ≤ r.nb ∧ r.nb + r.news.length ≤ n
  nbs : ∀ (i j : Nat) r r', i < j → tr[i]? = some r → tr[j]? = some r' → r.nb + r.news.length ≤ r'.nb
  back : edgesBack ops.toList = true
  free : ∀ (i j : Nat) o o' r r', i < j → ops[i]? = some o → ops[j]? = some o' → tr[i]? = some r → tr[j]? = some r' → ahead ops.toList i j = true ∨ clash ops o o' r r' = false

/-- What came up so far: with each all that must come ahead of it. -/
def Closed (ops : Array Oper) (L : Nat → Bool) : Prop := ∀ i j, j < ops.size → L j = true → ahead ops.toList i j = true → L i = true

/-- The listed ones. -/
def ls (l : Array Bool) (j : Nat) : Bool := l.getD j false

theorem any_ops {P : Program} {ops : Array Oper} {tr : List Rec} {s : List GV} {M : List GO} {n : Nat} (hR : Reg P ops tr s M n) {Q : Exit → Act → World → Prop}  {m : Nat} {ι0 : Nat → Hd} {Γ0 : Ctx} {w0 : World}
    (hQ : ∀ (Im' : Nat → Prop) (ι' : Nat → Hd) (w' : World) (a' : Act), Keep Γ0 w0 w' → (∀ b, Γ0.Im b → Im' b) → (∀ i, i < m → ι' i = ι0 i) →
      SR ⟨Im', Γ0.Bw, Γ0.Fz⟩ (dmE tr 0 (fun _ => true) (· < M.length)) ι' (obE tr 0 (fun _ => true) (getM M)) w' →
      SL ⟨Im', Γ0.Bw, Γ0.Fz⟩ (dmE tr 0 (fun _ => true) (· < M.length)) ι' w' (slE tr 0 (fun _ => true) s) a' → a'.defers = [] → Q .normal a' w') (hm : m ≤ M.length) :
    ∀ (fuel : Nat) (l : Array Bool) (Im : Nat → Prop) (ι : Nat → Hd) (a : Act) (w : World), l.size = ops.size → ops.size ≤ fuel + (l.toList.filter id).length → Closed ops (ls l) →
      Keep Γ0 w0 w → (∀ b, Γ0.Im b → Im b) → (∀ i, i < m → ι i = ι0 i) →
      SR ⟨Im, Γ0.Bw, Γ0.Fz⟩ (dmE tr 0 (ls l) (· < M.length)) ι (obE tr 0 (ls l) (getM M)) w → SL ⟨Im, Γ0.Bw, Γ0.Fz⟩ (dmE tr 0 (ls l) (· < M.length)) ι w (slE tr 0 (ls l) s) a → a.defers = [] →
      wpAny P .any ops Q fuel l a w := by
  have full : ∀ (l : Array Bool), l.size = ops.size → (∀ j, j < ops.size → ls l j = true) → slE tr 0 (ls l) s = slE tr 0 (fun _ => true) s ∧ obE tr 0 (ls l) (getM M) = obE tr 0 (fun _ => true) (getM M) ∧
      dmE tr 0 (ls l) (· < M.length) = dmE tr 0 (fun _ => true) (· < M.length) := by
    intro l hl hall
    have hj : ∀ (j : Nat) (r : Rec), tr[j]? = some r → ls l j = true := fun j r h => hall j (by rw [← hR.len]; exact (List.getElem?_eq_some_iff.1 h).1)
    refine ⟨?_, ?_, ?_⟩
    · apply List.ext_getElem?
      intro t
      by_cases ht : t < s.length
      · have hx := List.getElem?_eq_getElem ht
        rw [slE_get tr 0 _ s t _ hx, slE_get tr 0 _ s t _ hx]
        congr 1
        exact lastW_congr fun j r h _ => by rw [Nat.zero_add]; exact hj j r h
      · rw [List.getElem?_eq_none (by rw [slE_length]; omega), List.getElem?_eq_none (by rw [slE_length]; omega)]
    · funext id
      rw [obE_get, obE_get]
      exact lastW_congr fun j r h _ => by rw [Nat.zero_add]; exact hj j r h
    · funext id
      rw [eq_iff_iff, dmE_iff, dmE_iff]
      constructor
      · rintro (h | ⟨j, r, h1, h2, h3⟩)
        · exact .inl h
        · exact .inr ⟨j, r, h1, rfl, h3⟩
      · rintro (h | ⟨j, r, h1, h2, h3⟩)
        · exact .inl h
        · exact .inr ⟨j, r, h1, by rw [Nat.zero_add]; exact hj j r h1, h3⟩
  have notReady : ∀ (l : Array Bool), l.size = ops.size → Region.ready .any ops l = [] → ∀ j, j < ops.size → ls l j = true := by
    intro l hl hr j
    induction j using Nat.strongRecOn with
    | _ j ih =>
      intro hj
      by_cases h : ls l j = true
      · exact h
      · exfalso
        have : j ∈ Region.ready .any ops l := by
          unfold Region.ready
          rw [List.mem_filter]
          refine ⟨by simpa using hj, ?_⟩
          have ho : ops[j]? = some ops[j] := Array.getElem?_eq_getElem hj
          have hf : l.getD j true = false := by
            have h2 : l.getD j false = false := by simpa [ls] using h
            have hjl : j < l.size := by omega
            simpa [hjl] using h2
          rw [hf, ho]
          simp only [Bool.not_false, Bool.true_and, Option.map_some, Option.getD_some]
          rw [← Array.all_toList, List.all_eq_true]
          intro e he
          cases hbe : Region.binds .any e with
          | false => simp
          | true =>
          have hlt : e.on < j := by
            have hz : ops.toList.zipIdx[j]? = some (ops[j], j) := by simp [hj]
            have := List.all_eq_true.1 hR.back (ops[j], j) (List.mem_of_getElem? hz)
            have := List.all_eq_true.1 this e he
            simpa [hbe] using this
          have := ih e.on hlt (by omega)
          have h3 : l.getD e.on false = true := this
          rw [h3]; simp
        rw [hr] at this
        cases this
  intro fuel
  induction fuel with
  | zero =>
    intro l Im ι a w hl hfu hcl hkp hI hι hS hL hd
    have hall : ∀ j, j < ops.size → ls l j = true := by
      have h1 : (l.toList.filter id).length = l.toList.length := by
        have := List.length_filter_le id l.toList
        simp only [Array.length_toList] at *
        omega
      have h2 := List.length_filter_eq_length_iff.1 h1
      intro j hj
      have hjl : j < l.size := by omega
      have := h2 l[j] (by simp)
      simpa [ls, hjl] using this
    refine ⟨?_, ?_⟩
    · unfold Region.ready
      rw [List.filter_eq_nil_iff]
      intro j hj
      have hj' : j < ops.size := by simpa using hj
      have := hall j hj'
      have hjl : j < l.size := by omega
      have h3 : l.getD j true = true := by simpa [ls, hjl] using this
      rw [h3]; simp
    · obtain ⟨e1, e2, e3⟩ := full l hl hall
      rw [e2, e3] at hS
      rw [e1, e3] at hL
      exact hQ Im ι w a hkp hI hι hS hL hd
  | succ fuel ih =>
    intro l Im ι a w hl hfu hcl hkp hI hι hS hL hd
    refine ⟨fun hr => ?_, fun i hi => ?_⟩
    · obtain ⟨e1, e2, e3⟩ := full l hl (notReady l hl hr)
      rw [e2, e3] at hS
      rw [e1, e3] at hL
      exact hQ Im ι w a hkp hI hι hS hL hd
    · unfold Region.ready at hi
      rw [List.mem_filter] at hi
      obtain ⟨hi1, hi2⟩ := hi
      have hin : i < ops.size := by simpa using hi1
      have hil : i < l.size := by omega
      have ho : ops[i]? = some ops[i] := Array.getElem?_eq_getElem hin
      rw [ho] at hi2
      simp only [Option.map_some, Option.getD_some, Bool.and_eq_true, Bool.not_eq_true'] at hi2
      obtain ⟨hnot0, hpre⟩ := hi2
      have hnot : ls l i = false := by simpa [ls, hil] using hnot0
      have hit : i < tr.length := by rw [hR.len]; exact hin
      have hr : tr[i]? = some tr[i] := List.getElem?_eq_getElem hit
      generalize hoo : ops[i] = o at *
      generalize hrr : tr[i] = r at *
      obtain ⟨⟨hdst, hcase⟩, hnb1, hnb2⟩ := hR.rec_ i o r ho hr
      let l' := l.setIfInBounds i true
      have hl' : ∀ j, ls l' j = (decide (j = i) || ls l j) := fun j => by
        simp only [l', ls]
        by_cases e : j = i
        · subst e; simp [hil]
        · simp [e, Array.getElem?_setIfInBounds_ne (Ne.symm e)]
      -- all that must come ahead has come
      have hpreL : ∀ k, ahead ops.toList k i = true → ls l k = true := fun k hk => by
        obtain ⟨e, he, hb, h⟩ := ahead_step hR.back (by simpa using ho) hk
        have h1 := Array.all_eq_true_iff_forall_mem.1 hpre e (by simpa using he)
        simp only [hb, Bool.not_true, Bool.false_or] at h1
        have h1' : ls l e.on = true := h1
        rcases h with rfl | h
        · exact h1'
        · have hlt : e.on < i := by
            have hz : ops.toList.zipIdx[i]? = some (o, i) := by
              rw [List.getElem?_zipIdx]
              have : ops.toList[i]? = some o := by simpa using ho
              rw [this]; simp
            have := List.all_eq_true.1 hR.back (o, i) (List.mem_of_getElem? hz)
            have := List.all_eq_true.1 this e he
            simpa [hb] using this
          exact hcl k e.on (by omega) h1' h
      have hcl' : Closed ops (ls l') := fun k j hj hlj hk => by
        rw [hl'] at hlj ⊢
        by_cases e : j = i
        · subst e
          rw [hpreL k hk]; simp
        · have : ls l j = true := by simpa [e] using hlj
          rw [hcl k j hj this hk]; simp
      -- who of the others may have come, or not, sees nothing of it
      have side : ∀ (j : Nat) (r' : Rec), j ≠ i → tr[j]? = some r' → (ls l j = decide (j < i)) ∨
          (if j < i then clash ops (ops.getD j default) o r' r = false else clash ops o (ops.getD j default) r r' = false) := fun j r' hj hr' => by
        have hjt : j < ops.size := by rw [← hR.len]; exact (List.getElem?_eq_some_iff.1 hr').1
        have hoj : ops[j]? = some ops[j] := Array.getElem?_eq_getElem hjt
        have hgd : ops.getD j default = ops[j] := by simp [hjt]
        rcases Nat.lt_or_gt_of_ne hj with hlt | hgt
        · rw [if_pos hlt, hgd]
          rcases hR.free j i _ _ _ _ hlt hoj ho hr' hr with h | h
          · left; rw [hpreL j h]; simp [hlt]
          · exact .inr h
        · rw [if_neg (by omega), hgd]
          rcases hR.free i j _ _ _ _ hgt ho hoj hr hr' with h | h
          · left
            have : ls l j = false := by
              cases hlj : ls l j with
              | false => rfl
              | true => rw [hcl i j hjt hlj h] at hnot; cases hnot
            rw [this]; simp; omega
          · exact .inr h
      have hself : ∀ (j : Nat) (r' : Rec), tr[j]? = some r' → j = i → ls l j = decide (j < i) := fun j r' _ e => by subst e; rw [hnot]; simp
      have hslot : ∀ t, t ∈ readsOf ops o → (slE tr 0 (ls l) s)[t]? = (slAt tr s i)[t]? := fun t ht => by
        refine slAt_ext fun j r' hr' hd' => ?_
        by_cases e : j = i
        · exact hself j r' hr' e
        · rcases side j r' e hr' with h | h
          · exact h
          · exfalso
            split at h
            · simp only [clash, hd', Bool.or_eq_false_iff] at h
              have := h.1.1.1.1.1.1
              simp [ht] at this
            · simp only [clash, hd', Bool.or_eq_false_iff] at h
              have := h.1.1.1.1.1.2
              simp [ht] at this
      have hobj : ∀ id, id ∈ r.ids → obE tr 0 (ls l) (getM M) id = obAt tr (getM M) i id := fun id hid => by
        refine obAt_ext fun j r' hr' hw => ?_
        by_cases e : j = i
        · exact hself j r' hr' e
        · rcases side j r' e hr' with h | h
          · exact h
          · exfalso
            split at h
            · simp only [clash, Bool.or_eq_false_iff] at h
              have := h.1.1.1.2
              rw [List.any_eq_false] at this
              exact this id hid hw
            · simp only [clash, Bool.or_eq_false_iff] at h
              have := h.1.1.2
              rw [List.any_eq_false] at this
              exact this id hid hw
      have hwant : gwant ops (slE tr 0 (ls l) s) o = gwant ops (slAt tr s i) o := gwant_congr hslot
      have later : ∀ (j : Nat) (r' : Rec), i < j → tr[j]? = some r' → (ls l' j = false) ∨ clash ops o (ops.getD j default) r r' = false := fun j r' hij hr' => by
        rcases side j r' (by omega) hr' with h | h
        · left; rw [hl', h]; simp; omega
        · rw [if_neg (by omega)] at h; exact .inr h
      have other' : ∀ j, j ≠ i → ls l' j = ls l j := fun j hj => by rw [hl']; simp [hj]
      have E1 : slE tr 0 (ls l') s = putS (slE tr 0 (ls l) s) r.dst r.g := by
        apply List.ext_getElem?
        intro t
        by_cases ht : t < s.length
        · have hx := List.getElem?_eq_getElem ht
          rw [slE_get tr 0 _ s t _ hx, putS_get _ _ _ t _ (slE_get tr 0 _ s t _ hx)]
          congr 1
          by_cases hd' : r.dst = some t
          · rw [if_pos hd']
            refine lastW_hit hr (by unfold wrS; rw [if_pos hd']) (by rw [Nat.zero_add, hl']; simp) fun j r' hij hr' hs => ?_
            rw [Nat.zero_add]
            rcases later j r' hij hr' with h | h
            · exact h
            · exfalso
              have hd2 : r'.dst = some t := by
                unfold wrS at hs
                split at hs
                · assumption
                · simp at hs
              simp only [clash, hd', hd2, Bool.or_eq_false_iff] at h
              have := h.1.1.1.1.2
              simp at this
          · rw [if_neg hd']
            refine lastW_congr fun j r' hr' hs => ?_
            rw [Nat.zero_add]
            by_cases e : j = i
            · subst e
              rw [hr] at hr'
              cases hr'
              unfold wrS at hs
              rw [if_neg hd'] at hs
              simp at hs
            · exact other' j e
        · rw [List.getElem?_eq_none (by rw [slE_length]; omega), List.getElem?_eq_none (by rw [putS_length, slE_length]; omega)]
      have E2 : obE tr 0 (ls l') (getM M) = updF (obE tr 0 (ls l) (getM M)) r.ups r.nb r.news := by
        funext id
        rw [updF_eq, obE_get, obE_get]
        cases hw : wrO id r with
        | some v =>
          rw [Option.getD_some]
          have hin' : inW r id = true := by
            unfold wrO at hw
            split at hw
            · assumption
            · cases hw
          refine lastW_hit hr hw (by rw [Nat.zero_add, hl']; simp) fun j r' hij hr' hs => ?_
          rw [Nat.zero_add]
          rcases later j r' hij hr' with h | h
          · exact h
          · exfalso
            have hin2 : inW r' id = true := by
              unfold wrO at hs
              split at hs
              · assumption
              · simp at hs
            have hnbs := hR.nbs i j r r' hij hr hr'
            simp only [clash, Bool.or_eq_false_iff] at h
            have h5 := h.1.2
            have h6 := h.2
            rw [List.any_eq_false] at h5 h6
            unfold inW at hin' hin2
            simp only [Bool.or_eq_true, Bool.and_eq_true, decide_eq_true_eq] at hin' hin2
            rcases hin2 with hin2 | hin2
            · rcases hin' with hin' | hin'
              · omega
              · obtain ⟨x, hx, hxe⟩ := List.any_eq_true.1 hin'
                have := h6 x hx
                simp only [beq_iff_eq] at hxe
                subst hxe
                apply this
                unfold inW
                simp [hin2]
            · obtain ⟨x, hx, hxe⟩ := List.any_eq_true.1 hin2
              have := h5 x hx
              simp only [beq_iff_eq] at hxe
              subst hxe
              apply this
              unfold inW
              rcases hin' with hin' | hin'
              · simp [hin']
              · simp only [Bool.or_eq_true]; exact .inr hin'
        | none =>
          rw [Option.getD_none]
          refine lastW_congr fun j r' hr' hs => ?_
          rw [Nat.zero_add]
          by_cases e : j = i
          · subst e
            rw [hr] at hr'
            cases hr'
            rw [hw] at hs
            simp at hs
          · exact other' j e
      have E3 : dmE tr 0 (ls l') (· < M.length) = fun id => dmE tr 0 (ls l) (· < M.length) id ∨ (r.nb ≤ id ∧ id < r.nb + r.news.length) := by
        funext id
        rw [eq_iff_iff, dmE_iff, dmE_iff]
        constructor
        · rintro (h | ⟨j, r', h1, h2, h3⟩)
          · exact .inl (.inl h)
          · rw [Nat.zero_add] at h2
            by_cases e : j = i
            · subst e
              rw [hr] at h1
              cases h1
              exact .inr h3
            · exact .inl (.inr ⟨j, r', h1, by rw [Nat.zero_add, ← other' j e]; exact h2, h3⟩)
        · rintro ((h | ⟨j, r', h1, h2, h3⟩) | h)
          · exact .inl h
          · refine .inr ⟨j, r', h1, ?_, h3⟩
            rw [Nat.zero_add] at h2 ⊢
            rw [hl', h2]; simp
          · exact .inr ⟨i, r, hr, by rw [Nat.zero_add, hl']; simp, h⟩
      have hcount : ops.size ≤ fuel + (l'.toList.filter id).length := by
        have h1 : (l'.toList.filter id).length = (l.toList.filter id).length + 1 := by
          show ((l.setIfInBounds i true).toList.filter id).length = _
          rw [Array.toList_setIfInBounds]
          have hli : l.toList[i]? = some false := by
            have : l.getD i false = false := hnot
            simp [hil] at this
            simp [hil, this]
          have hsplit : l.toList = l.toList.take i ++ false :: l.toList.drop (i + 1) := by
            have h2 := List.take_append_drop i l.toList
            rw [List.drop_eq_getElem_cons (by simpa using hil)] at h2
            have h3 : l.toList[i]'(by simpa using hil) = false := by
              rw [List.getElem?_eq_getElem (by simpa using hil)] at hli
              exact Option.some.inj hli
            rw [h3] at h2
            exact h2.symm
          have hset : l.toList.set i true = l.toList.take i ++ true :: l.toList.drop (i + 1) := by
            rw [List.set_eq_take_append_cons_drop, if_pos (by simpa using hil)]
          rw [hset]
          conv => rhs; rw [hsplit]
          simp [List.filter_append]
          omega
        omega
      have hl's : l'.size = ops.size := by simp [l', hl]
      have hg0 : gwant ops (slE tr 0 (ls l) s) o = gwant ops (slAt tr s i) o := hwant
      show wpOp P ops Q i (wpAny P .any ops Q fuel l') a w
      unfold wpOp
      rw [ho]
      simp only
      rcases hcase with ⟨hgw, hg1, hg2, hg3, hg4⟩ | ⟨hgw, hop⟩
      · have hw' := gwant_sound (hg0.trans hgw) hL
        rw [if_neg (by rw [hw']; simp)]
        rw [hg1] at E1
        have E2' : obE tr 0 (ls l') (getM M) = obE tr 0 (ls l) (getM M) := by rw [E2, hg2, hg3]; exact updF_nil _ _
        have E3' : dmE tr 0 (ls l') (· < M.length) = dmE tr 0 (ls l) (· < M.length) := by rw [E3, hg3]; exact dom_nil _ _
        refine ih l' Im ι _ w hl's hcount hcl' hkp hI hι ?_ ?_ (by rw [put_defers]; exact hd)
        · rw [E2', E3']; exact hS
        · rw [E1, E3', ← hdst]; exact hL.put _ (.imm (.lit _))
      · have hw' := gwant_sound (hg0.trans hgw) hL
        rw [if_pos hw']
        refine .inl (hop ⟨Im, Γ0.Bw, Γ0.Fz⟩ _ ι (obE tr 0 (ls l) (getM M)) w a _ Q hS (fun x hx => ?_) hobj (fun id h1 h2 h3 => ?_) fun Im' ι' v' w' h1 h2 h3 h4 h5 => ?_)
        · rw [← rho_congr hslot hx]; exact hL.eval x
        · rw [dmE_iff] at h3
          rcases h3 with h3 | ⟨j, r', h4, h5, h6⟩
          · omega
          · rw [Nat.zero_add] at h5
            by_cases e : j = i
            · subst e; rw [hnot] at h5; cases h5
            · rcases Nat.lt_or_gt_of_ne e with hlt | hgt
              · have := hR.nbs j i r' r hlt h4 hr; omega
              · have := hR.nbs i j r r' hgt hr h4; omega
        · have hdle : ∀ id, dmE tr 0 (ls l) (· < M.length) id → dmE tr 0 (ls l') (· < M.length) id := fun id h => by rw [E3]; exact .inl h
          refine ih l' Im' ι' _ w' hl's hcount hcl' (keep_trans hkp hI h1) (fun b hb => h2 b (hI b hb)) (fun k hk => ?_) ?_ ?_ (by rw [put_defers]; exact hd)
          · rw [h3 k (by rw [dmE_iff]; exact .inl (by omega))]; exact hι k hk
          · rw [E2, E3]; exact h4
          · rw [E1, E3, ← hdst]
            exact (hL.mono (Γ' := ⟨Im', Γ0.Bw, Γ0.Fz⟩) h2 (fun _ h => h) (fun id h => .inl h) h3 fun b hb => h1.block b (hb.elim .inl fun x => .inr (.inl x))).put _ h5

theorem CS_draw {P : Program} {m id : Nat} {ops : Array Oper} {σ σ' : List GV} {M M' : List GO} {tr : List Rec} {R : Exit → List GV → List GO → Prop} (hm : P.follows .mixedOrders = true)
    (h : TR P ops ops.toList σ M tr σ' M') (hi : indep ops tr = true) (hR : R .normal σ' M') : CS P m (.region id ops true) σ M R := by
  intro Γ ι w a Q hmM hS hL hd hk
  obtain ⟨h1, h2, h3, h4, h5, h6, h7⟩ := h.recs
  unfold indep at hi
  simp only [Bool.and_eq_true] at hi
  have hlen : tr.length = ops.size := by rw [h1]; simp
  have hreg : Reg P ops tr σ M M'.length := by
    refine ⟨hlen, fun i o r ho hr => h2 i o r (by simpa using ho) hr, h3, hi.1, fun i j o o' r r' hij ho ho' hr hr' => ?_⟩
    have hj : j < tr.length := (List.getElem?_eq_some_iff.1 hr').1
    have e1 := List.all_eq_true.1 hi.2 j (by simpa using hj)
    have e2 := List.all_eq_true.1 e1 i (by simpa using hij)
    have a1 : ops.getD i default = o := by simp [ho]
    have a2 : ops.getD j default = o' := by simp [ho']
    have a3 : tr.getD i ⟨none, [], .any, [], 0, []⟩ = r := by simp [hr]
    have a4 : tr.getD j ⟨none, [], .any, [], 0, []⟩ = r' := by simp [hr']
    rw [a1, a2, a3, a4] at e2
    simpa using e2
  have hall : ∀ (j : Nat) (r : Rec), tr[j]? = some r → (fun _ => true : Nat → Bool) j = decide (j < tr.length) := fun j r hr => by
    simp [(List.getElem?_eq_some_iff.1 hr).1]
  have es : slE tr 0 (fun _ => true) σ = σ' := by
    rw [← h4]
    apply List.ext_getElem?
    intro t
    exact slAt_ext fun j r hr _ => hall j r hr
  have eo : obE tr 0 (fun _ => true) (getM M) = getM M' := by
    rw [← h5]; funext id
    exact obAt_ext fun j r hr _ => hall j r hr
  have ed : dmE tr 0 (fun _ => true) (· < M.length) = (· < M'.length) := by
    funext id
    rw [eq_iff_iff, dmE_iff]
    constructor
    · rintro (h | ⟨j, r, h8, _, h9, h10⟩)
      · omega
      · have hj : j < ops.size := by rw [← hlen]; exact (List.getElem?_eq_some_iff.1 h8).1
        have := (hreg.rec_ j ops[j] r (Array.getElem?_eq_getElem hj) h8).2.2
        omega
    · intro h
      rcases h7 id h with h | ⟨j, r, h8, h9⟩
      · exact .inl h
      · exact .inr ⟨j, r, h8, rfl, h9⟩
  have hls : ∀ j, ls (Array.replicate ops.size false) j = false := fun j => by
    unfold ls
    by_cases hj : j < ops.size <;> simp [hj]
  have hlsf : ls (Array.replicate ops.size false) = fun _ => false := funext hls
  refine wp_region_any hm (any_ops hreg (m := m) (ι0 := ι) (Γ0 := Γ) (w0 := w) (fun Im' ι' w' a' k1 k2 k3 k4 k5 k6 => ?_) hmM ops.size _ Γ.Im ι a _ (by simp) (by omega) ?_ ⟨rfl, rfl, rfl, Nat.le_refl _, fun _ _ => rfl⟩ (fun _ h => h) (fun _ _ => rfl) ?_ ?_ hd)
  · rw [eo, ed] at k4
    rw [es, ed] at k5
    exact hk .normal σ' M' Im' ι' w' a' hR k1 k2 k3 (by omega) k4 k5 k6
  · intro i j _ h; rw [hls] at h; cases h
  · rw [hlsf, obE_none]
    have : dmE tr 0 (fun _ => false) (· < M.length) = (· < M.length) := by
      funext id; rw [eq_iff_iff, dmE_iff]; simp
    rw [this]
    exact hS.heap rfl
  · rw [hlsf, slE_none]
    have : dmE tr 0 (fun _ => false) (· < M.length) = (· < M.length) := by
      funext id; rw [eq_iff_iff, dmE_iff]; simp
    rw [this]
    exact hL.mono (fun _ h => h) (fun _ h => h) (fun _ h => h) (fun _ _ => rfl) (fun _ _ => rfl)

end Go.Gh


namespace Go.Gh

/-! The walk, as rules that go from goal to goal. -/

/-- What is known of a program's types and functions. -/
structure Tab (P : Program) where
  u : Nat → Option TypeDesc
  uok : ∀ t d, u t = some d → P.underlying t = some d
  sz : Nat → Nat
  szok : ∀ t, sz t ≠ 0 → P.cellsOf t = sz t
  bs : Nat → Nat
  bsok : ∀ t, bs t ≠ 0 → P.bytesOf t = bs t
  z : Nat → Option Value
  zok : ∀ t v, z t = some v → zeroOf P t = some v
  eq : Nat → Bool
  eqok : ∀ t, eq t = true → P.eqGuardType P.depth t = false ∧ P.stoodInHeld t = false
  fn : Nat → Bool
  fnok : ∀ f, fn f = true → ∃ c, P.funcs[f]? = some c ∧ c.body.isSome = true ∧ (c.name == "runtime.NumGoroutine") = false
  mixed : P.follows .mixedOrders = true

variable {P : Program}

/-- What is told of an operation's deed, for the order alone. -/
structure RI where
  dst : Option Tmp
  ids : List Nat
  ups : List Nat
  nb : Nat
  nn : Nat

def RI.of (r : Rec) : RI := ⟨r.dst, r.ids, r.ups.map (·.1), r.nb, r.news.length⟩

def inI (r : RI) (id : Nat) : Bool := (decide (r.nb ≤ id) && decide (id < r.nb + r.nn)) || r.ups.any (· == id)

theorem inI_of (r : Rec) (id : Nat) : inI (RI.of r) id = inW r id := by
  unfold inI inW RI.of
  simp [List.any_map, Function.comp_def]

def clashI (ops : Array Oper) (o o' : Oper) (r r' : RI) : Bool :=
  (match r.dst with | some d => (readsOf ops o').contains d | none => false) ||
  (match r'.dst with | some d => (readsOf ops o).contains d | none => false) ||
  (match r.dst, r'.dst with | some d, some d' => d == d' | _, _ => false) ||
  r'.ids.any (inI r) || r.ids.any (inI r') || (r'.ups.any (inI r)) || (r.ups.any (inI r'))

theorem clashI_of (ops : Array Oper) (o o' : Oper) (r r' : Rec) : clashI ops o o' (RI.of r) (RI.of r') = clash ops o o' r r' := by
  have e : ∀ r, inI (RI.of r) = inW r := fun r => funext fun id => inI_of r id
  unfold clashI clash
  rw [e, e]
  simp only [RI.of, List.any_map, Function.comp_def] <;> rfl

def indepI (ops : Array Oper) (tr : List RI) : Bool :=
  edgesBack ops.toList && (List.range tr.length).all fun j => (List.range j).all fun i =>
    ahead ops.toList i j || !(clashI ops (ops.getD i default) (ops.getD j default) (tr.getD i ⟨none, [], [], 0, 0⟩) (tr.getD j ⟨none, [], [], 0, 0⟩))

theorem indepI_of (ops : Array Oper) (tr : List Rec) : indepI ops (tr.map RI.of) = indep ops tr := by
  have e : ∀ i, (tr.map RI.of).getD i ⟨none, [], [], 0, 0⟩ = RI.of (tr.getD i ⟨none, [], .any, [], 0, []⟩) := fun i => by
    rw [List.getD_eq_getElem?_getD, List.getD_eq_getElem?_getD, List.getElem?_map]
    cases tr[i]? <;> rfl
  unfold indepI indep
  simp only [e, clashI_of, List.length_map]

/-- Is this operation wanted? By the slots that the operations write. -/
def gwantD (ds : List (Option Tmp)) (σ : List GV) (o : Oper) : Option Bool :=
  match o.guard with
  | none => some true
  | some (j, want) => match (ds[j]?).bind id with
    | some d => match σ[d]? with
      | some (.lit (.bool b)) => some (b == want)
      | some (.lit (.tuple _)) => some false
      | _ => none
    | none => none

theorem gwantD_of {ops : Array Oper} {ds : List (Option Tmp)} (h : ops.toList.map (·.dst) = ds) (σ : List GV) (o : Oper) : gwant ops σ o = gwantD ds σ o := by
  subst h
  have e : ∀ j : Nat, (ops[j]?).bind (fun o : Oper => o.dst) = ((ops.toList.map (fun o : Oper => o.dst))[j]?).bind id := fun j => by
    rw [List.getElem?_map, Array.getElem?_toList]
    cases ops[j]? <;> rfl
  unfold gwant gwantD
  split
  · rename_i h1; simp only [h1]
  · rename_i h1; simp only [h1, e] <;> rfl

/-- From here on, the region's operations: at its end K. -/
def TW (P : Program) (ds : List (Option Tmp)) (rest : List Oper) (σ : List GV) (M : List GO) (tr : List RI) (K : List GV → List GO → List RI → Prop) : Prop :=
  ∀ ops : Array Oper, ops.toList.map (·.dst) = ds → ∃ tr' σ' M', TR P ops rest σ M tr' σ' M' ∧ K σ' M' (tr ++ tr'.map RI.of)

/-- Slots forgotten, by a mask; behind its end all are kept. -/
def msk : List Bool → List GV → List GV
  | [], σ => σ
  | _, [] => []
  | true :: m, g :: σ => g :: msk m σ
  | false :: m, _ :: σ => .any :: msk m σ

theorem msk_length : ∀ (m : List Bool) (σ : List GV), (msk m σ).length = σ.length
  | [], σ => rfl
  | _ :: _, [] => rfl
  | true :: m, g :: σ => by simp [msk, msk_length m σ]
  | false :: m, g :: σ => by simp [msk, msk_length m σ]

theorem msk_get : ∀ (m : List Bool) (σ : List GV) (t : Nat) (g : GV), (msk m σ)[t]? = some g → g = .any ∨ σ[t]? = some g
  | [], σ, t, g, h => .inr h
  | _ :: _, [], t, g, h => .inr h
  | true :: m, x :: σ, 0, g, h => .inr h
  | false :: m, x :: σ, 0, g, h => by simp [msk] at h; exact .inl h.symm
  | true :: m, x :: σ, t + 1, g, h => by simpa using msk_get m σ t g (by simpa [msk] using h)
  | false :: m, x :: σ, t + 1, g, h => by simpa using msk_get m σ t g (by simpa [msk] using h)

theorem SL.msk {Γ : Ctx} {D : Nat → Prop} {ι : Nat → Hd} {w : World} {σ : List GV} {a : Act} (h : SL Γ D ι w σ a) (m : List Bool) : SL Γ D ι w (Gh.msk m σ) a := by
  refine ⟨by rw [msk_length]; exact h.1, fun t g hg => ?_⟩
  rcases msk_get m σ t g hg with rfl | h1
  · exact .imm (.any _)
  · exact h.2 t g h1

def thenR (K : List GV → List GO → Prop) (R : Exit → List GV → List GO → Prop) : Exit → List GV → List GO → Prop := fun e σ M =>
  match e with
  | .normal => K σ M
  | e => R e σ M

def blockR (id : Nat) (R : Exit → List GV → List GO → Prop) : Exit → List GV → List GO → Prop := fun e σ M =>
  match e with
  | .exit id' => if id' = id then R .normal σ M else R (.exit id') σ M
  | e => R e σ M

def retR (P : Program) (fn : Func) (m : Nat) (r : GV) (M' : List GO) : Exit → List GV → List GO → Prop := fun e σ' M1 =>
  (e = .normal ∨ e = .ret) ∧ ∃ g keep, gres P σ' M1 fn.results.toList = some g ∧ keep.Nodup ∧ pins m keep = true ∧ gin keep g = true ∧ r = ren (keep.idxOf ·) g ∧ M' = nobjs keep M1

section
variable {m : Nat} {σ : List GV} {M : List GO} {R : Exit → List GV → List GO → Prop}

theorem CS.seq {x y : Code} (h : ∀ K : List GV → List GO → Prop, (∀ σ' M', CS P m y σ' M' R → K σ' M') → CS P m x σ M (thenR K R)) : CS P m (.seq x y) σ M R :=
  CS_seq (CS.mono (h _ fun _ _ h => h) fun e σ M h => by cases e <;> exact h)

theorem CS.blk {id : Nat} {c : Code} (h : CS P m c σ M (blockR id R)) : CS P m (.block id c) σ M R :=
  CS_block (CS.mono h fun e σ M h => by cases e <;> exact h)

theorem CS.mskR {c : Code} (mk : List Bool) (h : CS P m c σ M fun e σ' M' => R e (msk mk σ') M') : CS P m c σ M R := by
  intro Γ ι w a Q hm hS hL hd hk
  exact h Γ ι w a Q hm hS hL hd fun e σ' M' Im' ι' w' a' h0 h1 h2 h3 h4 h5 h6 h7 => hk e (msk mk σ') M' Im' ι' w' a' h0 h1 h2 h3 h4 h5 (h6.msk mk) h7

theorem CS.regl {id : Nat} {ops : List Oper} (mk : List Bool) (h : ∀ K0 : List GV → List GO → Prop, (∀ σ' M', R .normal (msk mk σ') M' → K0 σ' M') → TW P (ops.map (·.dst)) ops σ M [] (fun σ' M' _ => K0 σ' M')) :
    CS P m (.region id ops.toArray false) σ M R := by
  obtain ⟨tr, σ', M', h1, h2⟩ := h _ (fun _ _ h => h) ops.toArray (by simp)
  exact CS.mskR mk (CS_region (ops := ops.toArray) (by simpa using h1) h2)

theorem CS.drawl (T : Tab P) {id : Nat} {ops : List Oper} (mk : List Bool) (h : ∀ K1 : List GV → List GO → List RI → Prop, (∀ σ' M' tr, indepI ops.toArray tr = true → R .normal (msk mk σ') M' → K1 σ' M' tr) → TW P (ops.map (·.dst)) ops σ M [] K1) :
    CS P m (.region id ops.toArray true) σ M R := by
  obtain ⟨tr, σ', M', h1, h2, h3⟩ := h (fun σ' M' tr => indepI ops.toArray tr = true ∧ R .normal (msk mk σ') M') (fun _ _ _ h1 h2 => ⟨h1, h2⟩) ops.toArray (by simp)
  exact CS.mskR mk (CS_draw T.mixed (ops := ops.toArray) (by simpa using h1) (by rw [← indepI_of]; simpa using h2) h3)

theorem CS.split {x : Operand} {t : Bool} {a b : Code} (hx : rhoOf σ x = .lit (.bool t)) (h1 : t = true → CS P m a σ M R) (h2 : t = false → CS P m b σ M R) : CS P m (.cond x a b) σ M R := by
  cases t
  · exact CS_cond hx (h2 rfl)
  · exact CS_cond hx (h1 rfl)

theorem CS.yes {x : Operand} {a b : Code} (hx : rhoOf σ x = .lit (.bool true)) (h1 : CS P m a σ M R) : CS P m (.cond x a b) σ M R := CS_cond hx h1
theorem CS.no {x : Operand} {a b : Code} (hx : rhoOf σ x = .lit (.bool false)) (h1 : CS P m b σ M R) : CS P m (.cond x a b) σ M R := CS_cond hx h1

theorem FS.enter {f : FuncId} {fn : Func} {c : Code} {args : List GV} {r : GV} {M' : List GO} (hf : P.funcs[f]? = some fn) (hb : fn.body = some c)
    (h : ∀ R0, (∀ e σ M1, retR P fn M.length r M' e σ M1 → R0 e σ M1) → CS P M.length c (args ++ List.replicate (fn.ntmps - args.length) .any) M R0) : FS P f args M r M' :=
  FS_enter hf hb (h _ fun _ _ _ h => h)

end

section
variable {ds : List (Option Tmp)} {o : Oper} {rest : List Oper} {σ : List GV} {M : List GO} {tr : List RI} {K : List GV → List GO → List RI → Prop}

theorem TW.nil (h : K σ M tr) : TW P ds [] σ M tr K := fun ops _ => ⟨[], σ, M, .nil σ M, by simpa using h⟩

theorem TW.step {ids : List Nat} {g : GV} {ups : List (Nat × GO)} {news : List GO} (hg : gwantD ds σ o = some true) (hs : OpS P o (rhoOf σ) M.length (getM M) ids g ups news)
    (hu : ∀ x, x ∈ ups → x.1 < M.length) (h : TW P ds rest (putS σ o.dst g) (updL M ups news) (tr ++ [⟨o.dst, ids, ups.map (·.1), M.length, news.length⟩]) K) : TW P ds (o :: rest) σ M tr K := by
  intro ops hops
  obtain ⟨tr', σ', M', h1, h2⟩ := h ops hops
  exact ⟨_ :: tr', σ', M', .step (by rw [gwantD_of hops]; exact hg) hs hu h1, by simpa [RI.of] using h2⟩

theorem TW.skip (hg : gwantD ds σ o = some false) (h : TW P ds rest (putS σ o.dst gundef) M (tr ++ [⟨o.dst, [], [], M.length, 0⟩]) K) : TW P ds (o :: rest) σ M tr K := by
  intro ops hops
  obtain ⟨tr', σ', M', h1, h2⟩ := h ops hops
  exact ⟨_ :: tr', σ', M', .skip (by rw [gwantD_of hops]; exact hg) h1, by simpa [RI.of] using h2⟩

/-- What reads alone, its result in its slot. -/
theorem TW.rd {ids : List Nat} {g : GV} (hg : o.guard = none) (hs : OpS P o (rhoOf σ) M.length (getM M) ids g [] [])
    (h : TW P ds rest (putS σ o.dst g) M (tr ++ [⟨o.dst, ids, [], M.length, 0⟩]) K) : TW P ds (o :: rest) σ M tr K := by
  refine TW.step (by unfold gwantD; rw [hg]) hs (by simp) ?_
  have : updL M [] [] = M := by simp [updL]
  rw [this]; exact h

/-- What is guarded, and known to be wanted. -/
theorem TW.want (hg : gwantD ds σ o = some true) (h : TW P ds (⟨o.dst, o.op, o.type, o.pos, o.after, none⟩ :: rest) σ M tr K) : TW P ds (o :: rest) σ M tr K := by
  intro ops hops
  obtain ⟨tr', σ', M', h1, h2⟩ := h ops hops
  cases h1 with
  | skip hg' _ => simp [gwant] at hg'
  | step hg' hs hu h1 =>
    refine ⟨_, σ', M', .step (by rw [gwantD_of hops]; exact hg) (fun Γ D ι M w a K Q a1 a2 a3 a4 a5 => ?_) hu h1, h2⟩
    have := hs Γ D ι M w a K Q a1 a2 a3 a4 a5
    exact this

end
end Go.Gh
