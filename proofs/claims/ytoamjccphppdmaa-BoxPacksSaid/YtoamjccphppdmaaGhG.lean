import Derived.Test.YtoamjccphppdmaaGhF

namespace Go.Gh
section
variable {P : Program} {o : Oper} {ρ : Rho} {nb : Nat} {M0 : Nat → GO}
variable {Im Bw D : Nat → Prop} {ι : Nat → Hd} {w : World}

/-- A pointer that is not nil, beside nil. -/
def notNil : GV → Bool
  | .adr .. | .iadr .. => true
  | _ => false

theorem notNil_inv {g : GV} (hg : notNil g = true) {u : Value} (h : VR Im Bw D ι w g u) : ∃ ad, u = .pointer (some ad) := by
  cases g <;> simp only [notNil, Bool.false_eq_true] at hg
  · obtain ⟨_, b, _, rfl⟩ := h.adr_inv; exact ⟨_, rfl⟩
  · obtain ⟨ad, V, rfl, _⟩ := h.iadr_inv; exact ⟨_, rfl⟩

theorem run_equalIn_ptr {d : Nat} {t e : TypeId} (hu : P.underlying t = some (.pointer e)) (a : Addr) : (Op.equalIn (d + 1) t (.pointer (some a)) (.pointer none)).run P w = .ok false w := by
  rw [Op.equalIn]
  simp only [Sem.run_bind, run_und hu, Result.andThen_ok, Sem.run_pure]

theorem run_equal_ptr {t e : TypeId} (hu : P.underlying t = some (.pointer e)) (a : Addr) : (Op.equal t (.pointer (some a)) (.pointer none)).run P w = .ok false w :=
  run_equalIn_ptr (d := 9999) hu a

theorem os_ptr {t yt e : TypeId} {x y : Operand} {op : BinOp} {r : Bool} (ho : o.op = .binOp op t x y yt) (hx : notNil (ρ x) = true) (hy : ρ y = .lit (.pointer none))
    (hu : P.underlying t = some (.pointer e)) (hr : (op = .eql ∧ r = false) ∨ (op = .neq ∧ r = true)) : OpS P o ρ nb M0 [] (.lit (.bool r)) [] [] := by
  refine .quiet fun Γ D ι M w ac _ hV _ => ⟨.bool r, .litv _, ?_⟩
  obtain ⟨ad, h1⟩ := notNil_inv hx (hV x (by simp [ho, Op.operands]))
  have h2 := (hy ▸ hV y (by simp [ho, Op.operands])).lit_inv
  simp only [execOp, ho, h1, h2, Sem.run_bind]
  rw [run_eqGuard_lit (by simp) (by simp)]
  rcases hr with ⟨rfl, rfl⟩ | ⟨rfl, rfl⟩ <;>
  simp only [binOp, Sem.run_bind, run_equal_ptr hu, Result.andThen_ok, Sem.run_pure] <;> rfl

/-- Structs of plain fields, held against each other. -/
def geqF (P : Program) (xs ys : List GV) : List Field → Option Bool
  | [] => some true
  | f :: fs => if f.name = "_" then none else
    match aggT P f.type, P.underlying f.type, xs[f.offset]?, ys[f.offset]? with
    | some false, some (.int _), some (.lit (.int k a)), some (.lit (.int k' b)) => if k = k' then (geqF P xs ys fs).map fun t => (a == b) && t else none
    | some false, some .bool, some (.lit (.bool a)), some (.lit (.bool b)) => (geqF P xs ys fs).map fun t => (a == b) && t
    | _, _, _, _ => none

theorem geqF_sound {d : Nat} {xs ys : List GV} {us vs : Array Value} (hx : ∀ (i : Nat) v, xs[i]? = some (.lit v) → us[i]? = some v) (hy : ∀ (i : Nat) v, ys[i]? = some (.lit v) → vs[i]? = some v) :
    ∀ (fs : List Field) (r : Bool), geqF P xs ys fs = some r → (Op.eqFields (d + 1) us vs fs).run P w = .ok r w
  | [], r, h => by simp only [geqF, Option.some.injEq] at h; subst h; rfl
  | f :: fs, r, h => by
    have part1 : ∀ (us : Array Value) v, aggT P f.type = some false → us[f.offset]? = some v → (part f.type us f.offset).run P w = .ok v w := fun us v ha hv => by
      simp [part, run_isA ha, hv]
    simp only [geqF] at h
    split at h
    · cases h
    · rename_i hname
      split at h
      · rename_i ha hu hxa hyb
        split at h
        · rename_i hk
          subst hk
          obtain ⟨t, ht, hr⟩ := Option.map_eq_some_iff.1 h
          have ih := geqF_sound (d := d) hx hy fs t ht
          simp only [Op.eqFields, ne_eq, hname, not_false_eq_true, if_true, Sem.run_bind, part1 us _ ha (hx _ _ hxa), part1 vs _ ha (hy _ _ hyb), Result.andThen_ok, run_equalIn_int hu]
          subst hr
          rw [Sem.run_ite]
          split
          · rename_i hb
            simp only [Bool.not_eq_true'] at hb
            rw [hb]; rfl
          · rename_i hb
            simp only [Bool.not_eq_true', Bool.not_eq_false] at hb
            rw [hb, ih]; rfl
        · cases h
      · rename_i ha hu hxa hyb
        obtain ⟨t, ht, hr⟩ := Option.map_eq_some_iff.1 h
        have ih := geqF_sound (d := d) hx hy fs t ht
        simp only [Op.eqFields, ne_eq, hname, not_false_eq_true, if_true, Sem.run_bind, part1 us _ ha (hx _ _ hxa), part1 vs _ ha (hy _ _ hyb), Result.andThen_ok, run_equalIn_bool hu]
        subst hr
        rw [Sem.run_ite]
        split
        · rename_i hb
          simp only [Bool.not_eq_true'] at hb
          rw [hb]; rfl
        · rename_i hb
          simp only [Bool.not_eq_true', Bool.not_eq_false] at hb
          rw [hb, ih]; rfl
      · cases h

theorem litCells_sound {g : GV} {cs : List GV} {v : Value} (hc : litCells g = some cs) (h : VR Im Bw D ι w g v) :
    ∃ vs : Array Value, v = .agg vs ∧ vs.size = cs.length ∧ ∀ (i : Nat) u, cs[i]? = some (.lit u) → vs[i]? = some u := by
  cases g <;> try (cases hc; done)
  case lit u =>
    cases u <;> simp only [litCells, Option.some.injEq, reduceCtorEq] at hc
    case agg vs =>
      have := h.lit_inv
      subst this; subst hc
      refine ⟨vs, rfl, by simp, fun i u hu => ?_⟩
      simp only [List.getElem?_map, Array.getElem?_toList, Option.map_eq_some_iff] at hu
      obtain ⟨x, hx, h2⟩ := hu
      cases h2
      exact hx
  case agg cs' =>
    simp only [litCells, Option.some.injEq] at hc
    subst hc
    obtain ⟨vs, rfl, hn, hf, hr⟩ := h.agg_inv
    refine ⟨vs, rfl, hn, fun i u hu => ?_⟩
    have hi : i < vs.size := by rw [hn]; exact (List.getElem?_eq_some_iff.1 hu).1
    have := (hr i _ hu).lit_inv
    have e : vs.getD i undef = vs[i] := by simp [hi]
    rw [e] at this
    rw [Array.getElem?_eq_getElem hi, this]

theorem os_aggEq {t yt : TypeId} {x y : Operand} {op : BinOp} {r r' : Bool} {xs ys : List GV} {fs : Array Field} (ho : o.op = .binOp op t x y yt) (hx : litCells (ρ x) = some xs) (hy : litCells (ρ y) = some ys)
    (hu : P.underlying t = some (.struct fs)) (hg : P.eqGuardType P.depth t = false) (hp : P.stoodInHeld t = false) (hr : geqF P xs ys fs.toList = some r)
    (hop : (op = .eql ∧ r' = r) ∨ (op = .neq ∧ r' = !r)) : OpS P o ρ nb M0 [] (.lit (.bool r')) [] [] := by
  refine .quiet fun Γ D ι M w ac _ hV _ => ⟨.bool r', .litv _, ?_⟩
  obtain ⟨us, h1, hn1, hu1⟩ := litCells_sound hx (hV x (by simp [ho, Op.operands]))
  obtain ⟨vs, h2, hn2, hu2⟩ := litCells_sound hy (hV y (by simp [ho, Op.operands]))
  have hf : P.fieldsOf t = fs := by simp [Program.fieldsOf, hu]
  have he : (Op.equalIn 10000 t (.agg us) (.agg vs)).run P w = .ok r w := by
    rw [run_equalIn_struct w 9999 t us vs (by rw [hf]; exact hu) hp, hf]
    exact geqF_sound (d := 9998) hu1 hu2 _ _ hr
  simp only [execOp, ho, h1, h2, Sem.run_bind, run_eqGuard_agg w op t x y us vs hg, Result.andThen_ok]
  rcases hop with ⟨rfl, rfl⟩ | ⟨rfl, rfl⟩
  · rw [run_eql_struct w t us vs, he]; rfl
  · rw [run_neq_struct w t us vs, he]; rfl

theorem os_not {t : TypeId} {x : Operand} {b : Bool} (ho : o.op = .unOp .not t x) (hx : ρ x = .lit (.bool b)) : OpS P o ρ nb M0 [] (.lit (.bool !b)) [] [] := by
  refine .quiet fun Γ D ι M w ac _ hV _ => ⟨_, .litv _, ?_⟩
  have h1 := (hx ▸ hV x (by simp [ho, Op.operands])).lit_inv
  simp [execOp, ho, h1, Op.unary]

theorem os_neg {t : TypeId} {x : Operand} {k : IntKind} {n : Int} (ho : o.op = .unOp .neg t x) (hx : ρ x = .lit (.int k n)) : OpS P o ρ nb M0 [] (.lit (.int k (k.wrap (0 - n)))) [] [] := by
  refine .quiet fun Γ D ι M w ac _ hV _ => ⟨_, .litv _, ?_⟩
  have h1 := (hx ▸ hV x (by simp [ho, Op.operands])).lit_inv
  simp [execOp, ho, h1, Op.unary, Op.intArith]

theorem os_conv {src dst : TypeId} {x : Operand} {k k' ks : IntKind} {n : Int} (ho : o.op = .convert src dst x) (hs : P.underlying src = some (.int ks)) (hd : P.underlying dst = some (.int k')) (hx : ρ x = .lit (.int k n)) :
    OpS P o ρ nb M0 [] (.lit (.int k' (k'.wrap n))) [] [] := by
  refine .quiet fun Γ D ι M w ac _ hV _ => ⟨_, .litv _, ?_⟩
  have h1 := (hx ▸ hV x (by simp [ho, Op.operands])).lit_inv
  simp [execOp, ho, h1, convert, run_und hs, run_und hd, Conv.intToInt]

def isAddr : GV → Bool
  | .adr .. | .iadr .. | .clo .. | .lit (.func (.func _) _ _) => true
  | _ => false

theorem os_nil {x : Operand} (ho : o.op = .nilCheck x) (hx : isAddr (ρ x) = true) : OpS P o ρ nb M0 [] (ρ x) [] [] := by
  refine .quiet fun Γ D ι M w ac _ hV _ => ⟨ac.eval x, hV x (by simp [ho, Op.operands]), ?_⟩
  have h := hV x (by simp [ho, Op.operands])
  have : (∃ ad, ac.eval x = .pointer (some ad)) ∨ ∃ f a b, ac.eval x = .func (.func f) a b := by
    generalize ρ x = g at h hx
    cases g <;> try (simp [isAddr] at hx; done)
    · rename_i v
      have h2 := h.lit_inv
      cases v <;> try (simp [isAddr] at hx; done)
      rename_i fn a b
      cases fn <;> try (simp [isAddr] at hx; done)
      exact .inr ⟨_, _, _, h2⟩
    · obtain ⟨_, b, _, h2⟩ := h.adr_inv; exact .inl ⟨_, h2⟩
    · obtain ⟨ad, V, h2, _⟩ := h.iadr_inv; exact .inl ⟨_, h2⟩
    · obtain ⟨vs, h2, _⟩ := h.clo_inv; exact .inr ⟨_, _, _, h2⟩
  rcases this with ⟨ad, h2⟩ | ⟨f, a, b, h2⟩
  · simp [execOp, ho, h2]
  · simp [execOp, ho, h2]

theorem os_extract {x : Operand} {i : Nat} {cs : List GV} {g : GV} (ho : o.op = .extract x i) (hx : ρ x = .tup cs) (hg : cs[i]? = some g) : OpS P o ρ nb M0 [] g [] [] := by
  refine .quiet fun Γ D ι M w ac _ hV _ => ?_
  obtain ⟨vs, h1, hn, hr⟩ := (hx ▸ hV x (by simp [ho, Op.operands])).tup_inv
  refine ⟨vs.getD i undef, hr i g hg, ?_⟩
  have hi : i < vs.size := by rw [hn]; exact (List.getElem?_eq_some_iff.1 hg).1
  simp [execOp, ho, h1, Instr.extract, hi]

theorem os_load {t : TypeId} {x : Operand} {id i j : Nat} {cs : List GV} {g : GV} (ho : o.op = .load t x) (hx : ρ x = .adr id i j) (hc : cellsAt (M0 id) i = some cs) (hl : ldv P t (cs.drop j) = some g) :
    OpS P o ρ nb M0 [id] g [] [] := by
  refine .quiet fun Γ D ι M w ac hS hV hM => ?_
  obtain ⟨hD, b, hb, h1⟩ := (hx ▸ hV x (by simp [ho, Op.operands])).adr_inv
  obtain ⟨W, hW⟩ := (hS.obj id).at (fun g v h => .imm h.toVI) (i := i) (cs := cs) (by rw [hM id (by simp)]; exact hc) hb
  obtain ⟨v, hr, hv⟩ := ldv_sound (P := P) (ad := ⟨b, i * (ι id).sz + j, none⟩) rfl (fun k => W (j + k)) (fun k g hg => by
    rw [List.getElem?_drop] at hg
    have := hW (j + k) g hg
    simpa [Nat.add_assoc] using this) hl
  exact ⟨v, hv, by simp [execOp, ho, h1, Instr.loadAt, Instr.sureAddr, hr]⟩

theorem os_loadI {t : TypeId} {x : Operand} {bw : Bool} {cs : List GV} {g : GV} (ho : o.op = .load t x) (hx : ρ x = .iadr bw cs) (hl : ldv P t cs = some g) :
    OpS P o ρ nb M0 [] g [] [] := by
  refine .quiet fun Γ D ι M w ac hS hV hM => ?_
  obtain ⟨ad, V, h1, hs, hc⟩ := (hx ▸ hV x (by simp [ho, Op.operands])).iadr_inv
  obtain ⟨v, hr, hv⟩ := ldv_sound (P := P) (D := D) (ι := ι) hs V (fun k g hg => ⟨(hc k g hg).2.1, (hc k g hg).2.2.1, .imm (hc k g hg).2.2.2.toVI⟩) hl
  exact ⟨v, hv, by simp [execOp, ho, h1, Instr.loadAt, Instr.sureAddr, hr]⟩

theorem os_store {t : TypeId} {x y : Operand} {id i j : Nat} {vs : List GV} {ob : GO} {d : TypeDesc} (ho : o.op = .store t x y) (hx : ρ x = .adr id i j) (hy : gcells (ρ y) = some vs)
    (hu : P.underlying t = some d) (hsz : P.cellsOf t = vs.length) (hp : putAt (M0 id) i j vs = some ob) : OpS P o ρ nb M0 [id] .any [(id, ob)] [] := by
  refine .write (fun h => by rw [h] at hp; cases hp) fun Γ D ι M w ac hS hV hM => ?_
  obtain ⟨hD, b, hb, h1⟩ := (hx ▸ hV x (by simp [ho, Op.operands])).adr_inv
  obtain ⟨hn, hf, hr⟩ := gcells_sound (hV y (by simp [ho, Op.operands])) hy
  obtain ⟨w', h2, h3, h4, h5, h6, h7, h8⟩ := OR.store (P := P) (hS.obj id) (by rw [hM]; exact hp) hb (ac.eval y).cells.toList (by simpa using hn) hf
  refine ⟨w', ?_, h3, h4, h5, by omega, fun k hk => h7 k fun e => hk (e ▸ hb), fun hVR hVP => ?_⟩
  · have hne : (ac.eval y).cells.size = P.cellsOf t := by rw [hn, hsz]
    simp [execOp, ho, h1, Instr.storeAt, Instr.sureAddr, storeVar, run_szU hu, hne, h2]
  · have e : ∀ k, (ac.eval y).cells.toList.getD k undef = (ac.eval y).cells.getD k undef := fun k => by simp
    refine h8 _ _ hVR hVP (fun k g hg => ?_) fun hp k g hg => ?_
    · rw [e]; exact hVR _ _ (hr k g hg)
    · rw [e]; exact hVP _ _ ((hr k g hg).toVP (pureL_get hp hg).1 (pureL_get hp hg).2)

end
end Go.Gh
