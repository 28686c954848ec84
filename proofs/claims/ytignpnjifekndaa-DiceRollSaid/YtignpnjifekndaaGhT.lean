import Derived.Test.YtignpnjifekndaaGhS

namespace Go.Gh

/-! The walk, as rules that go from goal to goal. -/

/-- What is known of a program's types and functions. -/
structure Tab (P : Program) where
  u : Nat → Option TypeDesc
  uok : ∀ t d, u t = some d → P.underlying t = some d
  sz : Nat → Nat
  szok : ∀ t, sz t ≠ 0 → P.cellsOf t = sz t
  bs : Nat → Nat
  bsok : ∀ t, bs t ≠ 0 → P.bytesOf t = bs t
  z : Nat → Option Value
  zok : ∀ t v, z t = some v → zeroOf P t = some v
  eq : Nat → Bool
  eqok : ∀ t, eq t = true → P.eqGuardType P.depth t = false ∧ P.stoodInHeld t = false
  fn : Nat → Bool
  fnok : ∀ f, fn f = true → ∃ c, P.funcs[f]? = some c ∧ c.body.isSome = true ∧ (c.name == "runtime.NumGoroutine") = false
  mixed : P.follows .mixedOrders = true

variable {P : Program}

/-- From here on, the region's operations: at its end K. -/
def TW (P : Program) (ops : Array Oper) (rest : List Oper) (σ : List GV) (M : List GO) (tr : List Rec) (K : List GV → List GO → List Rec → Prop) : Prop :=
  ∃ tr' σ' M', TR P ops rest σ M tr' σ' M' ∧ K σ' M' (tr ++ tr')

def thenR (K : List GV → List GO → Prop) (R : Exit → List GV → List GO → Prop) : Exit → List GV → List GO → Prop := fun e σ M =>
  match e with
  | .normal => K σ M
  | e => R e σ M

def blockR (id : Nat) (R : Exit → List GV → List GO → Prop) : Exit → List GV → List GO → Prop := fun e σ M =>
  match e with
  | .exit id' => if id' = id then R .normal σ M else R (.exit id') σ M
  | e => R e σ M

def retR (P : Program) (fn : Func) (m : Nat) (r : GV) (M' : List GO) : Exit → List GV → List GO → Prop := fun e σ' M1 =>
  (e = .normal ∨ e = .ret) ∧ ∃ g keep, gres P σ' M1 fn.results.toList = some g ∧ keep.Nodup ∧ pins m keep = true ∧ gin keep g = true ∧ r = ren (keep.idxOf ·) g ∧ M' = nobjs keep M1

section
variable {m : Nat} {σ : List GV} {M : List GO} {R : Exit → List GV → List GO → Prop}

theorem CS.seq {x y : Code} (h : ∀ K : List GV → List GO → Prop, (∀ σ' M', CS P m y σ' M' R → K σ' M') → CS P m x σ M (thenR K R)) : CS P m (.seq x y) σ M R :=
  CS_seq (CS.mono (h _ fun _ _ h => h) fun e σ M h => by cases e <;> exact h)

theorem CS.blk {id : Nat} {c : Code} (h : CS P m c σ M (blockR id R)) : CS P m (.block id c) σ M R :=
  CS_block (CS.mono h fun e σ M h => by cases e <;> exact h)

theorem CS.reg {id : Nat} {ops : Array Oper} (h : TW P ops ops.toList σ M [] (fun σ' M' _ => R .normal σ' M')) : CS P m (.region id ops false) σ M R := by
  obtain ⟨tr, σ', M', h1, h2⟩ := h
  exact CS_region h1 h2

theorem CS.regl {id : Nat} {ops : List Oper} (h : TW P ops.toArray ops σ M [] (fun σ' M' _ => R .normal σ' M')) : CS P m (.region id ops.toArray false) σ M R := CS.reg h

theorem CS.draw (T : Tab P) {id : Nat} {ops : Array Oper} (h : TW P ops ops.toList σ M [] (fun σ' M' tr => indep ops tr = true ∧ R .normal σ' M')) : CS P m (.region id ops true) σ M R := by
  obtain ⟨tr, σ', M', h1, h2, h3⟩ := h
  exact CS_draw T.mixed h1 h2 h3

theorem CS.drawl (T : Tab P) {id : Nat} {ops : List Oper} (h : TW P ops.toArray ops σ M [] (fun σ' M' tr => indep ops.toArray tr = true ∧ R .normal σ' M')) : CS P m (.region id ops.toArray true) σ M R := CS.draw T h

theorem CS.split {x : Operand} {t : Bool} {a b : Code} (hx : rhoOf σ x = .lit (.bool t)) (h1 : t = true → CS P m a σ M R) (h2 : t = false → CS P m b σ M R) : CS P m (.cond x a b) σ M R := by
  cases t
  · exact CS_cond hx (h2 rfl)
  · exact CS_cond hx (h1 rfl)

theorem CS.yes {x : Operand} {a b : Code} (hx : rhoOf σ x = .lit (.bool true)) (h1 : CS P m a σ M R) : CS P m (.cond x a b) σ M R := CS_cond hx h1
theorem CS.no {x : Operand} {a b : Code} (hx : rhoOf σ x = .lit (.bool false)) (h1 : CS P m b σ M R) : CS P m (.cond x a b) σ M R := CS_cond hx h1

theorem FS.enter {f : FuncId} {fn : Func} {c : Code} {args : List GV} {r : GV} {M' : List GO} (hf : P.funcs[f]? = some fn) (hb : fn.body = some c)
    (h : ∀ R0, (∀ e σ M1, retR P fn M.length r M' e σ M1 → R0 e σ M1) → CS P M.length c (args ++ List.replicate (fn.ntmps - args.length) .any) M R0) : FS P f args M r M' :=
  FS_enter hf hb (h _ fun _ _ _ h => h)

end

section
variable {ops : Array Oper} {o : Oper} {rest : List Oper} {σ : List GV} {M : List GO} {tr : List Rec} {K : List GV → List GO → List Rec → Prop}

theorem TW.nil (h : K σ M tr) : TW P ops [] σ M tr K := ⟨[], σ, M, .nil σ M, by rwa [List.append_nil]⟩

theorem TW.step {ids : List Nat} {g : GV} {ups : List (Nat × GO)} {news : List GO} (hg : gwant ops σ o = some true) (hs : OpS P o (rhoOf σ) M.length (getM M) ids g ups news)
    (hu : ∀ x, x ∈ ups → x.1 < M.length) (h : TW P ops rest (putS σ o.dst g) (updL M ups news) (tr ++ [⟨o.dst, ids, g, ups, M.length, news⟩]) K) : TW P ops (o :: rest) σ M tr K := by
  obtain ⟨tr', σ', M', h1, h2⟩ := h
  exact ⟨_ :: tr', σ', M', .step hg hs hu h1, by simpa using h2⟩

theorem TW.skip (hg : gwant ops σ o = some false) (h : TW P ops rest (putS σ o.dst gundef) M (tr ++ [⟨o.dst, [], gundef, [], M.length, []⟩]) K) : TW P ops (o :: rest) σ M tr K := by
  obtain ⟨tr', σ', M', h1, h2⟩ := h
  exact ⟨_ :: tr', σ', M', .skip hg h1, by simpa using h2⟩

/-- A guard that is not known: both ways. -/
theorem TW.guard {j d : Nat} {want b : Bool} (hg : o.guard = some (j, want)) (_hd : (ops[j]?).bind (·.dst) = some d) (hb : σ[d]? = some (.lit (.bool b)))
    (h1 : b = want → TW P ops (o :: rest) (σ.set d (.lit (.bool want))) M tr K) (h2 : b = (!want) → TW P ops (o :: rest) (σ.set d (.lit (.bool (!want)))) M tr K) : TW P ops (o :: rest) σ M tr K := by
  have e : ∀ c, b = c → σ.set d (.lit (.bool c)) = σ := fun c h => by
    subst h
    apply List.ext_getElem?
    intro t
    by_cases ht : d = t
    · subst ht
      rw [List.getElem?_set_self (List.getElem?_eq_some_iff.1 hb).1, hb]
    · rw [List.getElem?_set_ne ht]
  by_cases h : b = want
  · have := h1 h; rwa [e _ h] at this
  · have h' : b = !want := by cases b <;> cases want <;> simp_all
    have := h2 h'; rwa [e _ h'] at this

/-- What reads alone, its result in its slot. -/
theorem TW.rd {ids : List Nat} {g : GV} (hg : o.guard = none) (hs : OpS P o (rhoOf σ) M.length (getM M) ids g [] [])
    (h : TW P ops rest (putS σ o.dst g) M (tr ++ [⟨o.dst, ids, g, [], M.length, []⟩]) K) : TW P ops (o :: rest) σ M tr K := by
  refine TW.step (by unfold gwant; rw [hg]) hs (by simp) ?_
  have : updL M [] [] = M := by simp [updL]
  rw [this]; exact h

/-- What is guarded, and known to be wanted. -/
theorem TW.want (hg : gwant ops σ o = some true) (h : ∀ K', (∀ σ' M' tr', K σ' M' tr' → K' σ' M' tr') → TW P ops (⟨o.dst, o.op, o.type, o.pos, o.after, none⟩ :: rest) σ M tr K') : TW P ops (o :: rest) σ M tr K := by
  obtain ⟨tr', σ', M', h1, h2⟩ := h K fun _ _ _ h => h
  cases h1 with
  | skip hg' _ => simp [gwant] at hg'
  | step hg' hs hu h1 =>
    refine ⟨_, σ', M', .step hg (fun Γ D ι M w a K Q a1 a2 a3 a4 a5 => ?_) hu h1, h2⟩
    have := hs Γ D ι M w a K Q a1 a2 a3 a4 a5
    exact this

end
end Go.Gh
