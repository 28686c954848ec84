import Derived.Test.YtoamjccphppdmaaGhS

namespace Go.Gh

/-! The walk, as rules that go from goal to goal. -/

/-- What is known of a program's types and functions. -/
structure Tab (P : Program) where
  u : Nat → Option TypeDesc
  uok : ∀ t d, u t = some d → P.underlying t = some d
  sz : Nat → Nat
  szok : ∀ t, sz t ≠ 0 → P.cellsOf t = sz t
  bs : Nat → Nat
  bsok : ∀ t, bs t ≠ 0 → P.bytesOf t = bs t
  z : Nat → Option Value
  zok : ∀ t v, z t = some v → zeroOf P t = some v
  eq : Nat → Bool
  eqok : ∀ t, eq t = true → P.eqGuardType P.depth t = false ∧ P.stoodInHeld t = false
  fn : Nat → Bool
  fnok : ∀ f, fn f = true → ∃ c, P.funcs[f]? = some c ∧ c.body.isSome = true ∧ (c.name == "runtime.NumGoroutine") = false
  mixed : P.follows .mixedOrders = true

variable {P : Program}

/-- What is told of an operation's deed, for the order alone. -/
structure RI where
  dst : Option Tmp
  ids : List Nat
  ups : List Nat
  nb : Nat
  nn : Nat

def RI.of (r : Rec) : RI := ⟨r.dst, r.ids, r.ups.map (·.1), r.nb, r.news.length⟩

def inI (r : RI) (id : Nat) : Bool := (decide (r.nb ≤ id) && decide (id < r.nb + r.nn)) || r.ups.any (· == id)

theorem inI_of (r : Rec) (id : Nat) : inI (RI.of r) id = inW r id := by
  unfold inI inW RI.of
  simp [List.any_map, Function.comp_def]

def clashI (ops : Array Oper) (o o' : Oper) (r r' : RI) : Bool :=
  (match r.dst with | some d => (readsOf ops o').contains d | none => false) ||
  (match r'.dst with | some d => (readsOf ops o).contains d | none => false) ||
  (match r.dst, r'.dst with | some d, some d' => d == d' | _, _ => false) ||
  r'.ids.any (inI r) || r.ids.any (inI r') || (r'.ups.any (inI r)) || (r.ups.any (inI r'))

theorem clashI_of (ops : Array Oper) (o o' : Oper) (r r' : Rec) : clashI ops o o' (RI.of r) (RI.of r') = clash ops o o' r r' := by
  have e : ∀ r, inI (RI.of r) = inW r := fun r => funext fun id => inI_of r id
  unfold clashI clash
  rw [e, e]
  simp only [RI.of, List.any_map, Function.comp_def]
  rfl

def indepI (ops : Array Oper) (tr : List RI) : Bool :=
  edgesBack ops.toList && (List.range tr.length).all fun j => (List.range j).all fun i =>
    ahead ops.toList i j || !(clashI ops (ops.getD i default) (ops.getD j default) (tr.getD i ⟨none, [], [], 0, 0⟩) (tr.getD j ⟨none, [], [], 0, 0⟩))

theorem indepI_of (ops : Array Oper) (tr : List Rec) : indepI ops (tr.map RI.of) = indep ops tr := by
  have e : ∀ i, (tr.map RI.of).getD i ⟨none, [], [], 0, 0⟩ = RI.of (tr.getD i ⟨none, [], .any, [], 0, []⟩) := fun i => by
    rw [List.getD_eq_getElem?_getD, List.getD_eq_getElem?_getD, List.getElem?_map]
    cases tr[i]? <;> rfl
  unfold indepI indep
  simp only [e, clashI_of, List.length_map]

/-- Is this operation wanted? By the slots that the operations write. -/
def gwantD (ds : List (Option Tmp)) (σ : List GV) (o : Oper) : Option Bool :=
  match o.guard with
  | none => some true
  | some (j, want) => match (ds[j]?).bind id with
    | some d => match σ[d]? with
      | some (.lit (.bool b)) => some (b == want)
      | some (.lit (.tuple _)) => some false
      | _ => none
    | none => none

theorem gwantD_of {ops : Array Oper} {ds : List (Option Tmp)} (h : ops.toList.map (·.dst) = ds) (σ : List GV) (o : Oper) : gwant ops σ o = gwantD ds σ o := by
  subst h
  have e : ∀ j : Nat, (ops[j]?).bind (fun o : Oper => o.dst) = ((ops.toList.map (fun o : Oper => o.dst))[j]?).bind id := fun j => by
    rw [List.getElem?_map, Array.getElem?_toList]
    cases ops[j]? <;> rfl
  unfold gwant gwantD
  split
  · rename_i h1; simp only [h1]
  · rename_i h1; simp only [h1, e]; rfl

/-- From here on, the region's operations: at its end K. -/
def TW (P : Program) (ds : List (Option Tmp)) (rest : List Oper) (σ : List GV) (M : List GO) (tr : List RI) (K : List GV → List GO → List RI → Prop) : Prop :=
  ∀ ops : Array Oper, ops.toList.map (·.dst) = ds → ∃ tr' σ' M', TR P ops rest σ M tr' σ' M' ∧ K σ' M' (tr ++ tr'.map RI.of)

/-- Slots forgotten, by a mask; behind its end all are kept. -/
def msk : List Bool → List GV → List GV
  | [], σ => σ
  | _, [] => []
  | true :: m, g :: σ => g :: msk m σ
  | false :: m, _ :: σ => .any :: msk m σ

theorem msk_length : ∀ (m : List Bool) (σ : List GV), (msk m σ).length = σ.length
  | [], σ => rfl
  | _ :: _, [] => rfl
  | true :: m, g :: σ => by simp [msk, msk_length m σ]
  | false :: m, g :: σ => by simp [msk, msk_length m σ]

theorem msk_get : ∀ (m : List Bool) (σ : List GV) (t : Nat) (g : GV), (msk m σ)[t]? = some g → g = .any ∨ σ[t]? = some g
  | [], σ, t, g, h => .inr h
  | _ :: _, [], t, g, h => .inr h
  | true :: m, x :: σ, 0, g, h => .inr h
  | false :: m, x :: σ, 0, g, h => by simp [msk] at h; exact .inl h.symm
  | true :: m, x :: σ, t + 1, g, h => by simpa using msk_get m σ t g (by simpa [msk] using h)
  | false :: m, x :: σ, t + 1, g, h => by simpa using msk_get m σ t g (by simpa [msk] using h)

theorem SL.msk {Γ : Ctx} {D : Nat → Prop} {ι : Nat → Hd} {w : World} {σ : List GV} {a : Act} (h : SL Γ D ι w σ a) (m : List Bool) : SL Γ D ι w (Gh.msk m σ) a := by
  refine ⟨by rw [msk_length]; exact h.1, fun t g hg => ?_⟩
  rcases msk_get m σ t g hg with rfl | h1
  · exact .imm (.any _)
  · exact h.2 t g h1

def thenR (K : List GV → List GO → Prop) (R : Exit → List GV → List GO → Prop) : Exit → List GV → List GO → Prop := fun e σ M =>
  match e with
  | .normal => K σ M
  | e => R e σ M

def blockR (id : Nat) (R : Exit → List GV → List GO → Prop) : Exit → List GV → List GO → Prop := fun e σ M =>
  match e with
  | .exit id' => if id' = id then R .normal σ M else R (.exit id') σ M
  | e => R e σ M

def retR (P : Program) (fn : Func) (m : Nat) (r : GV) (M' : List GO) : Exit → List GV → List GO → Prop := fun e σ' M1 =>
  (e = .normal ∨ e = .ret) ∧ ∃ g keep, gres P σ' M1 fn.results.toList = some g ∧ keep.Nodup ∧ pins m keep = true ∧ gin keep g = true ∧ r = ren (keep.idxOf ·) g ∧ M' = nobjs keep M1

section
variable {m : Nat} {σ : List GV} {M : List GO} {R : Exit → List GV → List GO → Prop}

theorem CS.seq {x y : Code} (h : ∀ K : List GV → List GO → Prop, (∀ σ' M', CS P m y σ' M' R → K σ' M') → CS P m x σ M (thenR K R)) : CS P m (.seq x y) σ M R :=
  CS_seq (CS.mono (h _ fun _ _ h => h) fun e σ M h => by cases e <;> exact h)

theorem CS.blk {id : Nat} {c : Code} (h : CS P m c σ M (blockR id R)) : CS P m (.block id c) σ M R :=
  CS_block (CS.mono h fun e σ M h => by cases e <;> exact h)

theorem CS.mskR {c : Code} (mk : List Bool) (h : CS P m c σ M fun e σ' M' => R e (msk mk σ') M') : CS P m c σ M R := by
  intro Γ ι w a Q hm hS hL hd hk
  exact h Γ ι w a Q hm hS hL hd fun e σ' M' Im' ι' w' a' h0 h1 h2 h3 h4 h5 h6 h7 => hk e (msk mk σ') M' Im' ι' w' a' h0 h1 h2 h3 h4 h5 (h6.msk mk) h7

theorem CS.regl {id : Nat} {ops : List Oper} (mk : List Bool) (h : ∀ K0 : List GV → List GO → Prop, (∀ σ' M', R .normal (msk mk σ') M' → K0 σ' M') → TW P (ops.map (·.dst)) ops σ M [] (fun σ' M' _ => K0 σ' M')) :
    CS P m (.region id ops.toArray false) σ M R := by
  obtain ⟨tr, σ', M', h1, h2⟩ := h _ (fun _ _ h => h) ops.toArray (by simp)
  exact CS.mskR mk (CS_region (ops := ops.toArray) (by simpa using h1) h2)

theorem CS.drawl (T : Tab P) {id : Nat} {ops : List Oper} (mk : List Bool) (h : ∀ K1 : List GV → List GO → List RI → Prop, (∀ σ' M' tr, indepI ops.toArray tr = true → R .normal (msk mk σ') M' → K1 σ' M' tr) → TW P (ops.map (·.dst)) ops σ M [] K1) :
    CS P m (.region id ops.toArray true) σ M R := by
  obtain ⟨tr, σ', M', h1, h2, h3⟩ := h (fun σ' M' tr => indepI ops.toArray tr = true ∧ R .normal (msk mk σ') M') (fun _ _ _ h1 h2 => ⟨h1, h2⟩) ops.toArray (by simp)
  exact CS.mskR mk (CS_draw T.mixed (ops := ops.toArray) (by simpa using h1) (by rw [← indepI_of]; simpa using h2) h3)

theorem CS.split {x : Operand} {t : Bool} {a b : Code} (hx : rhoOf σ x = .lit (.bool t)) (h1 : t = true → CS P m a σ M R) (h2 : t = false → CS P m b σ M R) : CS P m (.cond x a b) σ M R := by
  cases t
  · exact CS_cond hx (h2 rfl)
  · exact CS_cond hx (h1 rfl)

theorem CS.yes {x : Operand} {a b : Code} (hx : rhoOf σ x = .lit (.bool true)) (h1 : CS P m a σ M R) : CS P m (.cond x a b) σ M R := CS_cond hx h1
theorem CS.no {x : Operand} {a b : Code} (hx : rhoOf σ x = .lit (.bool false)) (h1 : CS P m b σ M R) : CS P m (.cond x a b) σ M R := CS_cond hx h1

theorem FS.enter {f : FuncId} {fn : Func} {c : Code} {args : List GV} {r : GV} {M' : List GO} (hf : P.funcs[f]? = some fn) (hb : fn.body = some c)
    (h : ∀ R0, (∀ e σ M1, retR P fn M.length r M' e σ M1 → R0 e σ M1) → CS P M.length c (args ++ List.replicate (fn.ntmps - args.length) .any) M R0) : FS P f args M r M' :=
  FS_enter hf hb (h _ fun _ _ _ h => h)

end

section
variable {ds : List (Option Tmp)} {o : Oper} {rest : List Oper} {σ : List GV} {M : List GO} {tr : List RI} {K : List GV → List GO → List RI → Prop}

theorem TW.nil (h : K σ M tr) : TW P ds [] σ M tr K := fun ops _ => ⟨[], σ, M, .nil σ M, by simpa using h⟩

theorem TW.step {ids : List Nat} {g : GV} {ups : List (Nat × GO)} {news : List GO} (hg : gwantD ds σ o = some true) (hs : OpS P o (rhoOf σ) M.length (getM M) ids g ups news)
    (hu : ∀ x, x ∈ ups → x.1 < M.length) (h : TW P ds rest (putS σ o.dst g) (updL M ups news) (tr ++ [⟨o.dst, ids, ups.map (·.1), M.length, news.length⟩]) K) : TW P ds (o :: rest) σ M tr K := by
  intro ops hops
  obtain ⟨tr', σ', M', h1, h2⟩ := h ops hops
  exact ⟨_ :: tr', σ', M', .step (by rw [gwantD_of hops]; exact hg) hs hu h1, by simpa [RI.of] using h2⟩

theorem TW.skip (hg : gwantD ds σ o = some false) (h : TW P ds rest (putS σ o.dst gundef) M (tr ++ [⟨o.dst, [], [], M.length, 0⟩]) K) : TW P ds (o :: rest) σ M tr K := by
  intro ops hops
  obtain ⟨tr', σ', M', h1, h2⟩ := h ops hops
  exact ⟨_ :: tr', σ', M', .skip (by rw [gwantD_of hops]; exact hg) h1, by simpa [RI.of] using h2⟩

/-- What reads alone, its result in its slot. -/
theorem TW.rd {ids : List Nat} {g : GV} (hg : o.guard = none) (hs : OpS P o (rhoOf σ) M.length (getM M) ids g [] [])
    (h : TW P ds rest (putS σ o.dst g) M (tr ++ [⟨o.dst, ids, [], M.length, 0⟩]) K) : TW P ds (o :: rest) σ M tr K := by
  refine TW.step (by unfold gwantD; rw [hg]) hs (by simp) ?_
  have : updL M [] [] = M := by simp [updL]
  rw [this]; exact h

/-- What is guarded, and known to be wanted. -/
theorem TW.want (hg : gwantD ds σ o = some true) (h : TW P ds (⟨o.dst, o.op, o.type, o.pos, o.after, none⟩ :: rest) σ M tr K) : TW P ds (o :: rest) σ M tr K := by
  intro ops hops
  obtain ⟨tr', σ', M', h1, h2⟩ := h ops hops
  cases h1 with
  | skip hg' _ => simp [gwant] at hg'
  | step hg' hs hu h1 =>
    refine ⟨_, σ', M', .step (by rw [gwantD_of hops]; exact hg) (fun Γ D ι M w a K Q a1 a2 a3 a4 a5 => ?_) hu h1, h2⟩
    have := hs Γ D ι M w a K Q a1 a2 a3 a4 a5
    exact this

end
end Go.Gh
