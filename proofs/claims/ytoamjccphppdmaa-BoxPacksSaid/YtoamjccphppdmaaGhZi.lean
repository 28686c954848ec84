import Derived.Test.YtoamjccphppdmaaGhZh

/-! Arrays of cells: read and written at a number that is not known. -/

namespace Go.Gh
variable {P : Program}

theorem os_indexV {o : Oper} {ρ : Rho} {nb : Nat} {M0 : Nat → GO} {t e : TypeId} {len : Nat} {x y : Operand} {cs : List GV} {g : GV} {k : IntKind} {n : Int} (ho : o.op = .index t x y) (ht : P.underlying t = some (.array len e))
    (ha : aggT P e = some false) (hsz : P.cellsOf e = 1) (hx : ρ x = .agg cs) (hy : ρ y = .lit (.int k n)) (h0 : 0 ≤ n) (h1 : n < len) (hg : cs[n.toNat]? = some g) : OpS P o ρ nb M0 [] g [] [] := by
  refine .quiet fun Γ D ι M w ac _ hV _ => ?_
  obtain ⟨vs, e1, hn, hf, hr⟩ := (hx ▸ hV x (by simp [ho, Op.operands])).agg_inv
  have e2 := (hy ▸ hV y (by simp [ho, Op.operands])).lit_inv
  obtain ⟨ti, hti⟩ := cellsOf_info (P := P) (t := e) (by rw [hsz]; decide)
  refine ⟨vs.getD n.toNat undef, hr _ g hg, ?_⟩
  have hi : n.toNat < vs.size := by rw [hn]; exact (List.getElem?_eq_some_iff.1 hg).1
  simp [execOp, ho, e1, e2, Instr.index, part, run_asIntOf, run_und ht, h0, h1, run_sz hti, hsz, run_isA ha, hi]

section
variable (T : Tab P) {ds : List (Option Tmp)} {o : Oper} {rest : List Oper} {σ σ' : List GV} {M M' : List GO} {tr : List RI} {K : List GV → List GO → List RI → Prop}

theorem TW.iv {t e : TypeId} {len : Nat} {x y : Operand} {cs : List GV} {g : GV} {k : IntKind} {n : Int} (ho : o.op = .index t x y) (hg : o.guard = none)
    (hx : rhoOf σ x = .agg cs) (hy : rhoOf σ y = .lit (.int k n)) (ht : T.u t = some (.array len e)) (ha : aggTT T e = some false) (hsz : T.sz e = 1) (h0 : 0 ≤ n) (h1 : n < len) (hc : cs[n.toNat]? = some g) (hp : putS σ o.dst g = σ')
    (h : TW P ds rest σ' M (tr ++ [⟨o.dst, [], [], M.length, 0⟩]) K) : TW P ds (o :: rest) σ M tr K := by
  subst hp
  exact TW.rd hg (os_indexV ho (T.uok _ _ ht) (aggTT_ok ha) (by rw [T.szok _ (by rw [hsz]; decide)]; exact hsz) hx hy h0 h1 hc) h

/-- One cell of an object, at a number that is not known. -/
theorem TW.lx {t : TypeId} {x : Operand} {id i j : Nat} {cs : List GV} {g : GV} (ho : o.op = .load t x) (hg : o.guard = none) (hx : rhoOf σ x = .adr id i j) (hc : cellsAt (getM M id) i = some cs) (ha : aggTT T t = some false) (hl : cs[j]? = some g)
    (hp : putS σ o.dst g = σ') (h : TW P ds rest σ' M (tr ++ [⟨o.dst, [id], [], M.length, 0⟩]) K) : TW P ds (o :: rest) σ M tr K :=
  TW.ld T ho hg hx hc (by unfold ldvT; rw [ha]; simp only [List.head?_drop]; exact hl) hp h

theorem TW.sx {t : TypeId} {x y : Operand} {id i j : Nat} {v : GV} {cs cs' : List GV} {d : TypeDesc} (ho : o.op = .store t x y) (hg : o.guard = none) (hx : rhoOf σ x = .adr id i j) (hy : gcells (rhoOf σ y) = some [v])
    (hu : T.u t = some d) (hsz : T.sz t = 1) (hM0 : getM M id = .cells cs) (hj : j < cs.length) (hs : cs.set j v = cs') (hid : id < M.length) (hd : o.dst = none) (hM : updL M [(id, .cells cs')] [] = M')
    (h : TW P ds rest σ' M' (tr ++ [⟨none, [id], [id], M.length, 0⟩]) K) (hσ : σ = σ') : TW P ds (o :: rest) σ M tr K := by
  subst hσ
  exact TW.st T ho hg hx hy hu (by rw [hsz]; rfl) (by simp) (by rw [hM0]; unfold putAt; simp only [List.length_cons, List.length_nil]; rw [if_pos (by omega)]; simp only [setMany]; rw [hs]) hid hd hM h
end
def opk2 : Op → Nat
  | .index .. => 15
  | .load .. => 16
  | .store .. => 17
  | _ => 0
theorem TW.kd2 {ds : List (Option Tmp)} {o : Oper} {rest : List Oper} {σ : List GV} {M : List GO} {tr : List RI} {K : List GV → List GO → List RI → Prop} (k : Nat) (_hk : opk2 o.op = k) (h : TW P ds (o :: rest) σ M tr K) : TW P ds (o :: rest) σ M tr K := h

/-- Sixteen numbers of 32 bits, as cells. -/
def lu (x : Int) : GV := .lit (.int .u32 x)
def dg (d : Nat → Int) : List GV := [lu (d 0), lu (d 1), lu (d 2), lu (d 3), lu (d 4), lu (d 5), lu (d 6), lu (d 7), lu (d 8), lu (d 9), lu (d 10), lu (d 11), lu (d 12), lu (d 13), lu (d 14), lu (d 15)]
def upd (d : Nat → Int) (k : Nat) (v : Int) : Nat → Int := fun i => if i = k then v else d i
theorem dg_len (d : Nat → Int) : (dg d).length = 16 := rfl
theorem dg_at (d : Nat → Int) : ∀ {k : Nat}, k < 16 → (dg d)[k]? = some (lu (d k))
  | 0, _ => rfl
  | 1, _ => rfl
  | 2, _ => rfl
  | 3, _ => rfl
  | 4, _ => rfl
  | 5, _ => rfl
  | 6, _ => rfl
  | 7, _ => rfl
  | 8, _ => rfl
  | 9, _ => rfl
  | 10, _ => rfl
  | 11, _ => rfl
  | 12, _ => rfl
  | 13, _ => rfl
  | 14, _ => rfl
  | 15, _ => rfl
  | n + 16, h => absurd h (by omega)
theorem dg_set (d : Nat → Int) (v : Int) : ∀ {k : Nat}, k < 16 → (dg d).set k (lu v) = dg (upd d k v)
  | 0, _ => rfl
  | 1, _ => rfl
  | 2, _ => rfl
  | 3, _ => rfl
  | 4, _ => rfl
  | 5, _ => rfl
  | 6, _ => rfl
  | 7, _ => rfl
  | 8, _ => rfl
  | 9, _ => rfl
  | 10, _ => rfl
  | 11, _ => rfl
  | 12, _ => rfl
  | 13, _ => rfl
  | 14, _ => rfl
  | 15, _ => rfl
  | n + 16, h => absurd h (by omega)
theorem dg_drop (d : Nat → Int) : ∀ {k : Nat}, k < 16 → ((dg d).drop k).head? = some (lu (d k))
  | 0, _ => rfl
  | 1, _ => rfl
  | 2, _ => rfl
  | 3, _ => rfl
  | 4, _ => rfl
  | 5, _ => rfl
  | 6, _ => rfl
  | 7, _ => rfl
  | 8, _ => rfl
  | 9, _ => rfl
  | 10, _ => rfl
  | 11, _ => rfl
  | 12, _ => rfl
  | 13, _ => rfl
  | 14, _ => rfl
  | 15, _ => rfl
  | n + 16, h => absurd h (by omega)
end Go.Gh
