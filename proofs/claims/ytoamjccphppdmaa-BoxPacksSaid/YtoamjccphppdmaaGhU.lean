import Derived.Test.YtoamjccphppdmaaGhT

namespace Go.Gh
variable {P : Program}

def aggTT (T : Tab P) (t : TypeId) : Option Bool := (T.u t).map fun | .struct _ | .array _ _ => true | _ => false

theorem aggTT_ok {T : Tab P} {t : TypeId} {b : Bool} (h : aggTT T t = some b) : aggT P t = some b := by
  unfold aggTT at h
  obtain ⟨d, hd, rfl⟩ := Option.map_eq_some_iff.1 h
  unfold aggT
  rw [T.uok t d hd]; rfl

def ldvT (T : Tab P) (t : TypeId) (cs : List GV) : Option GV :=
  match aggTT T t with
  | some true => if T.sz t ≠ 0 ∧ T.sz t ≤ cs.length then some (.agg (cs.take (T.sz t))) else none
  | some false => cs.head?
  | none => none

theorem ldvT_ok {T : Tab P} {t : TypeId} {cs : List GV} {g : GV} (h : ldvT T t cs = some g) : ldv P t cs = some g := by
  unfold ldvT at h
  unfold ldv
  split at h
  · rename_i ha
    rw [aggTT_ok ha]
    split at h
    · rename_i hc
      rw [T.szok t hc.1]
      simp only
      rw [if_pos hc.2]; exact h
    · cases h
  · rename_i ha
    rw [aggTT_ok ha]; exact h
  · cases h

section
variable (T : Tab P) {ds : List (Option Tmp)} {o : Oper} {rest : List Oper} {σ σ' : List GV} {M M' : List GO} {tr : List RI} {K : List GV → List GO → List RI → Prop}

theorem TW.mv {x : Operand} (ho : o.op = .move x) (hg : o.guard = none) (hp : putS σ o.dst (rhoOf σ x) = σ')
    (h : TW P ds rest σ' M (tr ++ [⟨o.dst, [], [], M.length, 0⟩]) K) : TW P ds (o :: rest) σ M tr K := by
  subst hp; exact TW.rd hg (os_move (.inl ho)) h

theorem TW.as {x : Operand} (ho : o.op = .assign x) (hg : o.guard = none) (hp : putS σ o.dst (rhoOf σ x) = σ')
    (h : TW P ds rest σ' M (tr ++ [⟨o.dst, [], [], M.length, 0⟩]) K) : TW P ds (o :: rest) σ M tr K := by
  subst hp; exact TW.rd hg (os_move (.inr ho)) h

theorem TW.pk {c x y : Operand} {t : Bool} (ho : o.op = .pick c x y) (hg : o.guard = none) (hc : rhoOf σ c = .lit (.bool t)) (hp : putS σ o.dst (bif t then rhoOf σ x else rhoOf σ y) = σ')
    (h : TW P ds rest σ' M (tr ++ [⟨o.dst, [], [], M.length, 0⟩]) K) : TW P ds (o :: rest) σ M tr K := by
  subst hp; exact TW.rd hg (os_pick ho hc) h

theorem TW.bi {op : BinOp} {t yt : TypeId} {x y : Operand} {k : IntKind} {a b : Int} {r : Value} (ho : o.op = .binOp op t x y yt) (hg : o.guard = none) (hx : rhoOf σ x = .lit (.int k a)) (hy : rhoOf σ y = .lit (.int k b))
    (hop : gint op k a b = some r) (hp : putS σ o.dst (.lit r) = σ')
    (h : TW P ds rest σ' M (tr ++ [⟨o.dst, [], [], M.length, 0⟩]) K) : TW P ds (o :: rest) σ M tr K := by
  subst hp
  refine TW.rd hg (os_bin ho hx hy ?_) h
  cases op <;> simp_all [gbin, gint]

/-- A division by what isn't 0. -/
theorem TW.bd {op : BinOp} {t yt : TypeId} {x y : Operand} {k : IntKind} {a b : Int} {r : Value} (ho : o.op = .binOp op t x y yt) (hg : o.guard = none) (hx : rhoOf σ x = .lit (.int k a)) (hy : rhoOf σ y = .lit (.int k b))
    (hop : (op = .quo ∧ r = .int k (k.wrap (a.tdiv b))) ∨ (op = .rem ∧ r = .int k (a.tmod b))) (hb : b ≠ 0) (hp : putS σ o.dst (.lit r) = σ')
    (h : TW P ds rest σ' M (tr ++ [⟨o.dst, [], [], M.length, 0⟩]) K) : TW P ds (o :: rest) σ M tr K := by
  subst hp
  refine TW.rd hg (os_bin ho hx hy ?_) h
  rcases hop with ⟨rfl, rfl⟩ | ⟨rfl, rfl⟩ <;> simp [gbin, gint, hb]

theorem TW.sh {op : BinOp} {t yt : TypeId} {x y : Operand} {k k' : IntKind} {a b : Int} {r : Value} (ho : o.op = .binOp op t x y yt) (hg : o.guard = none) (hx : rhoOf σ x = .lit (.int k a)) (hy : rhoOf σ y = .lit (.int k' b))
    (hop : (op = .shl ∧ r = .int k (k.wrap (a * 2 ^ (min b.toNat k.bits)))) ∨ (op = .shr ∧ r = .int k (a.fdiv (2 ^ (min b.toNat k.bits))))) (hb : 0 ≤ b) (hp : putS σ o.dst (.lit r) = σ')
    (h : TW P ds rest σ' M (tr ++ [⟨o.dst, [], [], M.length, 0⟩]) K) : TW P ds (o :: rest) σ M tr K := by
  subst hp
  have hb' : ¬ b < 0 := by omega
  refine TW.rd hg (os_bin ho hx hy ?_) h
  rcases hop with ⟨rfl, rfl⟩ | ⟨rfl, rfl⟩ <;> simp [gbin, gshift, hb']

theorem TW.bb {op : BinOp} {t yt : TypeId} {x y : Operand} {a b r : Bool} (ho : o.op = .binOp op t x y yt) (hg : o.guard = none) (hx : rhoOf σ x = .lit (.bool a)) (hy : rhoOf σ y = .lit (.bool b))
    (ht : T.u t = some .bool) (hop : (op = .eql ∧ r = (a == b)) ∨ (op = .neq ∧ r = (a != b))) (hp : putS σ o.dst (.lit (.bool r)) = σ')
    (h : TW P ds rest σ' M (tr ++ [⟨o.dst, [], [], M.length, 0⟩]) K) : TW P ds (o :: rest) σ M tr K := by
  subst hp
  refine TW.rd hg (os_bin ho hx hy ?_) h
  rcases hop with ⟨rfl, rfl⟩ | ⟨rfl, rfl⟩ <;> simp [gbin, T.uok t _ ht]

theorem TW.bs {op : BinOp} {t yt : TypeId} {x y : Operand} {a b : ByteArray} {r : Bool} (ho : o.op = .binOp op t x y yt) (hg : o.guard = none) (hx : rhoOf σ x = .lit (.string a)) (hy : rhoOf σ y = .lit (.string b))
    (hop : (op = .eql ∧ r = (a.toList == b.toList)) ∨ (op = .neq ∧ r = !(a.toList == b.toList)) ∨ (op = .lss ∧ r = Op.bytesLess a.toList b.toList)) (hp : putS σ o.dst (.lit (.bool r)) = σ')
    (h : TW P ds rest σ' M (tr ++ [⟨o.dst, [], [], M.length, 0⟩]) K) : TW P ds (o :: rest) σ M tr K := by
  subst hp
  refine TW.rd hg (os_bin ho hx hy ?_) h
  rcases hop with ⟨rfl, rfl⟩ | ⟨rfl, rfl⟩ | ⟨rfl, rfl⟩ <;> simp [gbin]

theorem TW.bp {op : BinOp} {t yt e : TypeId} {x y : Operand} {r : Bool} (ho : o.op = .binOp op t x y yt) (hg : o.guard = none) (hx : notNil (rhoOf σ x) = true) (hy : rhoOf σ y = .lit (.pointer none))
    (ht : T.u t = some (.pointer e)) (hop : (op = .eql ∧ r = false) ∨ (op = .neq ∧ r = true)) (hp : putS σ o.dst (.lit (.bool r)) = σ')
    (h : TW P ds rest σ' M (tr ++ [⟨o.dst, [], [], M.length, 0⟩]) K) : TW P ds (o :: rest) σ M tr K := by
  subst hp
  exact TW.rd hg (os_ptr ho hx hy (T.uok t _ ht) hop) h

theorem TW.bn {op : BinOp} {t yt e : TypeId} {x y : Operand} {r : Bool} (ho : o.op = .binOp op t x y yt) (hg : o.guard = none) (hx : rhoOf σ x = .lit (.pointer none)) (hy : rhoOf σ y = .lit (.pointer none))
    (ht : T.u t = some (.pointer e)) (hop : (op = .eql ∧ r = true) ∨ (op = .neq ∧ r = false)) (hp : putS σ o.dst (.lit (.bool r)) = σ')
    (h : TW P ds rest σ' M (tr ++ [⟨o.dst, [], [], M.length, 0⟩]) K) : TW P ds (o :: rest) σ M tr K := by
  subst hp
  refine TW.rd hg (os_bin ho hx hy ?_) h
  rcases hop with ⟨rfl, rfl⟩ | ⟨rfl, rfl⟩ <;> simp [gbin, T.uok t _ ht]

/-- Structs of plain fields, held against each other, by the table. -/
def geqT (T : Tab P) (xs ys : List GV) : List Field → Option Bool
  | [] => some true
  | f :: fs => if f.name = "_" then none else
    match T.u f.type, xs[f.offset]?, ys[f.offset]? with
    | some (.int _), some (.lit (.int k a)), some (.lit (.int k' b)) => if k = k' then (geqT T xs ys fs).map fun t => (a == b) && t else none
    | some .bool, some (.lit (.bool a)), some (.lit (.bool b)) => (geqT T xs ys fs).map fun t => (a == b) && t
    | _, _, _ => none

theorem geqT_ok {xs ys : List GV} : ∀ {fs : List Field} {r : Bool}, geqT T xs ys fs = some r → geqF P xs ys fs = some r
  | [], r, h => h
  | f :: fs, r, h => by
    unfold geqT at h
    unfold geqF
    split at h
    · cases h
    · rename_i hn
      rw [if_neg hn]
      split at h
      · rename_i k' k a k'' b hu hxa hyb
        have hu' := T.uok _ _ hu
        have ha : aggT P f.type = some false := by unfold aggT; rw [hu']; rfl
        rw [ha, hu', hxa, hyb]
        simp only
        split at h
        · rename_i hk
          rw [if_pos hk]
          obtain ⟨t, ht, hr⟩ := Option.map_eq_some_iff.1 h
          rw [geqT_ok ht]; simp [hr]
        · cases h
      · rename_i a b hu hxa hyb
        have hu' := T.uok _ _ hu
        have ha : aggT P f.type = some false := by unfold aggT; rw [hu']; rfl
        rw [ha, hu', hxa, hyb]
        simp only
        obtain ⟨t, ht, hr⟩ := Option.map_eq_some_iff.1 h
        rw [geqT_ok ht]; simp [hr]
      · cases h

theorem TW.bq {op : BinOp} {t yt : TypeId} {x y : Operand} {r r' : Bool} {xs ys : List GV} {fs : Array Field} (ho : o.op = .binOp op t x y yt) (hg : o.guard = none) (hx : litCells (rhoOf σ x) = some xs) (hy : litCells (rhoOf σ y) = some ys)
    (ht : T.u t = some (.struct fs)) (he : T.eq t = true) (hr : geqT T xs ys fs.toList = some r) (hop : (op = .eql ∧ r' = r) ∨ (op = .neq ∧ r' = !r)) (hp : putS σ o.dst (.lit (.bool r')) = σ')
    (h : TW P ds rest σ' M (tr ++ [⟨o.dst, [], [], M.length, 0⟩]) K) : TW P ds (o :: rest) σ M tr K := by
  subst hp
  exact TW.rd hg (os_aggEq ho hx hy (T.uok t _ ht) (T.eqok t he).1 (T.eqok t he).2 (geqT_ok T hr) hop) h

theorem TW.nt {t : TypeId} {x : Operand} {b : Bool} (ho : o.op = .unOp .not t x) (hg : o.guard = none) (hx : rhoOf σ x = .lit (.bool b)) (hp : putS σ o.dst (.lit (.bool !b)) = σ')
    (h : TW P ds rest σ' M (tr ++ [⟨o.dst, [], [], M.length, 0⟩]) K) : TW P ds (o :: rest) σ M tr K := by
  subst hp; exact TW.rd hg (os_not ho hx) h

theorem TW.ng {t : TypeId} {x : Operand} {k : IntKind} {n : Int} (ho : o.op = .unOp .neg t x) (hg : o.guard = none) (hx : rhoOf σ x = .lit (.int k n)) (hp : putS σ o.dst (.lit (.int k (k.wrap (0 - n)))) = σ')
    (h : TW P ds rest σ' M (tr ++ [⟨o.dst, [], [], M.length, 0⟩]) K) : TW P ds (o :: rest) σ M tr K := by
  subst hp; exact TW.rd hg (os_neg ho hx) h

theorem TW.cv {src dst : TypeId} {x : Operand} {k k' ks : IntKind} {n : Int} (ho : o.op = .convert src dst x) (hg : o.guard = none) (hs : T.u src = some (.int ks)) (hd : T.u dst = some (.int k')) (hx : rhoOf σ x = .lit (.int k n))
    (hp : putS σ o.dst (.lit (.int k' (k'.wrap n))) = σ')
    (h : TW P ds rest σ' M (tr ++ [⟨o.dst, [], [], M.length, 0⟩]) K) : TW P ds (o :: rest) σ M tr K := by
  subst hp; exact TW.rd hg (os_conv ho (T.uok _ _ hs) (T.uok _ _ hd) hx) h

theorem TW.nc {x : Operand} (ho : o.op = .nilCheck x) (hg : o.guard = none) (hx : isAddr (rhoOf σ x) = true) (hp : putS σ o.dst (rhoOf σ x) = σ')
    (h : TW P ds rest σ' M (tr ++ [⟨o.dst, [], [], M.length, 0⟩]) K) : TW P ds (o :: rest) σ M tr K := by
  subst hp; exact TW.rd hg (os_nil ho hx) h

theorem TW.ex {x : Operand} {i : Nat} {cs : List GV} {g : GV} (ho : o.op = .extract x i) (hg : o.guard = none) (hx : rhoOf σ x = .tup cs) (hi : cs[i]? = some g) (hp : putS σ o.dst g = σ')
    (h : TW P ds rest σ' M (tr ++ [⟨o.dst, [], [], M.length, 0⟩]) K) : TW P ds (o :: rest) σ M tr K := by
  subst hp; exact TW.rd hg (os_extract ho hx hi) h

theorem TW.ld {t : TypeId} {x : Operand} {id i j : Nat} {cs : List GV} {g : GV} (ho : o.op = .load t x) (hg : o.guard = none) (hx : rhoOf σ x = .adr id i j) (hc : cellsAt (getM M id) i = some cs) (hl : ldvT T t (cs.drop j) = some g)
    (hp : putS σ o.dst g = σ') (h : TW P ds rest σ' M (tr ++ [⟨o.dst, [id], [], M.length, 0⟩]) K) : TW P ds (o :: rest) σ M tr K := by
  subst hp; exact TW.rd hg (os_load ho hx hc (ldvT_ok hl)) h

theorem TW.li {t : TypeId} {x : Operand} {bw : Bool} {cs : List GV} {g : GV} (ho : o.op = .load t x) (hg : o.guard = none) (hx : rhoOf σ x = .iadr bw cs) (hl : ldvT T t cs = some g)
    (hp : putS σ o.dst g = σ') (h : TW P ds rest σ' M (tr ++ [⟨o.dst, [], [], M.length, 0⟩]) K) : TW P ds (o :: rest) σ M tr K := by
  subst hp; exact TW.rd hg (os_loadI ho hx (ldvT_ok hl)) h

theorem TW.st {t : TypeId} {x y : Operand} {id i j : Nat} {vs : List GV} {ob : GO} {d : TypeDesc} (ho : o.op = .store t x y) (hg : o.guard = none) (hx : rhoOf σ x = .adr id i j) (hy : gcells (rhoOf σ y) = some vs)
    (hu : T.u t = some d) (hsz : T.sz t = vs.length) (hne : vs.length ≠ 0) (hpa : putAt (getM M id) i j vs = some ob) (hid : id < M.length) (hd : o.dst = none) (hM : updL M [(id, ob)] [] = M')
    (h : TW P ds rest σ M' (tr ++ [⟨none, [id], [id], M.length, 0⟩]) K) : TW P ds (o :: rest) σ M tr K := by
  subst hM
  refine TW.step (by unfold gwantD; rw [hg]) (os_store ho hx hy (T.uok _ _ hu) (by rw [← hsz] at hne; rw [T.szok t hne, hsz]) hpa) (fun x hx => by simp at hx; subst hx; exact hid) ?_
  rw [hd]; exact h

theorem TW.fa {s : TypeId} {x : Operand} {n id i j : Nat} {fs : Array Field} {f : Field} (ho : o.op = .fieldAddr s x n) (hg : o.guard = none) (hx : rhoOf σ x = .adr id i j) (hs : T.u s = some (.struct fs)) (hf : fs[n]? = some f)
    (hne : T.sz f.type ≠ 0) (hp : putS σ o.dst (.adr id i (j + f.offset)) = σ')
    (h : TW P ds rest σ' M (tr ++ [⟨o.dst, [], [], M.length, 0⟩]) K) : TW P ds (o :: rest) σ M tr K := by
  subst hp; exact TW.rd hg (os_field ho hx (T.uok _ _ hs) hf (by rw [T.szok _ hne]; exact hne)) h

theorem TW.fi {s : TypeId} {x : Operand} {n : Nat} {bw : Bool} {cs : List GV} {fs : Array Field} {f : Field} (ho : o.op = .fieldAddr s x n) (hg : o.guard = none) (hx : rhoOf σ x = .iadr bw cs) (hs : T.u s = some (.struct fs)) (hf : fs[n]? = some f)
    (hne : T.sz f.type ≠ 0) (hp : putS σ o.dst (.iadr bw (cs.drop f.offset)) = σ')
    (h : TW P ds rest σ' M (tr ++ [⟨o.dst, [], [], M.length, 0⟩]) K) : TW P ds (o :: rest) σ M tr K := by
  subst hp; exact TW.rd hg (os_fieldI ho hx (T.uok _ _ hs) hf (by rw [T.szok _ hne]; exact hne)) h

theorem TW.ix {t e : TypeId} {x y : Operand} {bw : Bool} {sz : Nat} {xs ex : List (List GV)} {k : IntKind} {n : Int} {cs : List GV} (ho : o.op = .indexAddr t x y) (hg : o.guard = none)
    (hx : rhoOf σ x = .sl bw sz xs ex) (hy : rhoOf σ y = .lit (.int k n)) (ht : T.u t = some (.slice e)) (hsz : T.sz e = sz) (hne : T.sz e ≠ 0) (h0 : 0 ≤ n) (h1 : n < xs.length) (hc : xs[n.toNat]? = some cs) (hp : putS σ o.dst (.iadr bw cs) = σ')
    (h : TW P ds rest σ' M (tr ++ [⟨o.dst, [], [], M.length, 0⟩]) K) : TW P ds (o :: rest) σ M tr K := by
  subst hp; exact TW.rd hg (os_idxI ho (T.uok _ _ ht) (by rw [T.szok _ hne]; exact hsz) (by omega) hx hy h0 h1 hc) h

theorem TW.ir {t e e' : TypeId} {x y : Operand} {sz id : Nat} {xs : List (List GV)} {k : IntKind} {n : Int} (ho : o.op = .indexAddr t x y) (hg : o.guard = none)
    (hx : rhoOf σ x = .row id) (hy : rhoOf σ y = .lit (.int k n)) (hM : getM M id = .row e' sz xs) (ht : T.u t = some (.slice e)) (hsz : T.sz e = sz) (hne : T.sz e ≠ 0) (h0 : 0 ≤ n) (h1 : n < xs.length) (hp : putS σ o.dst (.adr id n.toNat 0) = σ')
    (h : TW P ds rest σ' M (tr ++ [⟨o.dst, [id], [], M.length, 0⟩]) K) : TW P ds (o :: rest) σ M tr K := by
  subst hp; exact TW.rd hg (os_idxR ho (T.uok _ _ ht) (by rw [T.szok _ hne]; exact hsz) (by omega) hx hM hy h0 h1) h

theorem TW.is {t e e' : TypeId} {x y : Operand} {sz id lo hi : Nat} {xs : List (List GV)} {k : IntKind} {n : Int} (ho : o.op = .indexAddr t x y) (hg : o.guard = none)
    (hx : rhoOf σ x = .sub id lo hi) (hy : rhoOf σ y = .lit (.int k n)) (hM : getM M id = .row e' sz xs) (ht : T.u t = some (.slice e)) (hsz : T.sz e = sz) (hne : T.sz e ≠ 0) (h0 : 0 ≤ n) (h1 : n < (hi - lo : Nat)) (hp : putS σ o.dst (.adr id (lo + n.toNat) 0) = σ')
    (h : TW P ds rest σ' M (tr ++ [⟨o.dst, [id], [], M.length, 0⟩]) K) : TW P ds (o :: rest) σ M tr K := by
  subst hp; exact TW.rd hg (os_idxS ho (T.uok _ _ ht) (by rw [T.szok _ hne]; exact hsz) (by omega) hx hM hy h0 h1) h

theorem TW.ia {t e : TypeId} {len : Nat} {x y : Operand} {id i j : Nat} {k : IntKind} {n : Int} (ho : o.op = .indexAddr t x y) (hg : o.guard = none)
    (hx : rhoOf σ x = .adr id i j) (hy : rhoOf σ y = .lit (.int k n)) (ht : T.u t = some (.array len e)) (hne : T.sz e ≠ 0) (h0 : 0 ≤ n) (h1 : n < len) (hp : putS σ o.dst (.adr id i (j + n.toNat * T.sz e)) = σ')
    (h : TW P ds rest σ' M (tr ++ [⟨o.dst, [], [], M.length, 0⟩]) K) : TW P ds (o :: rest) σ M tr K := by
  subst hp
  refine TW.rd hg ?_ h
  have := os_idxA (P := P) (ρ := rhoOf σ) (nb := M.length) (M0 := getM M) ho (T.uok _ _ ht) (by rw [T.szok _ hne]; exact hne) hx hy h0 h1
  rwa [T.szok _ hne] at this

theorem TW.bx {t : TypeId} {x : Operand} {cs : List GV} (ho : o.op = .box t x) (hg : o.guard = none) (hx : gcells (rhoOf σ x) = some cs) (hp : putS σ o.dst (.adr M.length 0 0) = σ') (hM : M ++ [.cells cs] = M')
    (h : TW P ds rest σ' M' (tr ++ [⟨o.dst, [], [], M.length, 1⟩]) K) : TW P ds (o :: rest) σ M tr K := by
  subst hp; subst hM
  exact TW.step (by unfold gwantD; rw [hg]) (os_box ho hx) (by simp) h

theorem TW.al {t : TypeId} {z : Value} (ho : o.op = .alloc t) (hg : o.guard = none) (hz : T.z t = some z) (hf : flatAll z = true) (hp : putS σ o.dst (.adr M.length 0 0) = σ') (hM : M ++ [.cells (z.cells.toList.map .lit)] = M')
    (h : TW P ds rest σ' M' (tr ++ [⟨o.dst, [], [], M.length, 1⟩]) K) : TW P ds (o :: rest) σ M tr K := by
  subst hp; subst hM
  exact TW.step (by unfold gwantD; rw [hg]) (os_alloc ho (T.zok _ _ hz) hf) (by simp) h

theorem TW.ln {t e n : Nat} {x : Operand} (ho : o.op = .call { callee := .builtin .len, args := #[x], argTypes := #[t] }) (hg : o.guard = none) (ht : T.u t = some (.slice e))
    (hx : lenOfG (getM M) (rhoOf σ x) = some n) (hp : putS σ o.dst (.lit (.int .i64 n)) = σ')
    (h : TW P ds rest σ' M (tr ++ [⟨o.dst, gid (rhoOf σ x), [], M.length, 0⟩]) K) : TW P ds (o :: rest) σ M tr K := by
  subst hp; exact TW.rd hg (os_len ho (T.uok _ _ ht) hx) h

theorem TW.la {t e n : Nat} {x : Operand} (ho : o.op = .call { callee := .builtin .len, args := #[x], argTypes := #[t] }) (hg : o.guard = none) (ht : T.u t = some (.array n e)) (hp : putS σ o.dst (.lit (.int .i64 n)) = σ')
    (h : TW P ds rest σ' M (tr ++ [⟨o.dst, [], [], M.length, 0⟩]) K) : TW P ds (o :: rest) σ M tr K := by
  subst hp; exact TW.rd hg (os_lenArr ho (T.uok _ _ ht)) h

theorem TW.ls {t : Nat} {x : Operand} {s : ByteArray} (ho : o.op = .call { callee := .builtin .len, args := #[x], argTypes := #[t] }) (hg : o.guard = none) (ht : T.u t = some .string) (hx : rhoOf σ x = .lit (.string s)) (hp : putS σ o.dst (.lit (.int .i64 s.size)) = σ')
    (h : TW P ds rest σ' M (tr ++ [⟨o.dst, [], [], M.length, 0⟩]) K) : TW P ds (o :: rest) σ M tr K := by
  subst hp; exact TW.rd hg (os_lenStr ho (T.uok _ _ ht) hx) h

/-- An element's type, by the table. -/
def elemTT (T : Tab P) (t : Nat) : Option (Nat × Nat × Nat) :=
  match T.u t with
  | some (.slice e) => if T.sz e ≠ 0 ∧ T.bs e ≠ 0 ∧ (T.z e).any (fun z => z.cells.size == T.sz e) then some (e, T.sz e, T.bs e) else none
  | _ => none

theorem elemTT_ok {t e sz bytes : Nat} (h : elemTT T t = some (e, sz, bytes)) : ElemT P t e sz bytes := by
  unfold elemTT at h
  split at h
  · rename_i e' hu
    split at h
    · rename_i hc
      obtain ⟨h1, h2, h3⟩ := hc
      simp only [Option.some.injEq, Prod.mk.injEq] at h
      obtain ⟨rfl, rfl, rfl⟩ := h
      obtain ⟨z, hz, hzs⟩ := (Option.any_eq_true _ _).1 h3
      exact ⟨T.uok _ _ hu, T.szok _ h1, T.bsok _ h2, ⟨z, T.zok _ _ hz, by simpa using hzs⟩, by omega⟩
    · cases h
  · cases h

theorem TW.an {t e sz bytes : Nat} {x y : Operand} {ys : List (List GV)} (ho : o.op = .call { callee := .builtin .append, args := #[x, y], argTypes := #[t, t] }) (hg : o.guard = none) (hT : elemTT T t = some (e, sz, bytes))
    (hx : rhoOf σ x = .lit (.slice none 0 0)) (hy : srcOf (getM M) sz (rhoOf σ y) = some ys) (hb : ys.length * bytes ≤ 140737488355328 ∧ ys.length ≤ 140737488355328) (hp : putS σ o.dst (.row M.length) = σ') (hM : M ++ [.row e sz ys] = M')
    (h : TW P ds rest σ' M' (tr ++ [⟨o.dst, gid (rhoOf σ y), [], M.length, 1⟩]) K) : TW P ds (o :: rest) σ M tr K := by
  subst hp; subst hM
  exact TW.step (by unfold gwantD; rw [hg]) (os_append_nil (elemTT_ok T hT) ho hx hy hb.1 hb.2) (by simp) h

theorem TW.ar {t e sz bytes : Nat} {x y : Operand} {id : Nat} {xs ys : List (List GV)} (ho : o.op = .call { callee := .builtin .append, args := #[x, y], argTypes := #[t, t] }) (hg : o.guard = none) (hT : elemTT T t = some (e, sz, bytes))
    (hx : rhoOf σ x = .row id) (hid : id < M.length) (hMi : getM M id = .row e sz xs) (hy : srcOf (getM M) sz (rhoOf σ y) = some ys) (hb : (xs.length + ys.length) * bytes ≤ 140737488355328 ∧ xs.length + ys.length ≤ 140737488355328)
    (hp : putS σ o.dst (.row M.length) = σ') (hM : updL M [(id, .dead)] [.row e sz (xs ++ ys)] = M')
    (h : TW P ds rest σ' M' (tr ++ [⟨o.dst, id :: gid (rhoOf σ y), [id], M.length, 1⟩]) K) : TW P ds (o :: rest) σ M tr K := by
  subst hp; subst hM
  exact TW.step (by unfold gwantD; rw [hg]) (os_append_row (elemTT_ok T hT) ho hx hMi hy hb.1 hb.2) (fun x hx => by simp at hx; subst hx; exact hid) h

theorem TW.m2 {x y : Operand} {ts : Array TypeId} {k : IntKind} {a b : Int} (ho : o.op = .call { callee := .builtin .min, args := #[x, y], argTypes := ts }) (hg : o.guard = none)
    (hx : rhoOf σ x = .lit (.int k a)) (hy : rhoOf σ y = .lit (.int k b)) (hp : putS σ o.dst (.lit (.int k (if b < a then b else a))) = σ')
    (h : TW P ds rest σ' M (tr ++ [⟨o.dst, [], [], M.length, 0⟩]) K) : TW P ds (o :: rest) σ M tr K := by
  subst hp; exact TW.rd hg (os_min2 ho hx hy) h

theorem TW.m3 {x y z : Operand} {ts : Array TypeId} {k : IntKind} {a b c : Int} (ho : o.op = .call { callee := .builtin .min, args := #[x, y, z], argTypes := ts }) (hg : o.guard = none)
    (hx : rhoOf σ x = .lit (.int k a)) (hy : rhoOf σ y = .lit (.int k b)) (hz : rhoOf σ z = .lit (.int k c)) (hp : putS σ o.dst (.lit (.int k (if c < (if b < a then b else a) then c else (if b < a then b else a)))) = σ')
    (h : TW P ds rest σ' M (tr ++ [⟨o.dst, [], [], M.length, 0⟩]) K) : TW P ds (o :: rest) σ M tr K := by
  subst hp; exact TW.rd hg (os_min3 ho hx hy hz) h

theorem TW.x2 {x y : Operand} {ts : Array TypeId} {k : IntKind} {a b : Int} (ho : o.op = .call { callee := .builtin .max, args := #[x, y], argTypes := ts }) (hg : o.guard = none)
    (hx : rhoOf σ x = .lit (.int k a)) (hy : rhoOf σ y = .lit (.int k b)) (hp : putS σ o.dst (.lit (.int k (if b > a then b else a))) = σ')
    (h : TW P ds rest σ' M (tr ++ [⟨o.dst, [], [], M.length, 0⟩]) K) : TW P ds (o :: rest) σ M tr K := by
  subst hp; exact TW.rd hg (os_max2 ho hx hy) h

theorem TW.cl {f : Nat} {caps : Array Operand} (ho : o.op = .makeFunc (.func f) #[] caps) (hg : o.guard = none) (hp : putS σ o.dst (.clo f (caps.toList.map (rhoOf σ))) = σ')
    (h : TW P ds rest σ' M (tr ++ [⟨o.dst, [], [], M.length, 0⟩]) K) : TW P ds (o :: rest) σ M tr K := by
  subst hp; exact TW.rd hg (os_closure ho) h

/-- A call to which no object is handed: what it makes stands behind. -/
theorem TW.c0 {f : FuncId} {c : Operand} {xs : Array Operand} {ts : Array TypeId} {caps args : List GV} {r : GV} {N : List GO} (ho : o.op = .call { callee := .value c, args := xs, argTypes := ts }) (hg : o.guard = none)
    (hc : calleeG (rhoOf σ c) = some (f, caps)) (hf : T.fn f = true) (ha : lendAll (getM M) [] (xs.toList.map (rhoOf σ) ++ caps) = some args) (hF : FS P f args [] r N) (hnb : nobw r = true) (hnN : N.all nobwO = true)
    (hp : putS σ o.dst (ren (upN [] M.length) r) = σ') (hM : M ++ N.map (renO (upN [] M.length)) = M')
    (h : TW P ds rest σ' M' (tr ++ [⟨o.dst, [] ++ borAll [] (xs.toList.map (rhoOf σ) ++ caps), [], M.length, (N.map (renO (upN [] M.length))).length⟩]) K) : TW P ds (o :: rest) σ M tr K := by
  subst hp; subst hM
  obtain ⟨fn, h1, h2, h3⟩ := T.fnok f hf
  have := os_call (P := P) (ρ := rhoOf σ) (nb := M.length) (M0 := getM M) h1 h2 h3 ho hc [] (by simp) (by simp) (by simp) ha (M' := N) hF (by simp) hnb (fun o ho => List.all_eq_true.1 hnN o ho)
  simp only [List.zip_nil_left, List.length_nil, List.drop_zero] at this
  exact TW.step (by unfold gwantD; rw [hg]) this (by simp) h

/-- A call to which objects are handed. -/
theorem TW.cm {f : FuncId} {c : Operand} {xs : Array Operand} {ts : Array TypeId} {caps args : List GV} {r : GV} {N Mc : List GO} (ids : List Nat) (ho : o.op = .call { callee := .value c, args := xs, argTypes := ts }) (hg : o.guard = none)
    (hc : calleeG (rhoOf σ c) = some (f, caps)) (hf : T.fn f = true) (hnd : ids.Nodup) (hlv : ids.all (fun id => decide (id < M.length) && (match getM M id with | .dead => false | _ => true) && ginO ids (getM M id)) = true)
    (ha : lendAll (getM M) ids (xs.toList.map (rhoOf σ) ++ caps) = some args) (hMc : (ids.map fun id => renO (ids.idxOf ·) (getM M id)) = Mc) (hF : FS P f args Mc r N) (hlen : ids.length ≤ N.length) (hnb : nobw r = true) (hnN : N.all nobwO = true)
    (hp : putS σ o.dst (ren (upN ids M.length) r) = σ') (hM : updL M (ids.zip ((N.take ids.length).map (renO (upN ids M.length)))) ((N.drop ids.length).map (renO (upN ids M.length))) = M')
    (h : TW P ds rest σ' M' (tr ++ [⟨o.dst, ids ++ borAll ids (xs.toList.map (rhoOf σ) ++ caps), (ids.zip ((N.take ids.length).map (renO (upN ids M.length)))).map (·.1), M.length, ((N.drop ids.length).map (renO (upN ids M.length))).length⟩]) K) : TW P ds (o :: rest) σ M tr K := by
  subst hp; subst hM; subst hMc
  obtain ⟨fn, h1, h2, h3⟩ := T.fnok f hf
  have hl : ∀ id, id ∈ ids → id < M.length ∧ getM M id ≠ .dead ∧ ginO ids (getM M id) = true := fun id h => by
    have := List.all_eq_true.1 hlv id h
    simp only [Bool.and_eq_true, decide_eq_true_eq] at this
    exact ⟨this.1.1, fun e => by rw [e] at this; simp at this, this.2⟩
  refine TW.step (by unfold gwantD; rw [hg]) (os_call (P := P) (ρ := rhoOf σ) (nb := M.length) (M0 := getM M) h1 h2 h3 ho hc ids hnd (fun id h => (hl id h).2.1) (fun id h => (hl id h).2.2) ha (M' := N) hF hlen hnb (fun o ho => List.all_eq_true.1 hnN o ho)) ?_ h
  rintro ⟨i, ob⟩ hx
  exact (hl i (List.of_mem_zip hx).1).1

end
end Go.Gh
