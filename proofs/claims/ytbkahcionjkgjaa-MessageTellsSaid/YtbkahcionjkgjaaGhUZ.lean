import Derived.Test.YtbkahcionjkgjaaGhKT
import Derived.KernelRfl
import Derived.Deep.Slices
import Derived.OpenShut
import Derived.ChangeArms
import Derived.ChangeOld
import Derived.Carry
import Derived.SizedLaws
import Derived.RowKit
import Derived.Below
import Derived.Laws.Tables
import Derived.Great.BuildSlice

namespace Go.Gh
variable {P : Program}

def aggTT (T : Tab P) (t : TypeId) : Option Bool := (T.u t).map fun | .struct _ | .array _ _ => true | _ => false

theorem aggTT_ok {T : Tab P} {t : TypeId} {b : Bool} (h : aggTT T t = some b) : aggT P t = some b := by
  unfold aggTT at h
  obtain ⟨d, hd, rfl⟩ := Option.map_eq_some_iff.1 h
  unfold aggT
  rw [T.uok t d hd]; rfl

def ldvT (T : Tab P) (t : TypeId) (cs : List GV) : Option GV :=
  match aggTT T t with
  | some true => if T.sz t ≠ 0 ∧ T.sz t ≤ cs.length then some (.agg (cs.take (T.sz t))) else none
  | some false => cs.head?
  | none => none

theorem ldvT_ok {T : Tab P} {t : TypeId} {cs : List GV} {g : GV} (h : ldvT T t cs = some g) : ldv P t cs = some g := by
  unfold ldvT at h
  unfold ldv
  split at h
  · rename_i ha
    rw [aggTT_ok ha]
    split at h
    · rename_i hc
      rw [T.szok t hc.1]
      simp only
      rw [if_pos hc.2]; exact h
    · cases h
  · rename_i ha
    rw [aggTT_ok ha]; exact h
  · cases h

section
variable (T : Tab P) {ds : List (Option Tmp)} {o : Oper} {rest : List Oper} {σ σ' : List GV} {M M' : List GO} {tr : List RI} {K : List GV → List GO → List RI → Prop}

theorem TW.mv {x : Operand} (ho : o.op = .move x) (hg : o.guard = none) (hp : putS σ o.dst (rhoOf σ x) = σ')
    (h : TW P ds rest σ' M (tr ++ [⟨o.dst, [], [], M.length, 0⟩]) K) : TW P ds (o :: rest) σ M tr K := by
  subst hp; exact TW.rd hg (os_move (.inl ho)) h

theorem TW.as {x : Operand} (ho : o.op = .assign x) (hg : o.guard = none) (hp : putS σ o.dst (rhoOf σ x) = σ')
    (h : TW P ds rest σ' M (tr ++ [⟨o.dst, [], [], M.length, 0⟩]) K) : TW P ds (o :: rest) σ M tr K := by
  subst hp; exact TW.rd hg (os_move (.inr ho)) h

theorem TW.pk {c x y : Operand} {t : Bool} (ho : o.op = .pick c x y) (hg : o.guard = none) (hc : rhoOf σ c = .lit (.bool t)) (hp : putS σ o.dst (bif t then rhoOf σ x else rhoOf σ y) = σ')
    (h : TW P ds rest σ' M (tr ++ [⟨o.dst, [], [], M.length, 0⟩]) K) : TW P ds (o :: rest) σ M tr K := by
  subst hp; exact TW.rd hg (os_pick ho hc) h

theorem TW.bi {op : BinOp} {t yt : TypeId} {x y : Operand} {k : IntKind} {a b : Int} {r : Value} (ho : o.op = .binOp op t x y yt) (hg : o.guard = none) (hx : rhoOf σ x = .lit (.int k a)) (hy : rhoOf σ y = .lit (.int k b))
    (hop : gint op k a b = some r) (hp : putS σ o.dst (.lit r) = σ')
    (h : TW P ds rest σ' M (tr ++ [⟨o.dst, [], [], M.length, 0⟩]) K) : TW P ds (o :: rest) σ M tr K := by
  subst hp
  refine TW.rd hg (os_bin ho hx hy ?_) h
  cases op <;> simp_all [gbin, gint]

/-- A division by what isn't 0. -/
theorem TW.bd {op : BinOp} {t yt : TypeId} {x y : Operand} {k : IntKind} {a b : Int} {r : Value} (ho : o.op = .binOp op t x y yt) (hg : o.guard = none) (hx : rhoOf σ x = .lit (.int k a)) (hy : rhoOf σ y = .lit (.int k b))
    (hop : (op = .quo ∧ r = .int k (k.wrap (a.tdiv b))) ∨ (op = .rem ∧ r = .int k (a.tmod b))) (hb : b ≠ 0) (hp : putS σ o.dst (.lit r) = σ')
    (h : TW P ds rest σ' M (tr ++ [⟨o.dst, [], [], M.length, 0⟩]) K) : TW P ds (o :: rest) σ M tr K := by
  subst hp
  refine TW.rd hg (os_bin ho hx hy ?_) h
  rcases hop with ⟨rfl, rfl⟩ | ⟨rfl, rfl⟩ <;> simp [gbin, gint, hb]

theorem TW.sh {op : BinOp} {t yt : TypeId} {x y : Operand} {k k' : IntKind} {a b : Int} {r : Value} (ho : o.op = .binOp op t x y yt) (hg : o.guard = none) (hx : rhoOf σ x = .lit (.int k a)) (hy : rhoOf σ y = .lit (.int k' b))
    (hop : (op = .shl ∧ r = .int k (k.wrap (a * 2 ^ (min b.toNat k.bits)))) ∨ (op = .shr ∧ r = .int k (a.fdiv (2 ^ (min b.toNat k.bits))))) (hb : 0 ≤ b) (hp : putS σ o.dst (.lit r) = σ')
    (h : TW P ds rest σ' M (tr ++ [⟨o.dst, [], [], M.length, 0⟩]) K) : TW P ds (o :: rest) σ M tr K := by
  subst hp
  have hb' : ¬ b < 0 := by omega
  refine TW.rd hg (os_bin ho hx hy ?_) h
  rcases hop with ⟨rfl, rfl⟩ | ⟨rfl, rfl⟩ <;> simp [gbin, gshift, hb']

theorem TW.bb {op : BinOp} {t yt : TypeId} {x y : Operand} {a b r : Bool} (ho : o.op = .binOp op t x y yt) (hg : o.guard = none) (hx : rhoOf σ x = .lit (.bool a)) (hy : rhoOf σ y = .lit (.bool b))
    (ht : T.u t = some .bool) (hop : (op = .eql ∧ r = (a == b)) ∨ (op = .neq ∧ r = (a != b))) (hp : putS σ o.dst (.lit (.bool r)) = σ')
    (h : TW P ds rest σ' M (tr ++ [⟨o.dst, [], [], M.length, 0⟩]) K) : TW P ds (o :: rest) σ M tr K := by
  subst hp
  refine TW.rd hg (os_bin ho hx hy ?_) h
  rcases hop with ⟨rfl, rfl⟩ | ⟨rfl, rfl⟩ <;> simp [gbin, T.uok t _ ht]

theorem TW.bs {op : BinOp} {t yt : TypeId} {x y : Operand} {a b : ByteArray} {r : Bool} (ho : o.op = .binOp op t x y yt) (hg : o.guard = none) (hx : rhoOf σ x = .lit (.string a)) (hy : rhoOf σ y = .lit (.string b))
    (hop : (op = .eql ∧ r = (a.toList == b.toList)) ∨ (op = .neq ∧ r = !(a.toList == b.toList)) ∨ (op = .lss ∧ r = Op.bytesLess a.toList b.toList)) (hp : putS σ o.dst (.lit (.bool r)) = σ')
    (h : TW P ds rest σ' M (tr ++ [⟨o.dst, [], [], M.length, 0⟩]) K) : TW P ds (o :: rest) σ M tr K := by
  subst hp
  refine TW.rd hg (os_bin ho hx hy ?_) h
  rcases hop with ⟨rfl, rfl⟩ | ⟨rfl, rfl⟩ | ⟨rfl, rfl⟩ <;> simp [gbin]

theorem TW.bp {op : BinOp} {t yt e : TypeId} {x y : Operand} {r : Bool} (ho : o.op = .binOp op t x y yt) (hg : o.guard = none) (hx : notNil (rhoOf σ x) = true) (hy : rhoOf σ y = .lit (.pointer none))
    (ht : T.u t = some (.pointer e)) (hop : (op = .eql ∧ r = false) ∨ (op = .neq ∧ r = true)) (hp : putS σ o.dst (.lit (.bool r)) = σ')
    (h : TW P ds rest σ' M (tr ++ [⟨o.dst, [], [], M.length, 0⟩]) K) : TW P ds (o :: rest) σ M tr K := by
  subst hp
  exact TW.rd hg (os_ptr ho hx hy (T.uok t _ ht) hop) h

theorem TW.bn {op : BinOp} {t yt e : TypeId} {x y : Operand} {r : Bool} (ho : o.op = .binOp op t x y yt) (hg : o.guard = none) (hx : rhoOf σ x = .lit (.pointer none)) (hy : rhoOf σ y = .lit (.pointer none))
    (ht : T.u t = some (.pointer e)) (hop : (op = .eql ∧ r = true) ∨ (op = .neq ∧ r = false)) (hp : putS σ o.dst (.lit (.bool r)) = σ')
    (h : TW P ds rest σ' M (tr ++ [⟨o.dst, [], [], M.length, 0⟩]) K) : TW P ds (o :: rest) σ M tr K := by
  subst hp
  refine TW.rd hg (os_bin ho hx hy ?_) h
  rcases hop with ⟨rfl, rfl⟩ | ⟨rfl, rfl⟩ <;> simp [gbin, T.uok t _ ht]

/-- Structs of plain fields, held against each other, by the table. -/
def geqT (T : Tab P) (xs ys : List GV) : List Field → Option Bool
  | [] => some true
  | f :: fs => if f.name = "_" then none else
    match T.u f.type, xs[f.offset]?, ys[f.offset]? with
    | some (.int _), some (.lit (.int k a)), some (.lit (.int k' b)) => if k = k' then (geqT T xs ys fs).map fun t => (a == b) && t else none
    | some .bool, some (.lit (.bool a)), some (.lit (.bool b)) => (geqT T xs ys fs).map fun t => (a == b) && t
    | _, _, _ => none

theorem geqT_ok {xs ys : List GV} : ∀ {fs : List Field} {r : Bool}, geqT T xs ys fs = some r → geqF P xs ys fs = some r
  | [], r, h => h
  | f :: fs, r, h => by
    unfold geqT at h
    unfold geqF
    split at h
    · cases h
    · rename_i hn
      rw [if_neg hn]
      split at h
      · rename_i k' k a k'' b hu hxa hyb
        have hu' := T.uok _ _ hu
        have ha : aggT P f.type = some false := by unfold aggT; rw [hu']; rfl
        rw [ha, hu', hxa, hyb]
        simp only
        split at h
        · rename_i hk
          rw [if_pos hk]
          obtain ⟨t, ht, hr⟩ := Option.map_eq_some_iff.1 h
          rw [geqT_ok ht]; simp [hr]
        · cases h
      · rename_i a b hu hxa hyb
        have hu' := T.uok _ _ hu
        have ha : aggT P f.type = some false := by unfold aggT; rw [hu']; rfl
        rw [ha, hu', hxa, hyb]
        simp only
        obtain ⟨t, ht, hr⟩ := Option.map_eq_some_iff.1 h
        rw [geqT_ok ht]; simp [hr]
      · cases h

theorem TW.bq {op : BinOp} {t yt : TypeId} {x y : Operand} {r r' : Bool} {xs ys : List GV} {fs : Array Field} (ho : o.op = .binOp op t x y yt) (hg : o.guard = none) (hx : litCells (rhoOf σ x) = some xs) (hy : litCells (rhoOf σ y) = some ys)
    (ht : T.u t = some (.struct fs)) (he : T.eq t = true) (hr : geqT T xs ys fs.toList = some r) (hop : (op = .eql ∧ r' = r) ∨ (op = .neq ∧ r' = !r)) (hp : putS σ o.dst (.lit (.bool r')) = σ')
    (h : TW P ds rest σ' M (tr ++ [⟨o.dst, [], [], M.length, 0⟩]) K) : TW P ds (o :: rest) σ M tr K := by
  subst hp
  exact TW.rd hg (os_aggEq ho hx hy (T.uok t _ ht) (T.eqok t he).1 (T.eqok t he).2 (geqT_ok T hr) hop) h

theorem TW.nt {t : TypeId} {x : Operand} {b : Bool} (ho : o.op = .unOp .not t x) (hg : o.guard = none) (hx : rhoOf σ x = .lit (.bool b)) (hp : putS σ o.dst (.lit (.bool !b)) = σ')
    (h : TW P ds rest σ' M (tr ++ [⟨o.dst, [], [], M.length, 0⟩]) K) : TW P ds (o :: rest) σ M tr K := by
  subst hp; exact TW.rd hg (os_not ho hx) h

theorem TW.ng {t : TypeId} {x : Operand} {k : IntKind} {n : Int} (ho : o.op = .unOp .neg t x) (hg : o.guard = none) (hx : rhoOf σ x = .lit (.int k n)) (hp : putS σ o.dst (.lit (.int k (k.wrap (0 - n)))) = σ')
    (h : TW P ds rest σ' M (tr ++ [⟨o.dst, [], [], M.length, 0⟩]) K) : TW P ds (o :: rest) σ M tr K := by
  subst hp; exact TW.rd hg (os_neg ho hx) h

theorem TW.cv {src dst : TypeId} {x : Operand} {k k' ks : IntKind} {n : Int} (ho : o.op = .convert src dst x) (hg : o.guard = none) (hs : T.u src = some (.int ks)) (hd : T.u dst = some (.int k')) (hx : rhoOf σ x = .lit (.int k n))
    (hp : putS σ o.dst (.lit (.int k' (k'.wrap n))) = σ')
    (h : TW P ds rest σ' M (tr ++ [⟨o.dst, [], [], M.length, 0⟩]) K) : TW P ds (o :: rest) σ M tr K := by
  subst hp; exact TW.rd hg (os_conv ho (T.uok _ _ hs) (T.uok _ _ hd) hx) h

theorem TW.nc {x : Operand} (ho : o.op = .nilCheck x) (hg : o.guard = none) (hx : isAddr (rhoOf σ x) = true) (hp : putS σ o.dst (rhoOf σ x) = σ')
    (h : TW P ds rest σ' M (tr ++ [⟨o.dst, [], [], M.length, 0⟩]) K) : TW P ds (o :: rest) σ M tr K := by
  subst hp; exact TW.rd hg (os_nil ho hx) h

theorem TW.ex {x : Operand} {i : Nat} {cs : List GV} {g : GV} (ho : o.op = .extract x i) (hg : o.guard = none) (hx : rhoOf σ x = .tup cs) (hi : cs[i]? = some g) (hp : putS σ o.dst g = σ')
    (h : TW P ds rest σ' M (tr ++ [⟨o.dst, [], [], M.length, 0⟩]) K) : TW P ds (o :: rest) σ M tr K := by
  subst hp; exact TW.rd hg (os_extract ho hx hi) h

theorem TW.ld {t : TypeId} {x : Operand} {id i j : Nat} {cs : List GV} {g : GV} (ho : o.op = .load t x) (hg : o.guard = none) (hx : rhoOf σ x = .adr id i j) (hc : cellsAt (getM M id) i = some cs) (hl : ldvT T t (cs.drop j) = some g)
    (hp : putS σ o.dst g = σ') (h : TW P ds rest σ' M (tr ++ [⟨o.dst, [id], [], M.length, 0⟩]) K) : TW P ds (o :: rest) σ M tr K := by
  subst hp; exact TW.rd hg (os_load ho hx hc (ldvT_ok hl)) h

theorem TW.li {t : TypeId} {x : Operand} {bw : Bool} {cs : List GV} {g : GV} (ho : o.op = .load t x) (hg : o.guard = none) (hx : rhoOf σ x = .iadr bw cs) (hl : ldvT T t cs = some g)
    (hp : putS σ o.dst g = σ') (h : TW P ds rest σ' M (tr ++ [⟨o.dst, [], [], M.length, 0⟩]) K) : TW P ds (o :: rest) σ M tr K := by
  subst hp; exact TW.rd hg (os_loadI ho hx (ldvT_ok hl)) h

theorem TW.st {t : TypeId} {x y : Operand} {id i j : Nat} {vs : List GV} {ob : GO} {d : TypeDesc} (ho : o.op = .store t x y) (hg : o.guard = none) (hx : rhoOf σ x = .adr id i j) (hy : gcells (rhoOf σ y) = some vs)
    (hu : T.u t = some d) (hsz : T.sz t = vs.length) (hne : vs.length ≠ 0) (hpa : putAt (getM M id) i j vs = some ob) (hid : id < M.length) (hd : o.dst = none) (hM : updL M [(id, ob)] [] = M')
    (h : TW P ds rest σ M' (tr ++ [⟨none, [id], [id], M.length, 0⟩]) K) : TW P ds (o :: rest) σ M tr K := by
  subst hM
  refine TW.step (by unfold gwantD; rw [hg]) (os_store ho hx hy (T.uok _ _ hu) (by rw [← hsz] at hne; rw [T.szok t hne, hsz]) hpa) (fun x hx => by simp at hx; subst hx; exact hid) ?_
  rw [hd]; exact h

theorem TW.fa {s : TypeId} {x : Operand} {n id i j : Nat} {fs : Array Field} {f : Field} (ho : o.op = .fieldAddr s x n) (hg : o.guard = none) (hx : rhoOf σ x = .adr id i j) (hs : T.u s = some (.struct fs)) (hf : fs[n]? = some f)
    (hne : T.sz f.type ≠ 0) (hp : putS σ o.dst (.adr id i (j + f.offset)) = σ')
    (h : TW P ds rest σ' M (tr ++ [⟨o.dst, [], [], M.length, 0⟩]) K) : TW P ds (o :: rest) σ M tr K := by
  subst hp; exact TW.rd hg (os_field ho hx (T.uok _ _ hs) hf (by rw [T.szok _ hne]; exact hne)) h

theorem TW.fi {s : TypeId} {x : Operand} {n : Nat} {bw : Bool} {cs : List GV} {fs : Array Field} {f : Field} (ho : o.op = .fieldAddr s x n) (hg : o.guard = none) (hx : rhoOf σ x = .iadr bw cs) (hs : T.u s = some (.struct fs)) (hf : fs[n]? = some f)
    (hne : T.sz f.type ≠ 0) (hp : putS σ o.dst (.iadr bw (cs.drop f.offset)) = σ')
    (h : TW P ds rest σ' M (tr ++ [⟨o.dst, [], [], M.length, 0⟩]) K) : TW P ds (o :: rest) σ M tr K := by
  subst hp; exact TW.rd hg (os_fieldI ho hx (T.uok _ _ hs) hf (by rw [T.szok _ hne]; exact hne)) h

theorem TW.ix {t e : TypeId} {x y : Operand} {bw : Bool} {sz : Nat} {xs ex : List (List GV)} {k : IntKind} {n : Int} {cs : List GV} (ho : o.op = .indexAddr t x y) (hg : o.guard = none)
    (hx : rhoOf σ x = .sl bw sz xs ex) (hy : rhoOf σ y = .lit (.int k n)) (ht : T.u t = some (.slice e)) (hsz : T.sz e = sz) (hne : T.sz e ≠ 0) (h0 : 0 ≤ n) (h1 : n < xs.length) (hc : xs[n.toNat]? = some cs) (hp : putS σ o.dst (.iadr bw cs) = σ')
    (h : TW P ds rest σ' M (tr ++ [⟨o.dst, [], [], M.length, 0⟩]) K) : TW P ds (o :: rest) σ M tr K := by
  subst hp; exact TW.rd hg (os_idxI ho (T.uok _ _ ht) (by rw [T.szok _ hne]; exact hsz) (by omega) hx hy h0 h1 hc) h

theorem TW.ir {t e e' : TypeId} {x y : Operand} {sz id : Nat} {xs : List (List GV)} {k : IntKind} {n : Int} (ho : o.op = .indexAddr t x y) (hg : o.guard = none)
    (hx : rhoOf σ x = .row id) (hy : rhoOf σ y = .lit (.int k n)) (hM : getM M id = .row e' sz xs) (ht : T.u t = some (.slice e)) (hsz : T.sz e = sz) (hne : T.sz e ≠ 0) (h0 : 0 ≤ n) (h1 : n < xs.length) (hp : putS σ o.dst (.adr id n.toNat 0) = σ')
    (h : TW P ds rest σ' M (tr ++ [⟨o.dst, [id], [], M.length, 0⟩]) K) : TW P ds (o :: rest) σ M tr K := by
  subst hp; exact TW.rd hg (os_idxR ho (T.uok _ _ ht) (by rw [T.szok _ hne]; exact hsz) (by omega) hx hM hy h0 h1) h

theorem TW.is {t e e' : TypeId} {x y : Operand} {sz id lo hi : Nat} {xs : List (List GV)} {k : IntKind} {n : Int} (ho : o.op = .indexAddr t x y) (hg : o.guard = none)
    (hx : rhoOf σ x = .sub id lo hi) (hy : rhoOf σ y = .lit (.int k n)) (hM : getM M id = .row e' sz xs) (ht : T.u t = some (.slice e)) (hsz : T.sz e = sz) (hne : T.sz e ≠ 0) (h0 : 0 ≤ n) (h1 : n < (hi - lo : Nat)) (hp : putS σ o.dst (.adr id (lo + n.toNat) 0) = σ')
    (h : TW P ds rest σ' M (tr ++ [⟨o.dst, [id], [], M.length, 0⟩]) K) : TW P ds (o :: rest) σ M tr K := by
  subst hp; exact TW.rd hg (os_idxS ho (T.uok _ _ ht) (by rw [T.szok _ hne]; exact hsz) (by omega) hx hM hy h0 h1) h

theorem TW.ia {t e : TypeId} {len : Nat} {x y : Operand} {id i j : Nat} {k : IntKind} {n : Int} (ho : o.op = .indexAddr t x y) (hg : o.guard = none)
    (hx : rhoOf σ x = .adr id i j) (hy : rhoOf σ y = .lit (.int k n)) (ht : T.u t = some (.array len e)) (hne : T.sz e ≠ 0) (h0 : 0 ≤ n) (h1 : n < len) (hp : putS σ o.dst (.adr id i (j + n.toNat * T.sz e)) = σ')
    (h : TW P ds rest σ' M (tr ++ [⟨o.dst, [], [], M.length, 0⟩]) K) : TW P ds (o :: rest) σ M tr K := by
  subst hp
  refine TW.rd hg ?_ h
  have := os_idxA (P := P) (ρ := rhoOf σ) (nb := M.length) (M0 := getM M) ho (T.uok _ _ ht) (by rw [T.szok _ hne]; exact hne) hx hy h0 h1
  rwa [T.szok _ hne] at this

theorem TW.bx {t : TypeId} {x : Operand} {cs : List GV} (ho : o.op = .box t x) (hg : o.guard = none) (hx : gcells (rhoOf σ x) = some cs) (hp : putS σ o.dst (.adr M.length 0 0) = σ') (hM : M ++ [.cells cs] = M')
    (h : TW P ds rest σ' M' (tr ++ [⟨o.dst, [], [], M.length, 1⟩]) K) : TW P ds (o :: rest) σ M tr K := by
  subst hp; subst hM
  exact TW.step (by unfold gwantD; rw [hg]) (os_box ho hx) (by simp) h

theorem TW.al {t : TypeId} {z : Value} (ho : o.op = .alloc t) (hg : o.guard = none) (hz : T.z t = some z) (hf : flatAll z = true) (hp : putS σ o.dst (.adr M.length 0 0) = σ') (hM : M ++ [.cells (z.cells.toList.map .lit)] = M')
    (h : TW P ds rest σ' M' (tr ++ [⟨o.dst, [], [], M.length, 1⟩]) K) : TW P ds (o :: rest) σ M tr K := by
  subst hp; subst hM
  exact TW.step (by unfold gwantD; rw [hg]) (os_alloc ho (T.zok _ _ hz) hf) (by simp) h

theorem TW.ln {t e n : Nat} {x : Operand} (ho : o.op = .call { callee := .builtin .len, args := #[x], argTypes := #[t] }) (hg : o.guard = none) (ht : T.u t = some (.slice e))
    (hx : lenOfG (getM M) (rhoOf σ x) = some n) (hp : putS σ o.dst (.lit (.int .i64 n)) = σ')
    (h : TW P ds rest σ' M (tr ++ [⟨o.dst, gid (rhoOf σ x), [], M.length, 0⟩]) K) : TW P ds (o :: rest) σ M tr K := by
  subst hp; exact TW.rd hg (os_len ho (T.uok _ _ ht) hx) h

theorem TW.la {t e n : Nat} {x : Operand} (ho : o.op = .call { callee := .builtin .len, args := #[x], argTypes := #[t] }) (hg : o.guard = none) (ht : T.u t = some (.array n e)) (hp : putS σ o.dst (.lit (.int .i64 n)) = σ')
    (h : TW P ds rest σ' M (tr ++ [⟨o.dst, [], [], M.length, 0⟩]) K) : TW P ds (o :: rest) σ M tr K := by
  subst hp; exact TW.rd hg (os_lenArr ho (T.uok _ _ ht)) h

theorem TW.ls {t : Nat} {x : Operand} {s : ByteArray} (ho : o.op = .call { callee := .builtin .len, args := #[x], argTypes := #[t] }) (hg : o.guard = none) (ht : T.u t = some .string) (hx : rhoOf σ x = .lit (.string s)) (hp : putS σ o.dst (.lit (.int .i64 s.size)) = σ')
    (h : TW P ds rest σ' M (tr ++ [⟨o.dst, [], [], M.length, 0⟩]) K) : TW P ds (o :: rest) σ M tr K := by
  subst hp; exact TW.rd hg (os_lenStr ho (T.uok _ _ ht) hx) h

/-- An element's type, by the table. -/
def elemTT (T : Tab P) (t : Nat) : Option (Nat × Nat × Nat) :=
  match T.u t with
  | some (.slice e) => if T.sz e ≠ 0 ∧ T.bs e ≠ 0 ∧ (T.z e).any (fun z => z.cells.size == T.sz e && flatAll z) then some (e, T.sz e, T.bs e) else none
  | _ => none

theorem elemTT_ok {t e sz bytes : Nat} (h : elemTT T t = some (e, sz, bytes)) : ElemT P t e sz bytes := by
  unfold elemTT at h
  split at h
  · rename_i e' hu
    split at h
    · rename_i hc
      obtain ⟨h1, h2, h3⟩ := hc
      simp only [Option.some.injEq, Prod.mk.injEq] at h
      obtain ⟨rfl, rfl, rfl⟩ := h
      obtain ⟨z, hz, hzs⟩ := (Option.any_eq_true _ _).1 h3
      exact ⟨T.uok _ _ hu, T.szok _ h1, T.bsok _ h2, ⟨z, T.zok _ _ hz, eq_of_beq (Bool.and_eq_true_iff.1 hzs).1, (Bool.and_eq_true_iff.1 hzs).2⟩, by omega⟩
    · cases h
  · cases h

theorem TW.an {t e sz bytes : Nat} {x y : Operand} {ys : List (List GV)} (ho : o.op = .call { callee := .builtin .append, args := #[x, y], argTypes := #[t, t] }) (hg : o.guard = none) (hT : elemTT T t = some (e, sz, bytes))
    (hx : rhoOf σ x = .lit (.slice none 0 0)) (hy : srcOf (getM M) sz (rhoOf σ y) = some ys) (hb : ys.length * bytes ≤ 140737488355328 ∧ ys.length ≤ 140737488355328) (hp : putS σ o.dst (.row M.length) = σ') (hM : M ++ [.row e sz ys] = M')
    (h : TW P ds rest σ' M' (tr ++ [⟨o.dst, gid (rhoOf σ y), [], M.length, 1⟩]) K) : TW P ds (o :: rest) σ M tr K := by
  subst hp; subst hM
  exact TW.step (by unfold gwantD; rw [hg]) (os_append_nil (elemTT_ok T hT) ho hx hy hb.1 hb.2) (by simp) h

theorem TW.ar {t e sz bytes : Nat} {x y : Operand} {id : Nat} {xs ys : List (List GV)} (ho : o.op = .call { callee := .builtin .append, args := #[x, y], argTypes := #[t, t] }) (hg : o.guard = none) (hT : elemTT T t = some (e, sz, bytes))
    (hx : rhoOf σ x = .row id) (hid : id < M.length) (hMi : getM M id = .row e sz xs) (hy : srcOf (getM M) sz (rhoOf σ y) = some ys) (hb : (xs.length + ys.length) * bytes ≤ 140737488355328 ∧ xs.length + ys.length ≤ 140737488355328)
    (hp : putS σ o.dst (.row M.length) = σ') (hM : updL M [(id, .dead)] [.row e sz (xs ++ ys)] = M')
    (h : TW P ds rest σ' M' (tr ++ [⟨o.dst, id :: gid (rhoOf σ y), [id], M.length, 1⟩]) K) : TW P ds (o :: rest) σ M tr K := by
  subst hp; subst hM
  exact TW.step (by unfold gwantD; rw [hg]) (os_append_row (elemTT_ok T hT) ho hx hMi hy hb.1 hb.2) (fun x hx => by simp at hx; subst hx; exact hid) h

theorem TW.m2 {x y : Operand} {ts : Array TypeId} {k : IntKind} {a b : Int} (ho : o.op = .call { callee := .builtin .min, args := #[x, y], argTypes := ts }) (hg : o.guard = none)
    (hx : rhoOf σ x = .lit (.int k a)) (hy : rhoOf σ y = .lit (.int k b)) (hp : putS σ o.dst (.lit (.int k (if b < a then b else a))) = σ')
    (h : TW P ds rest σ' M (tr ++ [⟨o.dst, [], [], M.length, 0⟩]) K) : TW P ds (o :: rest) σ M tr K := by
  subst hp; exact TW.rd hg (os_min2 ho hx hy) h

theorem TW.m3 {x y z : Operand} {ts : Array TypeId} {k : IntKind} {a b c : Int} (ho : o.op = .call { callee := .builtin .min, args := #[x, y, z], argTypes := ts }) (hg : o.guard = none)
    (hx : rhoOf σ x = .lit (.int k a)) (hy : rhoOf σ y = .lit (.int k b)) (hz : rhoOf σ z = .lit (.int k c)) (hp : putS σ o.dst (.lit (.int k (if c < (if b < a then b else a) then c else (if b < a then b else a)))) = σ')
    (h : TW P ds rest σ' M (tr ++ [⟨o.dst, [], [], M.length, 0⟩]) K) : TW P ds (o :: rest) σ M tr K := by
  subst hp; exact TW.rd hg (os_min3 ho hx hy hz) h

theorem TW.x2 {x y : Operand} {ts : Array TypeId} {k : IntKind} {a b : Int} (ho : o.op = .call { callee := .builtin .max, args := #[x, y], argTypes := ts }) (hg : o.guard = none)
    (hx : rhoOf σ x = .lit (.int k a)) (hy : rhoOf σ y = .lit (.int k b)) (hp : putS σ o.dst (.lit (.int k (if b > a then b else a))) = σ')
    (h : TW P ds rest σ' M (tr ++ [⟨o.dst, [], [], M.length, 0⟩]) K) : TW P ds (o :: rest) σ M tr K := by
  subst hp; exact TW.rd hg (os_max2 ho hx hy) h

theorem TW.cl {f : Nat} {caps : Array Operand} (ho : o.op = .makeFunc (.func f) #[] caps) (hg : o.guard = none) (hp : putS σ o.dst (.clo f (caps.toList.map (rhoOf σ))) = σ')
    (h : TW P ds rest σ' M (tr ++ [⟨o.dst, [], [], M.length, 0⟩]) K) : TW P ds (o :: rest) σ M tr K := by
  subst hp; exact TW.rd hg (os_closure ho) h

/-- A call to which no object is handed: what it makes stands behind. -/
theorem TW.c0 {f : FuncId} {c : Operand} {xs : Array Operand} {ts : Array TypeId} {caps args : List GV} {r : GV} {N : List GO} (ho : o.op = .call { callee := .value c, args := xs, argTypes := ts }) (hg : o.guard = none)
    (hc : calleeG (rhoOf σ c) = some (f, caps)) (hf : T.fn f = true) (ha : lendAll (getM M) [] (xs.toList.map (rhoOf σ) ++ caps) = some args) (hF : FS P f args [] r N) (hnb : nobw r = true) (hnN : N.all nobwO = true)
    (hp : putS σ o.dst (ren (upN [] M.length) r) = σ') (hM : M ++ N.map (renO (upN [] M.length)) = M')
    (h : TW P ds rest σ' M' (tr ++ [⟨o.dst, [] ++ borAll [] (xs.toList.map (rhoOf σ) ++ caps), [], M.length, (N.map (renO (upN [] M.length))).length⟩]) K) : TW P ds (o :: rest) σ M tr K := by
  subst hp; subst hM
  obtain ⟨fn, h1, h2, h3⟩ := T.fnok f hf
  have := os_call (P := P) (ρ := rhoOf σ) (nb := M.length) (M0 := getM M) h1 h2 h3 ho hc [] (by simp) (by simp) (by simp) ha (M' := N) hF (by simp) hnb (fun o ho => List.all_eq_true.1 hnN o ho)
  simp only [List.zip_nil_left, List.length_nil, List.drop_zero] at this
  exact TW.step (by unfold gwantD; rw [hg]) this (by simp) h

/-- A call to which objects are handed. -/
theorem TW.cm {f : FuncId} {c : Operand} {xs : Array Operand} {ts : Array TypeId} {caps args : List GV} {r : GV} {N Mc : List GO} (ids : List Nat) (ho : o.op = .call { callee := .value c, args := xs, argTypes := ts }) (hg : o.guard = none)
    (hc : calleeG (rhoOf σ c) = some (f, caps)) (hf : T.fn f = true) (hnd : ids.Nodup) (hlv : ids.all (fun id => decide (id < M.length) && (match getM M id with | .dead => false | _ => true) && ginO ids (getM M id)) = true)
    (ha : lendAll (getM M) ids (xs.toList.map (rhoOf σ) ++ caps) = some args) (hMc : (ids.map fun id => renO (ids.idxOf ·) (getM M id)) = Mc) (hF : FS P f args Mc r N) (hlen : ids.length ≤ N.length) (hnb : nobw r = true) (hnN : N.all nobwO = true)
    (hp : putS σ o.dst (ren (upN ids M.length) r) = σ') (hM : updL M (ids.zip ((N.take ids.length).map (renO (upN ids M.length)))) ((N.drop ids.length).map (renO (upN ids M.length))) = M')
    (h : TW P ds rest σ' M' (tr ++ [⟨o.dst, ids ++ borAll ids (xs.toList.map (rhoOf σ) ++ caps), (ids.zip ((N.take ids.length).map (renO (upN ids M.length)))).map (·.1), M.length, ((N.drop ids.length).map (renO (upN ids M.length))).length⟩]) K) : TW P ds (o :: rest) σ M tr K := by
  subst hp; subst hM; subst hMc
  obtain ⟨fn, h1, h2, h3⟩ := T.fnok f hf
  have hl : ∀ id, id ∈ ids → id < M.length ∧ getM M id ≠ .dead ∧ ginO ids (getM M id) = true := fun id h => by
    have := List.all_eq_true.1 hlv id h
    simp only [Bool.and_eq_true, decide_eq_true_eq] at this
    exact ⟨this.1.1, fun e => by rw [e] at this; simp at this, this.2⟩
  refine TW.step (by unfold gwantD; rw [hg]) (os_call (P := P) (ρ := rhoOf σ) (nb := M.length) (M0 := getM M) h1 h2 h3 ho hc ids hnd (fun id h => (hl id h).2.1) (fun id h => (hl id h).2.2) ha (M' := N) hF hlen hnb (fun o ho => List.all_eq_true.1 hnN o ho)) ?_ h
  rintro ⟨i, ob⟩ hx
  exact (hl i (List.of_mem_zip hx).1).1

end
end Go.Gh


namespace Go.Gh

def AllP {α : Type} (p : α → Prop) : List α → Prop
  | [] => True
  | a :: l => p a ∧ AllP p l

def lk {α : Type} : List (Nat × α) → Nat → Option α
  | [], _ => none
  | x :: l, n => bif Nat.beq x.1 n then some x.2 else lk l n

def has : List Nat → Nat → Bool
  | [], _ => false
  | x :: l, n => Nat.beq x n || has l n

theorem lk_ok {α : Type} {p : Nat × α → Prop} : ∀ {l : List (Nat × α)}, AllP p l → ∀ {n : Nat} {a : α}, lk l n = some a → p (n, a)
  | [], _, n, a, h => by cases h
  | x :: l, hp, n, a, h => by
    simp only [lk] at h
    cases e : Nat.beq x.1 n with
    | true =>
      rw [e] at h
      simp only [cond_true, Option.some.injEq] at h
      have := Nat.eq_of_beq_eq_true e
      subst this; subst h
      exact hp.1
    | false =>
      rw [e] at h
      exact lk_ok hp.2 (by simpa using h)

theorem has_ok {p : Nat → Prop} : ∀ {l : List Nat}, AllP p l → ∀ {n : Nat}, has l n = true → p n
  | [], _, n, h => by cases h
  | x :: l, hp, n, h => by
    simp only [has, Bool.or_eq_true] at h
    rcases h with h | h
    · have := Nat.eq_of_beq_eq_true h
      subst this; exact hp.1
    · exact has_ok hp.2 h

/-- The table, as lists. -/
structure TabL (P : Program) where
  uL : List (Nat × TypeDesc)
  uOk : AllP (fun p => P.underlying p.1 = some p.2) uL
  sL : List (Nat × Nat)
  sOk : AllP (fun p => P.cellsOf p.1 = p.2) sL
  bL : List (Nat × Nat)
  bOk : AllP (fun p => P.bytesOf p.1 = p.2) bL
  zL : List (Nat × Value)
  zOk : AllP (fun p => zeroOf P p.1 = some p.2) zL
  eL : List Nat
  eOk : AllP (fun t => P.eqGuardType P.depth t = false ∧ P.stoodInHeld t = false) eL
  fL : List Nat
  fOk : AllP (fun f => ∃ c, P.funcs[f]? = some c ∧ c.body.isSome = true ∧ (c.name == "runtime.NumGoroutine") = false) fL
  mixed : P.follows .mixedOrders = true

def TabL.tab {P : Program} (t : TabL P) : Tab P where
  u := lk t.uL
  uok := fun _ _ h => lk_ok t.uOk h
  sz := fun n => (lk t.sL n).getD 0
  szok := fun n h => by
    cases e : lk t.sL n with
    | none => simp [e] at h
    | some a => exact lk_ok t.sOk e
  bs := fun n => (lk t.bL n).getD 0
  bsok := fun n h => by
    cases e : lk t.bL n with
    | none => simp [e] at h
    | some a => exact lk_ok t.bOk e
  z := lk t.zL
  zok := fun _ _ h => lk_ok t.zOk h
  eq := has t.eL
  eqok := fun _ h => has_ok t.eOk h
  fn := has t.fL
  fnok := fun _ h => has_ok t.fOk h
  mixed := t.mixed

end Go.Gh


/-! From what a row's arguments read as, to ghost values. -/

namespace Go.Gh
open Go.ChangeShapes Go.RowKit

/-- What a cell may be. -/
inductive LC where
  | int (k : IntKind)
  | bool
  | str
  | sl (b : Nat) (l : List LC)

mutual
def Rd : LC → GV → Prop
  | .int k, g => ∃ n, g = .lit (.int k n) ∧ k.min ≤ n ∧ n ≤ k.max
  | .bool, g => ∃ b, g = .lit (.bool b)
  | .str, g => ∃ s : ByteArray, g = .lit (.string s) ∧ s.size ≤ reachBytes
  | .sl b l, g => ∃ xs ex, g = .sl false l.length xs ex ∧ (xs.length + ex.length) * b ≤ reachBytes ∧ xs.length + ex.length ≤ maxLen ∧ ∀ x, x ∈ xs ++ ex → RdL l x
def RdL : List LC → List GV → Prop
  | [], gs => gs = []
  | c :: l, gs => ∃ g gs', gs = g :: gs' ∧ Rd c g ∧ RdL l gs'
end

theorem RdL.length : ∀ {l : List LC} {gs : List GV}, RdL l gs → gs.length = l.length
  | [], gs, h => by simp only [RdL] at h; subst h; rfl
  | c :: l, gs, h => by
    simp only [RdL] at h
    obtain ⟨g, gs', rfl, _, h⟩ := h
    simp [RdL.length h]

theorem RdL.append : ∀ {l l' : List LC} {gs gs' : List GV}, RdL l gs → RdL l' gs' → RdL (l ++ l') (gs ++ gs')
  | [], l', gs, gs', h, h' => by simp only [RdL] at h; subst h; exact h'
  | c :: l, l', gs, gs', h, h' => by
    simp only [RdL] at h
    obtain ⟨g, gs1, rfl, hg, h⟩ := h
    rw [List.cons_append, List.cons_append, RdL]
    exact ⟨g, _, rfl, hg, RdL.append h h'⟩

theorem RdL.one {c : LC} {g : GV} (h : Rd c g) : RdL [c] [g] := by
  rw [RdL]
  exact ⟨g, [], rfl, h, by rw [RdL]⟩

def leafsF (g : TypeId → Option (List LC)) (sz : TypeId → Nat) : Nat → List Field → Option (List LC)
  | _, [] => some []
  | off, f :: fs => if f.offset = off then (g f.type).bind fun l => if l.length = sz f.type then (leafsF g sz (off + l.length) fs).map (l ++ ·) else none else none

def leafs (P : Program) : Nat → TypeId → Option (List LC)
  | 0, _ => none
  | f + 1, t => match P.underlying t with
    | some .bool => some [.bool]
    | some (.int k) => some [.int k]
    | some .string => some [.str]
    | some (.slice e) => (leafs P f e).bind fun l => if l.length = P.cellsOf e ∧ 0 < l.length then some [.sl (P.bytesOf e) l] else none
    | some (.struct fs) => (leafsF (leafs P f) P.cellsOf 0 fs.toList).bind fun l => if l.length = P.cellsOf t then some l else none
    | some (.array n e) => (leafs P f e).bind fun l => if l.length = P.cellsOf e ∧ P.cellsOf t = n * l.length then some (List.replicate n l).flatten else none
    | _ => none

def Im0 (w : World) (b : Nat) : Prop := b < w.heap.size

structure Good (w : World) (Bw : Nat → Prop) (l : List LC) (cs : List Value) : Prop where
  len : cs.length = l.length
  flt : ∀ v, v ∈ cs → flat v = true
  ex : ∃ gs, RdL l gs ∧ ∀ (i : Nat) g, gs[i]? = some g → VP (Im0 w) w g (cs.getD i undef)

variable {w : World} {Bw : Nat → Prop}

theorem Good.nil : Good w Bw [] [] := ⟨rfl, fun _ h => by simp at h, [], by rw [RdL], fun i g h => by simp at h⟩

theorem Good.append {l l' : List LC} {cs cs' : List Value} (h : Good w Bw l cs) (h' : Good w Bw l' cs') : Good w Bw (l ++ l') (cs ++ cs') := by
  obtain ⟨e1, f1, gs, r1, v1⟩ := h
  obtain ⟨e2, f2, gs', r2, v2⟩ := h'
  refine ⟨by simp [e1, e2], fun v hv => (List.mem_append.1 hv).elim (f1 v) (f2 v), gs ++ gs', r1.append r2, fun i g hg => ?_⟩
  have hgl := r1.length
  by_cases hi : i < gs.length
  · rw [List.getElem?_append_left hi] at hg
    have := v1 i g hg
    rwa [List.getD_eq_getElem?_getD, List.getElem?_append_left (by omega), ← List.getD_eq_getElem?_getD]
  · rw [List.getElem?_append_right (by omega)] at hg
    have := v2 _ g hg
    rw [List.getD_eq_getElem?_getD, List.getElem?_append_right (by omega), ← List.getD_eq_getElem?_getD]
    rwa [show i - cs.length = i - gs.length by omega]

theorem Good.one {c : LC} {g : GV} {v : Value} (hr : Rd c g) (hf : flat v = true) (hv : VP (Im0 w) w g v) : Good w Bw [c] [v] :=
  ⟨rfl, fun u hu => by simp at hu; subst hu; exact hf, [g], .one hr, fun i g' hg => by
    cases i with
    | zero => simp at hg; subst hg; exact hv
    | succ i => simp at hg⟩

theorem take_drop_split {α : Type} (cs : List α) (off n : Nat) : cs.drop off = (cs.drop off).take n ++ cs.drop (off + n) := by
  rw [← List.drop_drop, List.take_append_drop]

section
variable {H : Type} {enc : TypeId × Value → H} {P : Program} {held : Bool}

theorem weightsAll_mem {e : TypeId} : ∀ {l : List (DataW H)} {d : DataW H} {n : Nat}, d ∈ l → n ∈ d.weights P e → n ∈ DataW.weightsAll P e l
  | [], d, n, h, _ => by simp at h
  | x :: l, d, n, h, hn => by
    rw [DataW.weightsAll]
    rcases List.mem_cons.1 h with rfl | h
    · exact List.mem_append_left _ hn
    · exact List.mem_append_right _ (weightsAll_mem h hn)

theorem cell_block {w : World} {a : Addr} {v : Value} (h : w.cell? a = some v) : a.block < w.heap.size := by
  unfold World.cell? at h
  by_cases hb : a.block < w.heap.size
  · exact hb
  · rw [Array.getElem?_eq_none (by omega)] at h; simp at h

theorem cell_spot {w : World} {a : Addr} {v : Value} (h : w.cell? a = some v) : a.spot = none := by
  unfold World.cell? at h
  split at h
  · cases hs : a.spot with
    | none => rfl
    | some s => rw [hs] at h; simp at h
  · cases h

theorem add_place {w : World} {a : Addr} {n : Nat} {v : Value} (h : w.cell? (a.add n) = some v) : w.cell? ⟨a.block, a.off + n, none⟩ = some v := by
  unfold Addr.add at h
  split at h
  · rename_i h0
    subst h0
    have := cell_spot h
    cases a with
    | mk b o s => simp only at this; subst this; simpa using h
  · exact h

theorem good_struct {fuel : Nat} {n : Nat} {cs : List Value} (fs : List Field) :
    ∀ (l : List LC) (off : Nat) (xs : List (DataW H × List MemPlace)), leafsF (leafs P fuel) P.cellsOf off fs = some l →
    (∀ (t : TypeId) l, leafs P fuel t = some l → ∀ (cs : List Value) (x : DataW H × List MemPlace), DataW.trod enc P w 0 (fun _ => true) held n t cs = some x →
      (∀ m, m ∈ x.1.weights P t → m ≤ reachBytes) → Good w Bw l cs) →
    cs.length = off + l.length → xs.length = fs.length →
    (∀ (i : Nat) (f : Field), fs[i]? = some f → DataW.trod enc P w 0 (fun _ => true) held n f.type ((cs.drop f.offset).take (P.cellsOf f.type)) = xs[i]?) →
    (∀ m, m ∈ DataW.weightsEach P (fs.map (·.type)) (xs.map (·.1)) → m ≤ reachBytes) → Good w Bw l (cs.drop off) := by
  induction fs with
  | nil =>
    intro l off xs h _ hl _ _ _
    simp only [leafsF, Option.some.injEq] at h
    subst h
    rw [List.drop_eq_nil_of_le (by simp at hl; omega)]
    exact .nil
  | cons f fs ih =>
    intro l off xs h IH hl hx ht hm
    simp only [leafsF] at h
    split at h
    · rename_i ho
      obtain ⟨l1, h1, h⟩ := Option.bind_eq_some_iff.1 h
      split at h
      · rename_i hs
        obtain ⟨l2, h2, rfl⟩ := Option.map_eq_some_iff.1 h
        cases xs with
        | nil => simp at hx
        | cons x xs =>
          have ht0 := ht 0 f rfl
          simp only [List.getElem?_cons_zero] at ht0
          rw [List.map_cons, List.map_cons, DataW.weightsEach] at hm
          have g1 := IH f.type l1 h1 _ x ht0 fun m h => hm m (List.mem_append_left _ h)
          rw [ho, ← hs] at g1
          rw [take_drop_split cs off l1.length]
          refine g1.append (ih l2 _ xs h2 IH (by simp at hl; omega) (by simpa using hx) (fun i f' hf => ?_) fun m h => hm m (List.mem_append_right _ h))
          have := ht (i + 1) f' (by simpa using hf)
          simpa using this
      · cases h
    · cases h

theorem good_array {l : List LC} {n e : Nat} {m : Nat} {cs : List Value} (hl : l.length = P.cellsOf e)
    (IH : ∀ (cs : List Value) (x : DataW H × List MemPlace), DataW.trod enc P w 0 (fun _ => true) held n e cs = some x → (∀ m, m ∈ x.1.weights P e → m ≤ reachBytes) → Good w Bw l cs) :
    ∀ (k i0 : Nat) (xs : List (DataW H × List MemPlace)), xs.length = m → i0 + k = m → cs.length = m * l.length →
    (∀ (i : Nat), i < m → DataW.trod enc P w 0 (fun _ => true) held n e ((cs.drop (i * P.cellsOf e)).take (P.cellsOf e)) = xs[i]?) →
    (∀ j, j ∈ DataW.weightsAll P e (xs.map (·.1)) → j ≤ reachBytes) → Good w Bw (List.replicate k l).flatten (cs.drop (i0 * l.length))
  | 0, i0, xs, _, hk, hc, _, _ => by
    rw [List.drop_eq_nil_of_le (by rw [hc]; exact Nat.mul_le_mul_right _ (by omega))]
    exact .nil
  | k + 1, i0, xs, hx, hk, hc, ht, hm => by
    rw [List.replicate_succ, List.flatten_cons, take_drop_split cs (i0 * l.length) l.length]
    have h0 := ht i0 (by omega)
    rw [List.getElem?_eq_getElem (by omega)] at h0
    rw [← hl] at h0
    refine Good.append (IH _ _ h0 fun j hj => hm j (weightsAll_mem (List.mem_map.2 ⟨_, List.getElem_mem _, rfl⟩) hj)) ?_
    have := good_array hl IH k (i0 + 1) xs hx (by omega) hc ht hm
    rwa [Nat.add_mul, Nat.one_mul] at this

theorem good_of : ∀ (fuel : Nat) (t : TypeId) (l : List LC), leafs P fuel t = some l → ∀ (n : Nat) (cs : List Value) (x : DataW H × List MemPlace),
    DataW.trod enc P w 0 (fun _ => true) held n t cs = some x → (∀ m, m ∈ x.1.weights P t → m ≤ reachBytes) → Good w Bw l cs
  | 0, t, l, h => by simp [leafs] at h
  | fuel + 1, t, l, h => by
    intro n cs x hx hm
    have IH := good_of fuel
    simp only [leafs] at h
    split at h
    · rename_i ht
      cases h
      obtain ⟨b, rfl, _⟩ := DataW.trod_bool ht hx
      exact .one (by simp [Rd]) rfl (.lit _)
    · rename_i k ht
      cases h
      obtain ⟨n, rfl, _, hw⟩ := DataW.trod_int ht hx
      exact .one (by simpa [Rd, Lit.wf] using hw) rfl (.lit _)
    · rename_i ht
      cases h
      obtain ⟨s, rfl, rfl, hs⟩ := DataW.trod_string ht hx
      refine .one (g := .lit (.string s)) ?_ rfl (.lit _)
      rw [Rd]
      exact ⟨s, rfl, hm s.data.toList.length (by rw [DataW.weights]; exact List.mem_cons_self ..)⟩
    · rename_i e ht
      obtain ⟨l1, h1, h⟩ := Option.bind_eq_some_iff.1 h
      split at h
      · rename_i hl
        cases h
        rcases Deep.open_slice ht hx with ⟨rfl, rfl⟩ | ⟨a, len, cap, m, n', D, Pl, rfl, _, hlc, hcm, hmm, rfl, hcell⟩
        · refine .one (g := .sl false l1.length [] []) ?_ rfl ?_
          · rw [Rd]
            exact ⟨[], [], rfl, by rw [List.length_nil, Nat.zero_mul]; exact Nat.zero_le _, Nat.zero_le _, fun x h => by simp at h⟩
          · refine .sl _ [] [] none 0 (fun _ _ => undef) (by simp) (fun _ => rfl) (fun _ h => by cases h) (fun x h => by simp at h) (fun i j x g h => by simp at h) (fun i j x g h => by simp at h) (fun i j x g h => by simp at h)
        · simp only [if_true] at hmm
          subst hmm
          rw [DataW.weights] at hm
          simp only [ht] at hm
          have key : ∀ i, ∃ (cs' : List Value) (gs : List GV), i < m → w.cells? 0 (a.add (i * P.cellsOf e)) (P.cellsOf e) = some cs' ∧ Good w Bw l1 cs' ∧ RdL l1 gs ∧
              ∀ (i : Nat) g, gs[i]? = some g → VP (Im0 w) w g (cs'.getD i undef) := fun i => by
            by_cases hi : i < m
            · obtain ⟨cs', hc, htr⟩ := hcell i hi
              have hg := IH e l1 h1 n' cs' _ htr fun j hj => hm j (List.mem_cons_of_mem _ ?_)
              · obtain ⟨gs, hr, hv⟩ := hg.ex
                exact ⟨cs', gs, fun _ => ⟨hc, hg, hr, hv⟩⟩
              · by_cases hil : i < len
                · exact List.mem_append_left _ (weightsAll_mem (List.mem_map.2 ⟨i, by simpa using hil, rfl⟩) hj)
                · exact List.mem_append_right _ (weightsAll_mem (List.mem_map.2 ⟨i - len, by simp; omega, by show D _ = D _; congr 1; omega⟩) hj)
            · exact ⟨[], [], fun h => absurd h hi⟩
          obtain ⟨C, key⟩ := Classical.axiomOfChoice key
          obtain ⟨G, hCG⟩ := Classical.axiomOfChoice key
          have hxs : (List.range len).map G ++ (List.range (m - len)).map (fun j => G (len + j)) = (List.range m).map G := by
            rw [show m = len + (m - len) by omega, List.range_add, List.map_append, List.map_map]
            simp only [Nat.add_sub_cancel_left]
            rfl
          have hin : ∀ (i : Nat) x, ((List.range m).map G)[i]? = some x → i < m ∧ x = G i := fun i x hx => by
            rw [List.getElem?_map, Option.map_eq_some_iff] at hx
            obtain ⟨j, hj, rfl⟩ := hx
            rw [List.getElem?_eq_some_iff] at hj
            obtain ⟨h1, h2⟩ := hj
            simp at h1 h2
            subst h2; exact ⟨h1, rfl⟩
          refine .one (g := .sl false l1.length ((List.range len).map G) ((List.range (m - len)).map fun j => G (len + j))) ?_ rfl ?_
          · rw [Rd]
            refine ⟨_, _, rfl, ?_, by simp; omega, fun x hx => ?_⟩
            · have := hm _ (List.mem_cons_self ..)
              simpa using this
            · rw [hxs] at hx
              obtain ⟨i, hi, rfl⟩ := List.mem_map.1 hx
              exact (hCG i (by simpa using hi)).2.2.1
          · have e1 : ((List.range len).map G).length = len := by simp
            rw [show (Value.slice (some a) len m) = .slice (some a) ((List.range len).map G).length m by rw [e1]]
            have cellOf : ∀ (i j : Nat) x g, ((List.range len).map G ++ (List.range (m - len)).map (fun j => G (len + j)))[i]? = some x → x[j]? = some g →
                w.cell? (a.add (i * l1.length + j)) = some ((C i).getD j undef) ∧ flat ((C i).getD j undef) = true ∧ VP (Im0 w) w g ((C i).getD j undef) := fun i j x g hx hg => by
              rw [hxs] at hx
              obtain ⟨hi, rfl⟩ := hin i x hx
              obtain ⟨hc, hgd, hr, hv⟩ := hCG i hi
              obtain ⟨_, hcl, hce⟩ := World.cells?_some hc
              have hjl : j < l1.length := by rw [← hr.length]; exact (List.getElem?_eq_some_iff.1 hg).1
              have hj2 := hce j (by omega)
              rw [Deep.add_add, List.getElem?_eq_getElem (by omega), ← hl.1] at hj2
              have hd : (C i).getD j undef = (C i)[j]'(by omega) := by rw [List.getD_eq_getElem?_getD, List.getElem?_eq_getElem (by omega)]; rfl
              refine ⟨by rw [hd]; exact hj2, by rw [hd]; exact hgd.flt _ (List.getElem_mem _), hv j g hg⟩
            refine .sl _ _ _ (some a) m (fun i j => (C i).getD j undef) (by simp; omega) (fun h => by cases h) (fun ad h => ?_) (fun x hx => ?_) (fun i j x g hx hg => ?_)
              (fun i j x g hx hg => (cellOf i j x g hx hg).2.1) (fun i j x g hx hg => (cellOf i j x g hx hg).2.2)
            · cases h
              rw [hxs]
              by_cases hm0 : m = 0
              · right; subst hm0; rfl
              · left
                obtain ⟨hc, hgd, hr, hv⟩ := hCG 0 (by omega)
                obtain ⟨_, hcl, hce⟩ := World.cells?_some hc
                have := hce 0 (by omega)
                rw [Deep.add_add, List.getElem?_eq_getElem (by omega)] at this
                simp only [Nat.zero_mul, Nat.add_zero] at this
                exact cell_spot (by simpa [Addr.add] using this)
            · rw [hxs] at hx
              obtain ⟨i, hi, rfl⟩ := List.mem_map.1 hx
              exact (hCG i (by simpa using hi)).2.2.1.length
            · have := add_place (cellOf i j x g hx hg).1
              exact ⟨a, rfl, cell_block (a := ⟨a.block, _, none⟩) this, this⟩
      · cases h
    · rename_i fs ht
      obtain ⟨l1, h1, h⟩ := Option.bind_eq_some_iff.1 h
      split at h
      · rename_i hl
        obtain rfl := Option.some.inj h
        obtain ⟨xs, n', rfl, rfl, hlen, hxl, hf⟩ := DataW.trod_struct ht hx
        rw [DataW.weights] at hm
        simp only [ht] at hm
        have := good_struct (cs := cs) fs.toList _ 0 xs h1 (fun t l h cs x hx hm => IH t l h n' cs x hx hm) (by omega) (by simpa using hxl) (fun i f h => hf i f (by simpa using h)) hm
        simpa using this
      · cases h
    · rename_i k e ht
      obtain ⟨l1, h1, h⟩ := Option.bind_eq_some_iff.1 h
      split at h
      · rename_i hl
        cases h
        obtain ⟨xs, n', rfl, rfl, hlen, hxl, hf⟩ := DataW.trod_array ht hx
        rw [DataW.weights] at hm
        simp only [ht] at hm
        have := good_array (cs := cs) hl.1 (fun cs x hx hm => IH e l1 h1 n' cs x hx hm) k 0 xs hxl (by omega) (by omega) hf hm
        simpa using this
      · cases h
    · cases h

end
end Go.Gh


/-! A row whose law answers true, from a law's contract. -/

namespace Go.Gh
open Go.ChangeShapes Go.RowKit

inductive AC where
  | st (l : List LC)
  | lf (c : LC)

def RdA : AC → GV → Prop
  | .st l, g => ∃ gs, g = .agg gs ∧ RdL l gs
  | .lf c, g => Rd c g

def RdAs : List AC → List GV → Prop
  | [], gs => gs = []
  | c :: l, gs => ∃ g gs', gs = g :: gs' ∧ RdA c g ∧ RdAs l gs'

def acOf (P : Program) (t : TypeId) : Option AC :=
  match P.underlying t with
  | some (.struct _) => (leafs P 8 t).map .st
  | some (.array _ _) => (leafs P 8 t).map .st
  | some .bool => some (.lf .bool)
  | some (.int k) => some (.lf (.int k))
  | some .string => some (.lf .str)
  | some (.slice _) => match leafs P 8 t with
    | some [c] => some (.lf c)
    | _ => none
  | _ => none

def acsOf (P : Program) : List TypeId → Option (List AC)
  | [] => some []
  | t :: ts => (acOf P t).bind fun c => (acsOf P ts).map (c :: ·)

section
variable {H : Type} {enc : TypeId × Value → H} {P : Program} {held : Bool} {W : World} {Bw : Nat → Prop}

theorem arg_of {t : TypeId} {c : AC} (hc : acOf P t = some c) {base : Nat} {v : Value} {d : DataW H} {p : List MemPlace} (hv : Value.okWide P W .any base t v)
    (ht : DataW.Trod enc P W 0 (fun _ => true) held t v d p) (hm : ∀ m, m ∈ d.weights P t → m ≤ reachBytes) : ∃ g, RdA c g ∧ VI (Im0 W) Bw W g v := by
  obtain ⟨n, ht⟩ := ht
  have agg : ∀ l, leafs P 8 t = some l → (∃ cs, v = .agg cs ∧ cs.size = P.cellsOf t ∧ Row.okWide P W .any base t cs) → ∃ g, RdA (.st l) g ∧ VI (Im0 W) Bw W g v := fun l hl hcs => by
    obtain ⟨cs, rfl, hsz, _⟩ := hcs
    have hg := good_of (w := W) (Bw := Bw) 8 t l hl n _ _ ht hm
    obtain ⟨gs, hr, hvi⟩ := hg.ex
    have hlen : cs.size = gs.length := by have := hg.len; simp [Value.cells] at this; rw [hr.length]; exact this
    have hget : ∀ i, cs.toList.getD i undef = cs.getD i undef := fun i => by
      rw [List.getD_eq_getElem?_getD, Array.getElem?_toList, ← Array.getD_eq_getD_getElem?]
    refine ⟨.agg gs, ⟨gs, rfl, hr⟩, .agg gs cs hlen (fun i hi => ?_) fun i g hg' => ?_⟩
    · refine hg.flt _ ?_
      rw [← hget, List.getD_eq_getElem?_getD, List.getElem?_eq_getElem (by simpa using hi)]
      simp [Value.cells]
    · have := hvi i g hg'
      simp only [Value.cells] at this
      rw [hget] at this
      exact this.toVI
  have leaf : ∀ c, leafs P 8 t = some [c] → v.cells.toList = [v] → ∃ g, RdA (.lf c) g ∧ VI (Im0 W) Bw W g v := fun c hl hcs => by
    have hg := good_of (w := W) (Bw := Bw) 8 t [c] hl n _ _ ht hm
    obtain ⟨gs, hr, hvi⟩ := hg.ex
    rw [RdL] at hr
    obtain ⟨g, gs', rfl, hr, hr'⟩ := hr
    have := hvi 0 g rfl
    rw [hcs] at this
    exact ⟨g, hr, VP.toVI this⟩
  have notagg : ∀ u, P.underlying t = some u → (∀ fs, u ≠ .struct fs) → (∀ n e, u ≠ .array n e) → v.cells.toList = [v] := fun u hu h1 h2 => by
    cases v with
    | agg cs =>
      exfalso
      unfold Value.okWide at hv
      rw [hu] at hv
      cases u <;> simp_all [Cell.okWide, Cell.ok]
    | _ => rfl
  unfold acOf at hc
  split at hc
  · rename_i fs hu
    obtain ⟨l, hl, rfl⟩ := Option.map_eq_some_iff.1 hc
    unfold Value.okWide at hv
    rw [hu] at hv
    exact agg l hl hv
  · rename_i k e hu
    obtain ⟨l, hl, rfl⟩ := Option.map_eq_some_iff.1 hc
    unfold Value.okWide at hv
    rw [hu] at hv
    exact agg l hl hv
  · rename_i hu
    cases hc
    exact leaf _ (by simp [leafs, hu]) (notagg _ hu (by simp) (by simp))
  · rename_i k hu
    cases hc
    exact leaf _ (by simp [leafs, hu]) (notagg _ hu (by simp) (by simp))
  · rename_i hu
    cases hc
    exact leaf _ (by simp [leafs, hu]) (notagg _ hu (by simp) (by simp))
  · rename_i e hu
    split at hc
    · rename_i c' hl
      cases hc
      exact leaf _ hl (notagg _ hu (by simp) (by simp))
    · cases hc
  · cases hc

theorem args_of : ∀ {ts : List TypeId} {cs : List AC}, acsOf P ts = some cs → ∀ {base : Nat} {vs : List Value} {ds : List (DataW H)} {p : List MemPlace},
    (∀ (j : Nat) t v, ts[j]? = some t → vs[j]? = some v → Value.okWide P W .any base t v) → DataW.TrodAll enc P W 0 (fun _ => true) held ts vs ds p →
    (∀ m, m ∈ DataW.weightsEach P ts ds → m ≤ reachBytes) →
    ∃ gs, RdAs cs gs ∧ vs.length = gs.length ∧ ∀ (i : Nat) g, gs[i]? = some g → VI (Im0 W) Bw W g (vs.getD i undef)
  | [], cs, h, base, vs, ds, p, _, ht, _ => by
    cases h
    obtain ⟨rfl, rfl, rfl⟩ := trodAll_nil ht
    exact ⟨[], rfl, rfl, fun i g h => by simp at h⟩
  | t :: ts, cs, h, base, vs, ds, p, hv, ht, hm => by
    simp only [acsOf] at h
    obtain ⟨c, hc, h⟩ := Option.bind_eq_some_iff.1 h
    obtain ⟨cs', hcs, rfl⟩ := Option.map_eq_some_iff.1 h
    obtain ⟨v, vs', d, ds', p0, q0, rfl, rfl, rfl, h0, r0⟩ := trodAll_cons ht
    rw [DataW.weightsEach] at hm
    obtain ⟨g, hg, hvi⟩ := arg_of (Bw := Bw) hc (hv 0 t v rfl rfl) h0 fun m h => hm m (List.mem_append_left _ h)
    obtain ⟨gs, hgs, hl, hvis⟩ := args_of hcs (fun j t v ht hv' => hv (j + 1) t v (by simpa using ht) (by simpa using hv')) r0 fun m h => hm m (List.mem_append_right _ h)
    refine ⟨g :: gs, ⟨g, gs, rfl, hg, hgs⟩, by simp [hl], fun i g' hg' => ?_⟩
    cases i with
    | zero => simp at hg'; subst hg'; exact hvi
    | succ i => simpa using hvis i g' (by simpa using hg')

theorem trodAll_back {W' : World} (hl : laidOutB P = true) (hb : Below W.heap.size W W') :
    ∀ {ts : List TypeId} {vs : List Value} {ds : List (DataW H)} {p : List MemPlace}, (∀ t, t ∈ ts → P.readableRec t = true ∧ t < P.types.size) → DataW.TrodAll enc P W 0 (fun _ => true) true ts vs ds p →
    DataW.TrodAll enc P W' 0 (fun b => decide (b < W.heap.size)) true ts vs ds p
  | [], vs, ds, p, _, ht => by
    obtain ⟨rfl, rfl, rfl⟩ := trodAll_nil ht
    exact trodAll_mk0
  | t :: ts, vs, ds, p, hr, ht => by
    have hlt := ht.lt
    obtain ⟨v, vs', d, ds', p0, q0, rfl, rfl, rfl, h0, r0⟩ := trodAll_cons ht
    obtain ⟨h1, h2⟩ := hr t (List.mem_cons_self ..)
    exact trodAll_cons_mk (Below.trod hl h1 h2 h0 hb fun x hx => hlt x (List.mem_append_left _ hx)) (trodAll_back hl hb (fun t h => hr t (List.mem_cons_of_mem _ h)) r0)

end

/-- THE ROW, AT THE CALL: what the law's contract gives. -/
theorem lift {C : Checked} {os : Os} (started : os.Started) {H : Type} {enc : TypeId × Value → H} {f : FuncId} {fn : Func} {s : ChangeSpec} {acs : List AC} {tb : TypeId}
    (own : ownKnob C.prog.godebug = none) (hinit : C.prog.inits.idxOf? f = none) (hfn : C.prog.funcs[f]? = some fn)
    (witness : ∃ (w : World) (tape : Tape) (i : Input), w.os = os ∧ (w.forCall tape i).Shaped C.prog ∧ i.vars = [] ∧ Input.okWide C.prog (w.forCall tape i) .any w.heap.size f i ∧
      s.pre6 enc C.prog fn [] false (w.forCall tape i).memory i.args ∧ Assume.holds {} C.prog (lone (Frame.enter C.prog f i.args .normal) [] (w.forCall tape i)))
    (hacs : acsOf C.prog fn.params.toList = some acs) (hlaid : laidOutB C.prog = true) (hreadB : fn.params.toList.all (fun t => C.prog.readableRec t && decide (t < C.prog.types.size)) = true)
    (hvars : s.vars = []) (hspec : ∀ ds : List (DataW H), ds.length = acs.length → s.fn H ds = { results := [.lit (.bool true)], args := ds })
    (hres : fn.resultTypes = #[tb]) (htb : C.prog.underlying tb = some .bool)
    (main : ∀ gs, RdAs acs gs → ∃ M', FS C.prog f gs [] (.lit (.bool true)) M') :
    ReturnsInHanded {} C os f .any (s.pre6 enc C.prog fn [] false) (s.post enc C.prog fn false true false false) := by
  have hread : ∀ t, t ∈ fn.params.toList → C.prog.readableRec t = true ∧ t < C.prog.types.size := fun t ht => by
    have := List.all_eq_true.1 hreadB t ht
    simpa using this
  refine returnsInHanded_of_change_sized (C := C) own started hinit hfn witness ?_
  intro W base args ds gs before hval hW hcnd hsz _
  have hW' := hW
  obtain ⟨p, q, hA, hV, rfl, hfz, hnd⟩ := hW
  rw [hvars] at hV
  obtain ⟨rfl, rfl⟩ := trodVars_none hV
  have hsz2 : ∀ m, m ∈ DataW.weightsEach C.prog fn.params.toList ds → m ≤ reachBytes := fun m hm => by
    have h1 := List.all_eq_true.1 hsz m
    have e : s.plain.varTypes C.prog = [] := by simp [ChangeSpec.plain, DataSpec.varTypes, hvars]
    rw [e, List.append_nil, List.append_nil] at h1
    simpa using h1 hm
  obtain ⟨xs, hR, hlen, hvi⟩ := args_of (Bw := fun _ => False) hacs (fun j t v ht hv => hval j t v (by simpa using ht) (by simpa using hv)) hA hsz2
  obtain ⟨M', hFS⟩ := main xs hR
  have hdead : ∀ id, getM [] id ≠ .dead → False := fun id h => h rfl
  have hSR : SR ⟨Im0 W, fun _ => False, fun _ => False⟩ (· < ([] : List GO).length) (fun _ => ⟨none, 0, 0, 0⟩) (getM []) W :=
    ⟨fun id => by simp [getM, OR], fun id h => (hdead id h).elim, fun i j b h => (hdead i h).elim, fun b h => by
      rcases h with h | h | h
      · exact h
      · exact h.elim
      · exact h.elim, fun id b h => (hdead id h).elim, fun b => ⟨fun _ h => h, fun _ h => h, fun _ h => h⟩⟩
  refine (hFS.run _ _ W args hSR (by simpa using hlen) fun i g hg => .imm ?_).mono fun e W' h => ?_
  · have := hvi i g hg
    rwa [List.getD_eq_getElem?_getD, Array.getElem?_toList, ← Array.getD_eq_getD_getElem?] at this
  · obtain ⟨v, Im', ι', rfl, hk, _, _, _, hv⟩ := h
    have hv := hv.lit_inv
    subst hv
    have hb : Below W.heap.size W W' := ⟨hk.os, hk.tape, hk.output, hk.size, fun k hk' => hk.block k (.inl hk')⟩
    have hdl : ds.length = acs.length := by
      have h1 : ∀ {ts : List TypeId} {vs : List Value} {ds : List (DataW H)} {p : List MemPlace}, DataW.TrodAll enc C.prog W 0 (fun _ => true) true ts vs ds p → ds.length = ts.length := by
        intro ts
        induction ts with
        | nil => intro vs ds p h; obtain ⟨_, rfl, _⟩ := trodAll_nil h; rfl
        | cons t ts ih => intro vs ds p h; obtain ⟨_, _, d, ds', _, _, _, rfl, _, _, r0⟩ := trodAll_cons h; simp [ih r0]
      have h2 : ∀ {ts : List TypeId} {cs : List AC}, acsOf C.prog ts = some cs → cs.length = ts.length := by
        intro ts
        induction ts with
        | nil => intro cs h; cases h; rfl
        | cons t ts ih =>
          intro cs h
          simp only [acsOf] at h
          obtain ⟨c, hc, h⟩ := Option.bind_eq_some_iff.1 h
          obtain ⟨cs', hcs, rfl⟩ := Option.map_eq_some_iff.1 h
          simp [ih hcs]
      rw [h1 hA, h2 hacs]
    have hsp := hspec ds hdl
    refine ⟨_, rfl, ds, [], _, [], p, [], hW', ?_, ?_, ?_, hb.frame _, fun h => by cases h⟩
    · rw [List.append_nil, hsp, hres]
      exact trodAll_mk1 (shut_bool htb _)
    · rw [List.append_nil, hsp]
      exact trodAll_back hlaid hb hread hA
    · rw [List.append_nil, hsp, hvars]
      rfl

end Go.Gh


namespace Go.Gh
variable {P : Program}
variable {ds : List (Option Tmp)} {o : Oper} {rest : List Oper} {σ : List GV} {M : List GO} {tr : List RI} {K : List GV → List GO → List RI → Prop}

def nthD : List (Option Tmp) → Nat → Option Tmp
  | [], _ => none
  | d :: _, 0 => d
  | _ :: l, n + 1 => nthD l n

def nthG : List GV → Nat → Option GV
  | [], _ => none
  | g :: _, 0 => some g
  | _ :: l, n + 1 => nthG l n

theorem nthD_ok : ∀ {l : List (Option Tmp)} {j d : Nat}, nthD l j = some d → (l[j]?).bind id = some d
  | [], j, d, h => by cases h
  | o :: l, 0, d, h => by simpa [nthD] using h
  | o :: l, n + 1, d, h => by have := nthD_ok (l := l) (j := n) (d := d) h; simpa using this

theorem nthG_ok : ∀ {l : List GV} {j : Nat} {d : GV}, nthG l j = some d → l[j]? = some d
  | [], j, d, h => by cases h
  | o :: l, 0, d, h => by simpa [nthG] using h
  | o :: l, n + 1, d, h => by simpa using nthG_ok (l := l) (j := n) (d := d) h

theorem gwant_is {j d : Nat} {b t : Bool} (hs : o.guard = some (j, b)) (hd : nthD ds j = some d) (hb : nthG σ d = some (.lit (.bool t))) : gwantD ds σ o = some (t == b) := by
  unfold gwantD
  rw [hs]
  simp only [nthD_ok hd, nthG_ok hb]

/-- What is guarded, and known to be wanted. -/
theorem TW.wt {j d : Nat} {b : Bool} (hs : o.guard = some (j, b)) (hd : nthD ds j = some d) (hb : nthG σ d = some (.lit (.bool b)))
    (h : TW P ds (⟨o.dst, o.op, o.type, o.pos, o.after, none⟩ :: rest) σ M tr K) : TW P ds (o :: rest) σ M tr K :=
  TW.want (by rw [gwant_is hs hd hb]; simp) h

theorem TW.sk {j d : Nat} {b t : Bool} {σ' : List GV} (hs : o.guard = some (j, b)) (hd : nthD ds j = some d) (hb : nthG σ d = some (.lit (.bool t))) (hn : (t == b) = false) (hp : putS σ o.dst gundef = σ')
    (h : TW P ds rest σ' M (tr ++ [⟨o.dst, [], [], M.length, 0⟩]) K) : TW P ds (o :: rest) σ M tr K := by
  subst hp; exact TW.skip (by rw [gwant_is hs hd hb, hn]) h

theorem TW.su {j d : Nat} {b : Bool} {σ' : List GV} (hs : o.guard = some (j, b)) (hd : nthD ds j = some d) (hb : nthG σ d = some gundef) (hp : putS σ o.dst gundef = σ')
    (h : TW P ds rest σ' M (tr ++ [⟨o.dst, [], [], M.length, 0⟩]) K) : TW P ds (o :: rest) σ M tr K := by
  subst hp
  refine TW.skip ?_ h
  unfold gwantD
  rw [hs]
  simp only [nthD_ok hd, nthG_ok hb, gundef]

theorem mk_t (m : List Bool) (g : GV) (σ : List GV) : msk (true :: m) (g :: σ) = g :: msk m σ := rfl
theorem mk_f (m : List Bool) (g : GV) (σ : List GV) : msk (false :: m) (g :: σ) = .any :: msk m σ := rfl
theorem mk_n (σ : List GV) : msk [] σ = σ := rfl
theorem ba_n (ids : List Nat) : borAll ids [] = [] := rfl
theorem ba_c (ids : List Nat) (g : GV) (l : List GV) : borAll ids (g :: l) = bor ids g ++ borAll ids l := rfl
theorem bo_lit (ids : List Nat) (v : Value) : bor ids (.lit v) = [] := rfl
theorem bo_mref (ids : List Nat) (i : Nat) : bor ids (.mref i) = [] := rfl
theorem bo_agg (ids : List Nat) (l : List GV) : bor ids (.agg l) = [] := rfl
theorem bo_sl (ids : List Nat) (b : Bool) (sz : Nat) (xs ex : List (List GV)) : bor ids (.sl b sz xs ex) = [] := rfl
theorem bo_adr (a b c : Nat) : bor [] (.adr a b c) = [a] := rfl
theorem bo_iadr (ids : List Nat) (b : Bool) (l : List GV) : bor ids (.iadr b l) = [] := rfl
theorem bo_any (ids : List Nat) : bor ids .any = [] := rfl
theorem bo_zl (ids : List Nat) : bor ids .zl = [] := rfl
theorem bo_clo (ids : List Nat) (f : Nat) (l : List GV) : bor ids (.clo f l) = [] := rfl
theorem bo_row0 (id : Nat) : bor [] (.row id) = [id] := rfl
theorem bo_sub0 (id a b : Nat) : bor [] (.sub id a b) = [id] := rfl
theorem ad_row (id : Nat) : gid (.row id) = [id] := rfl
theorem ad_sub (id a b : Nat) : gid (.sub id a b) = [id] := rfl
theorem ad_win (id a b : Nat) : gid (.win id a b) = [id] := rfl
theorem ad_sl (b : Bool) (sz : Nat) (xs ex : List (List GV)) : gid (.sl b sz xs ex) = [] := rfl
theorem ad_lit (v : Value) : gid (.lit v) = [] := rfl
theorem ad_zl : gid .zl = [] := rfl

theorem gd_s (x : GV) (l : List GV) (n : Nat) (d : GV) : (x :: l).getD (n + 1) d = l.getD n d := rfl
theorem gd_z (x : GV) (l : List GV) (d : GV) : (x :: l).getD 0 d = x := rfl
theorem ge_s (x : GO) (l : List GO) (n : Nat) (d : GO) : (x :: l).getD (n + 1) d = l.getD n d := rfl
theorem ge_z (x : GO) (l : List GO) (d : GO) : (x :: l).getD 0 d = x := rfl
theorem ga_s {α : Type} (x : α) (l : List α) (n : Nat) (h : n + 1 < (List.toArray (x :: l)).size) : (List.toArray (x :: l))[n + 1]'h = (List.toArray l)[n]'(by simpa using h) := rfl
theorem ga_z {α : Type} (x : α) (l : List α) (h : 0 < (List.toArray (x :: l)).size) : (List.toArray (x :: l))[0]'h = x := rfl
theorem tk_s {α : Type} (x : α) (l : List α) (n : Nat) : (x :: l).take (n + 1) = x :: l.take n := rfl
theorem tk_z {α : Type} (l : List α) : l.take 0 = [] := rfl
theorem tk_n {α : Type} (n : Nat) : ([] : List α).take (n + 1) = [] := rfl
theorem dr_s {α : Type} (x : α) (l : List α) (n : Nat) : (x :: l).drop (n + 1) = l.drop n := rfl
theorem dr_z {α : Type} (l : List α) : l.drop 0 = l := rfl

theorem wrap_u32 (n : Int) : IntKind.u32.wrap n = n % 4294967296 := by
  have h : IntKind.u32.wrap n = n % (2 ^ 32 : Int) := by
    unfold IntKind.wrap
    simp [IntKind.bits, IntKind.signed]
  rw [h]; rfl

theorem wrap_u64 (n : Int) : IntKind.u64.wrap n = n % 18446744073709551616 := by
  have h : IntKind.u64.wrap n = n % (2 ^ 64 : Int) := by
    unfold IntKind.wrap
    simp [IntKind.bits, IntKind.signed]
  rw [h]; rfl

theorem wrap_u8 (n : Int) : IntKind.u8.wrap n = n % 256 := by
  have h : IntKind.u8.wrap n = n % (2 ^ 8 : Int) := by
    unfold IntKind.wrap
    simp [IntKind.bits, IntKind.signed]
  rw [h]; rfl

theorem wrap_i64 (n : Int) (h1 : -9223372036854775808 ≤ n) (h2 : n ≤ 9223372036854775807) : IntKind.i64.wrap n = n := by
  unfold IntKind.wrap
  simp [IntKind.bits, IntKind.signed]
  omega

end Go.Gh


/-! Composite literals: structs, arrays and slices. -/

namespace Go.Gh
variable {P : Program}

/-- Cells, and what they are. -/
structure RC (V : GV → Value → Prop) (gs : List GV) (vs : Array Value) : Prop where
  len : vs.size = gs.length
  flt : ∀ (i : Nat), i < vs.size → flat (vs.getD i undef) = true
  rel : ∀ (i : Nat) g, gs[i]? = some g → V g (vs.getD i undef)

def gfill (place : Nat → Option (Nat × Nat)) : List GV → List (Nat × GV) → Option (List GV)
  | cells, [] => some cells
  | cells, (i, g) :: rest =>
    match place i, gcells g with
    | some (off, size), some cs => if cs.length = size ∧ off + size ≤ cells.length then gfill place (setMany cells off cs) rest else none
    | _, _ => none

theorem set_RC {V : GV → Value → Prop} {off : Nat} : ∀ (cs : List GV) (us : List Value) (s : Nat) (gs : List GV) (vs : Array Value), RC V gs vs → us.length = cs.length → off + s + cs.length ≤ gs.length →
    (∀ u, u ∈ us → flat u = true) → (∀ (i : Nat) g, cs[i]? = some g → V g (us.getD i undef)) →
    RC V (setMany gs (off + s) cs) ((us.zipIdx s).foldl (fun c (x : Value × Nat) => c.setIfInBounds (off + x.2) x.1) vs)
  | [], [], s, gs, vs, h, _, _, _, _ => by simpa [setMany] using h
  | c :: cs, u :: us, s, gs, vs, h, hl, hb, hf, hr => by
    rw [setMany, List.zipIdx_cons, List.foldl_cons]
    simp only
    have := set_RC (V := V) (off := off) cs us (s + 1) (gs.set (off + s) c) (vs.setIfInBounds (off + s) u) ⟨by simp [h.len], fun i hi => ?_, fun i g hg => ?_⟩ (by simpa using hl) (by simp at hb ⊢; omega)
      (fun x hx => hf x (List.mem_cons_of_mem _ hx)) (fun i g hg => by simpa using hr (i + 1) g (by simpa using hg))
    · rwa [← Nat.add_assoc] at this
    · simp only [Array.size_setIfInBounds] at hi
      by_cases e : off + s = i
      · subst e
        have : (vs.setIfInBounds (off + s) u).getD (off + s) undef = u := by simp [hi]
        rw [this]; exact hf u (List.mem_cons_self ..)
      · have : (vs.setIfInBounds (off + s) u).getD i undef = vs.getD i undef := by simp [e]
        rw [this]; exact h.flt i hi
    · by_cases e : off + s = i
      · subst e
        have hi : off + s < gs.length := by simp at hb; omega
        rw [List.getElem?_set_self hi] at hg
        cases hg
        have : (vs.setIfInBounds (off + s) u).getD (off + s) undef = u := by simp [h.len, hi]
        rw [this]; exact hr 0 c rfl
      · rw [List.getElem?_set_ne e] at hg
        have : (vs.setIfInBounds (off + s) u).getD i undef = vs.getD i undef := by simp [e]
        rw [this]; exact h.rel i g hg
  | [], _ :: _, _, _, _, _, hl, _, _, _ => by simp at hl
  | _ :: _, [], _, _, _, _, hl, _, _, _ => by simp at hl

section
variable {Im Bw D : Nat → Prop} {ι : Nat → Hd} {w : World}

theorem gfill_sound {place : Nat → Option (Nat × Nat)} : ∀ {parts : List (Nat × GV)} {us : List (Nat × Value)} {gs gs' : List GV} {vs : Array Value}, gfill place gs parts = some gs' →
    RC (VR Im Bw D ι w) gs vs → parts.map (·.1) = us.map (·.1) → (∀ (i : Nat) p u, parts[i]? = some p → us[i]? = some u → VR Im Bw D ι w p.2 u.2) →
    ∃ vs', Instr.fill place vs us = some vs' ∧ RC (VR Im Bw D ι w) gs' vs'
  | [], [], gs, gs', vs, h, hr, _, _ => by
    simp only [gfill, Option.some.injEq] at h
    subst h
    exact ⟨vs, rfl, hr⟩
  | (i, g) :: rest, (i', v) :: us, gs, gs', vs, h, hr, hi, hv => by
    simp only [List.map_cons, List.cons.injEq] at hi
    obtain ⟨rfl, hi⟩ := hi
    simp only [gfill] at h
    split at h
    · rename_i off size cs hp hc
      split at h
      · rename_i hcond
        obtain ⟨h1, h2, h3⟩ := gcells_sound (hv 0 _ _ rfl rfl) hc
        simp only at h1 h2 h3
        have hnew := set_RC (V := VR Im Bw D ι w) (off := off) cs v.cells.toList 0 gs vs hr (by simpa using h1) (by omega) h2 (fun i g hg => by
          have := h3 i g hg
          rwa [List.getD_eq_getElem?_getD, Array.getElem?_toList, ← Array.getD_eq_getD_getElem?])
        obtain ⟨vs', e1, e2⟩ := gfill_sound h hnew hi fun i p u hp hu => hv (i + 1) p u (by simpa using hp) (by simpa using hu)
        refine ⟨vs', ?_, e2⟩
        unfold Instr.fill
        simp only [hp]
        have hle := hr.len
        have c1 : ¬ (decide (v.cells.size ≠ size) || decide (off + v.cells.size > vs.size)) = true := by
          rw [h1, hcond.1, hr.len]
          simp
          omega
        rw [if_neg c1]
        rw [← e1]
        congr 1
        rw [← Array.foldl_toList, Array.toList_zipIdx]
      · cases h
    · cases h
  | [], _ :: _, _, _, _, _, _, h, _ => by simp at h
  | _ :: _, [], _, _, _, _, _, h, _ => by simp at h

theorem lit_RC {z : Array Value} (hf : z.toList.all flat = true) : RC (VR Im Bw D ι w) (z.toList.map .lit) z := by
  refine ⟨by simp, fun i hi => ?_, fun i g hg => ?_⟩
  · have : z.getD i undef = z[i] := by simp [hi]
    rw [this]
    exact List.all_eq_true.1 hf _ (by simp)
  · rw [List.getElem?_map, Option.map_eq_some_iff] at hg
    obtain ⟨u, hu, rfl⟩ := hg
    have : z.getD i undef = u := by
      rw [Array.getElem?_toList] at hu
      rw [Array.getD_eq_getD_getElem?, hu]; rfl
    rw [this]; exact .imm (.lit u)

end

theorem range_mod {α : Type} (f : Nat → α) (sz : Nat) (hp : 0 < sz) : ∀ n, (List.range (n * sz)).map (fun k => f (k % sz)) = (List.replicate n ((List.range sz).map f)).flatten
  | 0 => by simp
  | n + 1 => by
    rw [Nat.add_mul, Nat.one_mul, Nat.add_comm, List.range_add, List.map_append, List.replicate_succ, List.flatten_cons, ← range_mod f sz hp n]
    congr 1
    · refine List.map_congr_left fun k hk => ?_
      rw [Nat.mod_eq_of_lt (by simpa using hk)]
    · rw [List.map_map]
      refine List.map_congr_left fun k _ => ?_
      simp

theorem flatten_len {α : Type} {sz : Nat} : ∀ {xs : List (List α)}, (∀ x, x ∈ xs → x.length = sz) → xs.flatten.length = xs.length * sz
  | [], _ => by simp
  | x :: xs, h => by
    rw [List.flatten_cons, List.length_append, h x (List.mem_cons_self ..), flatten_len fun y hy => h y (List.mem_cons_of_mem _ hy), List.length_cons, Nat.add_mul, Nat.one_mul, Nat.add_comm]

theorem flatten_get {α : Type} {sz : Nat} : ∀ {xs : List (List α)} {i j : Nat} {x : List α} {g : α}, (∀ x, x ∈ xs → x.length = sz) → xs[i]? = some x → x[j]? = some g → xs.flatten[i * sz + j]? = some g
  | [], i, j, x, g, _, h, _ => by simp at h
  | y :: xs, 0, j, x, g, hl, h, hg => by
    simp only [List.getElem?_cons_zero, Option.some.injEq] at h
    subst h
    rw [List.flatten_cons, Nat.zero_mul, Nat.zero_add, List.getElem?_append_left (List.getElem?_eq_some_iff.1 hg).1]
    exact hg
  | y :: xs, i + 1, j, x, g, hl, h, hg => by
    have h1 := hl y (List.mem_cons_self ..)
    rw [List.flatten_cons, Nat.add_mul, Nat.one_mul, List.getElem?_append_right (by omega), show i * sz + sz + j - y.length = i * sz + j by omega]
    exact flatten_get (fun y hy => hl y (List.mem_cons_of_mem _ hy)) (by simpa using h) hg

section
variable {o : Oper} {ρ : Rho} {nb : Nat} {M0 : Nat → GO}

/-- Where the parts of a composite of this type lie. -/
def placesOf (P : Program) (t : TypeId) : Option (Nat → Option (Nat × Nat)) :=
  match P.underlying t with
  | some (.array _ e) => (P.info? e).map fun ie => fun i => some (i * ie.size, ie.size)
  | some (.struct fields) => (fields.toList.mapM (fun f => (P.info? f.type).map fun i => (f.offset, i.size))).map fun places => fun i => places[i]?
  | _ => none

theorem built_of {t : TypeId} {place : Nat → Option (Nat × Nat)} {z : Value} {parts : List (Nat × Value)} (hp : placesOf P t = some place) (hz : zeroOf P t = some z) : P.built t parts = Instr.fill place z.cells parts := by
  unfold zeroOf at hz
  unfold placesOf at hp
  unfold Program.built
  cases hi : P.info? t with
  | none => simp [hi] at hz
  | some it =>
    simp [hi] at hz
    split at hp
    · rename_i n e hu
      obtain ⟨ie, hie, rfl⟩ := Option.map_eq_some_iff.1 hp
      simp [hu, hz, hie]
    · rename_i fs hu
      obtain ⟨pl, hpl, rfl⟩ := Option.map_eq_some_iff.1 hp
      simp only [hu, hz, hpl]
      congr 1
      funext i
      simp
    · cases hp

theorem os_build {t : TypeId} {parts : Array (Nat × Operand)} {place : Nat → Option (Nat × Nat)} {z : Value} {gs : List GV} (ho : o.op = .build t parts) (hp : placesOf P t = some place) (hz : zeroOf P t = some z)
    (hf : flatAll z = true) (hg : gfill place (z.cells.toList.map .lit) (parts.toList.map fun x => (x.1, ρ x.2)) = some gs) : OpS P o ρ nb M0 [] (.agg gs) [] [] := by
  refine .quiet fun Γ D ι M w ac hS hV _ => ?_
  obtain ⟨vs, h1, h2⟩ := gfill_sound (Im := Γ.Im) (Bw := Γ.Bw) (D := D) (ι := ι) (w := w) (us := parts.toList.map fun x => (x.1, ac.eval x.2)) hg (lit_RC hf) (by simp) (fun i p u hp hu => by
    rw [List.getElem?_map, Option.map_eq_some_iff] at hp hu
    obtain ⟨x, hx, rfl⟩ := hp
    obtain ⟨y, hy, rfl⟩ := hu
    obtain rfl : x = y := Option.some.inj (hx.symm.trans hy)
    exact hV x.2 (by
      rw [ho]
      simp only [Op.operands]
      exact (by simpa using ⟨x.1, Array.mem_iff_getElem?.2 ⟨i, by simpa using hx⟩⟩)))
  refine ⟨.agg vs, .agg gs vs h2.len h2.flt h2.rel, ?_⟩
  have hb := run_build (P := P) w t (parts.map fun (i, x) => (i, ac.eval x)) vs (by rw [built_of hp hz, ← h1]; simp)
  simp only [execOp, ho, Sem.run_bind, hb, Result.andThen_ok, Sem.run_pure]

theorem os_buildSlice {t e : TypeId} {len sz : Nat} {parts : Array (Nat × Operand)} {z : Value} {gs : List GV} {xs : List (List GV)} (ho : o.op = .buildSlice t len parts) (ht : P.underlying t = some (.slice e))
    (hsz : P.cellsOf e = sz) (hz : zeroOf P e = some z) (hzs : z.cells.size = sz) (hpos : 0 < sz) (hlen : 0 < len) (hsmall : len * sz ≤ 16777216)
    (hf : flatAll z = true) (hg : gfill (fun i => some (i * sz, sz)) ((List.replicate len (z.cells.toList.map .lit)).flatten) (parts.toList.map fun x => (x.1, ρ x.2)) = some gs)
    (hpu : pureL gs = true) (hxs : gs = xs.flatten) (hxl : xs.length = len) (hxe : xs.all (fun x => x.length == sz) = true) : OpS P o ρ nb M0 [] (.row nb) [] [.row e sz xs] := by
  refine .make fun Γ D ι M w ac hS hV _ hn => ?_
  obtain ⟨ie, zv, hie, hzv, h3, h4⟩ : ∃ ie zv, P.info? e = some ie ∧ ie.zero = some zv ∧ ie.size = sz ∧ zv = z := by
    unfold zeroOf at hz
    unfold Program.cellsOf at hsz
    cases hi : P.info? e with
    | none => simp [hi] at hz
    | some i => simp [hi] at hz hsz; exact ⟨i, z, rfl, hz, hsz, rfl⟩
  subst h4
  have hz0 : ((Array.range (len * sz)).map (zv.cells[· % zv.cells.size]!)).toList = (List.replicate len zv.cells.toList).flatten := by
    have := range_mod (fun k => zv.cells[k]!) sz hpos len
    rw [Array.toList_map, Array.toList_range, hzs, this]
    congr 2
    apply List.ext_getElem?
    intro k
    by_cases hk : k < sz
    · simp [hk, hzs]
    · simp [hk, hzs]
  have hzrow : ((Array.range (len * sz)).map (zv.cells[· % zv.cells.size]!)).toList.map GV.lit = (List.replicate len (zv.cells.toList.map .lit)).flatten := by
    rw [hz0, List.map_flatten, List.map_replicate]
  have hzf : ((Array.range (len * sz)).map (zv.cells[· % zv.cells.size]!)).toList.all flat = true := by
    rw [hz0, List.all_eq_true]
    intro u hu
    simp only [List.mem_flatten, List.mem_replicate] at hu
    obtain ⟨l, ⟨_, rfl⟩, hu⟩ := hu
    exact List.all_eq_true.1 hf u hu
  rw [← hzrow] at hg
  obtain ⟨vs, h1, h2⟩ := gfill_sound (Im := Γ.Im) (Bw := Γ.Bw) (D := D) (ι := ι) (w := w) (us := parts.toList.map fun x => (x.1, ac.eval x.2)) hg (lit_RC hzf) (by simp) (fun i p u hp hu => by
    rw [List.getElem?_map, Option.map_eq_some_iff] at hp hu
    obtain ⟨x, hx, rfl⟩ := hp
    obtain ⟨y, hy, rfl⟩ := hu
    obtain rfl : x = y := Option.some.inj (hx.symm.trans hy)
    exact hV x.2 (by
      rw [ho]
      simp only [Op.operands]
      exact (by simpa using ⟨x.1, Array.mem_iff_getElem?.2 ⟨i, by simpa using hx⟩⟩)))
  have hxz : ∀ x, x ∈ xs → x.length = sz := fun x hx => by simpa using List.all_eq_true.1 hxe x hx
  have hvs : vs.size = len * sz := by
    rw [h2.len, hxs, flatten_len hxz, hxl]
  have hr := run_buildSlice (P := P) w t e len (parts.map fun (i, x) => (i, ac.eval x)) vs ie zv ht hie hzv (by rw [h3]; omega) (by rw [h3]; exact Nat.mul_ne_zero (by omega) (by omega)) (by rw [h3, ← h1]; simp)
  refine ⟨⟨some w.heap.size, sz, len, len⟩, .slice (some ⟨w.heap.size, 0, none⟩) len len, w.alloc (.cells vs e), ?_, rfl, rfl, rfl, by simp, fun b hb => heap_alloc_old w _ hb, fun b hb => by simp at hb; omega, fun D' ι' hD hDn hι hιn => ⟨?_, ?_⟩⟩
  · simp only [execOp, ho, Sem.run_bind, hr, Result.andThen_ok, Sem.run_pure]
  · refine ⟨⟨rfl, fun b arr t hb hg2 v hv => ?_⟩, hxl.symm, hxz, vs.toList, ⟨by simp [hvs, hxl], .inr ⟨w.heap.size, len, vs, ?_, Nat.zero_le _, heap_alloc_new w _, by omega, ?_, hvs, ?_⟩⟩, fun v hv => ?_, fun i j x g hx hg => ?_⟩
    · cases hb
      have hg3 := (heap_alloc_new w (.cells vs e)).symm.trans hg2
      cases hg3
      obtain ⟨i, hi, rfl⟩ := List.mem_iff_getElem.1 hv
      have := h2.flt i (by simpa using hi)
      simpa [show i < vs.size by simpa using hi] using this
    · simp [Hd.val, hxl]
    · unfold maxLen
      have : len * 1 ≤ len * sz := Nat.mul_le_mul_left _ hpos
      omega
    · rw [hxl, List.take_of_length_le (by simp [hvs])]
    · obtain ⟨i, hi, rfl⟩ := List.mem_iff_getElem.1 hv
      have := h2.flt i (by simpa using hi)
      simpa [show i < vs.size by simpa using hi] using this
    · have hgs : gs[i * sz + j]? = some g := by rw [hxs]; exact flatten_get hxz hx hg
      have := (h2.rel _ g hgs).toVP (pureL_get hpu hgs).1 (pureL_get hpu hgs).2
      rw [List.getD_eq_getElem?_getD, Array.getElem?_toList, ← Array.getD_eq_getD_getElem?]
      exact this.mono (fun _ h => h) fun b hb => heap_alloc_old w _ (hS.lt b (.inl hb))
  · have := VR.row (Im := Γ.Im) (Bw := Γ.Bw) (D := D') (ι := ι') (w := w.alloc (.cells vs e)) nb hDn
    simpa [hιn] using this

end

/-! The rules. -/

def placesT (T : Tab P) (t : Nat) : Option (Nat → Option (Nat × Nat)) :=
  match T.u t with
  | some (.array _ e) => if T.sz e ≠ 0 then some fun i => some (i * T.sz e, T.sz e) else none
  | some (.struct fields) => if fields.toList.all (fun f => T.sz f.type != 0) then some fun i => (fields.toList.map fun f => (f.offset, T.sz f.type))[i]? else none
  | _ => none

theorem info_size (T : Tab P) {t : Nat} (h : T.sz t ≠ 0) : ∃ i, P.info? t = some i ∧ i.size = T.sz t := by
  have := T.szok t h
  unfold Program.cellsOf at this
  cases hi : P.info? t with
  | none => simp [hi] at this; omega
  | some i => simp [hi] at this; exact ⟨i, rfl, this⟩

theorem placesT_ok {T : Tab P} {t : Nat} {pl : Nat → Option (Nat × Nat)} (h : placesT T t = some pl) : placesOf P t = some pl := by
  unfold placesT at h
  unfold placesOf
  split at h
  · rename_i n e hu
    rw [T.uok _ _ hu]
    split at h
    · rename_i hne
      obtain ⟨i, hi, hs⟩ := info_size T hne
      simp only [hi, Option.map_some, hs]
      exact h
    · cases h
  · rename_i fs hu
    rw [T.uok _ _ hu]
    split at h
    · rename_i hne
      have : ∀ (l : List Field), l.all (fun f => T.sz f.type != 0) = true → l.mapM (fun f => (P.info? f.type).map fun i => (f.offset, i.size)) = some (l.map fun f => (f.offset, T.sz f.type)) := by
        intro l
        induction l with
        | nil => intro _; rfl
        | cons f l ih =>
          intro hl
          simp only [List.all_cons, Bool.and_eq_true, bne_iff_ne, ne_eq] at hl
          obtain ⟨i, hi, hs⟩ := info_size T hl.1
          simp [List.mapM_cons, hi, hs, ih hl.2]
      simp only [this _ hne, Option.map_some]
      exact h
    · cases h
  · cases h

def chunks (sz : Nat) : Nat → List GV → List (List GV)
  | 0, _ => []
  | n + 1, gs => gs.take sz :: chunks sz n (gs.drop sz)

theorem chunks_ok {sz : Nat} : ∀ (n : Nat) (gs : List GV), gs.length = n * sz → gs = (chunks sz n gs).flatten ∧ (chunks sz n gs).length = n ∧ (chunks sz n gs).all (fun x => x.length == sz) = true
  | 0, gs, h => by
    have : gs = [] := List.eq_nil_of_length_eq_zero (by simpa using h)
    subst this; exact ⟨rfl, rfl, rfl⟩
  | n + 1, gs, h => by
    rw [Nat.add_mul, Nat.one_mul] at h
    obtain ⟨h1, h2, h3⟩ := chunks_ok (sz := sz) n (gs.drop sz) (by rw [List.length_drop]; omega)
    refine ⟨?_, by simp [chunks, h2], ?_⟩
    · rw [chunks, List.flatten_cons, ← h1, List.take_append_drop]
    · rw [chunks, List.all_cons, h3]
      simp; omega

theorem ch_s (sz n : Nat) (gs : List GV) : chunks sz (n + 1) gs = gs.take sz :: chunks sz n (gs.drop sz) := rfl
theorem ch_z (sz : Nat) (gs : List GV) : chunks sz 0 gs = [] := rfl
theorem mp_s {α β : Type} (f : α → β) (x : α) (l : List α) : (x :: l).map f = f x :: l.map f := rfl
theorem mp_z {α β : Type} (f : α → β) : ([] : List α).map f = [] := rfl
theorem ap_s {α : Type} (x : α) (l l' : List α) : (x :: l) ++ l' = x :: (l ++ l') := rfl
theorem ap_z {α : Type} (l : List α) : [] ++ l = l := rfl
theorem ta_l {α : Type} (l : List α) : (List.toArray l).toList = l := rfl
theorem rp_s {α : Type} (n : Nat) (x : α) : List.replicate (n + 1) x = x :: List.replicate n x := rfl
theorem rp_z {α : Type} (x : α) : List.replicate 0 x = [] := rfl

section
variable (T : Tab P) {ds : List (Option Tmp)} {o : Oper} {rest : List Oper} {σ σ' : List GV} {M M' : List GO} {tr : List RI} {K : List GV → List GO → List RI → Prop}

theorem TW.bu {t : TypeId} {parts : Array (Nat × Operand)} {place : Nat → Option (Nat × Nat)} {z : Value} {gs : List GV} (ho : o.op = .build t parts) (hg : o.guard = none) (hpl : placesT T t = some place) (hz : T.z t = some z)
    (hf : flatAll z = true) (hgf : gfill place (z.cells.toList.map .lit) (parts.toList.map fun x => (x.1, rhoOf σ x.2)) = some gs) (hp : putS σ o.dst (.agg gs) = σ')
    (h : TW P ds rest σ' M (tr ++ [⟨o.dst, [], [], M.length, 0⟩]) K) : TW P ds (o :: rest) σ M tr K := by
  subst hp
  exact TW.rd hg (os_build ho (placesT_ok hpl) (T.zok _ _ hz) hf hgf) h

theorem TW.bl {t e : TypeId} {len : Nat} {parts : Array (Nat × Operand)} {z : Value} {gs : List GV} {xs : List (List GV)} (ho : o.op = .buildSlice t len parts) (hg : o.guard = none) (ht : T.u t = some (.slice e)) (hz : T.z e = some z)
    (hzs : z.cells.size = T.sz e) (hc : T.sz e ≠ 0 ∧ 0 < len ∧ len * T.sz e ≤ 16777216) (hf : flatAll z = true)
    (hgf : gfill (fun i => some (i * T.sz e, T.sz e)) ((List.replicate len (z.cells.toList.map .lit)).flatten) (parts.toList.map fun x => (x.1, rhoOf σ x.2)) = some gs)
    (hgl : gs.length = len * T.sz e) (hpu : pureL gs = true) (hxs : chunks (T.sz e) len gs = xs) (hp : putS σ o.dst (.row M.length) = σ') (hM : M ++ [.row e (T.sz e) xs] = M')
    (h : TW P ds rest σ' M' (tr ++ [⟨o.dst, [], [], M.length, 1⟩]) K) : TW P ds (o :: rest) σ M tr K := by
  subst hp; subst hM; subst hxs
  obtain ⟨h1, h2, h3⟩ := chunks_ok len gs hgl
  exact TW.step (by unfold gwantD; rw [hg]) (os_buildSlice ho (T.uok _ _ ht) (T.szok _ hc.1) (T.zok _ _ hz) hzs (by omega) hc.2.1 hc.2.2 hf hgf hpu h1 h2 h3) (by simp) h

end
end Go.Gh
