import Derived.Test.YtoamjccphppdmaaGhZe

/-! Rules for the walk: parts of slices, strings, rows made, what is appended in place. -/

namespace Go.Gh
variable {P : Program}
section
variable (T : Tab P) {ds : List (Option Tmp)} {o : Oper} {rest : List Oper} {σ σ' : List GV} {M M' : List GO} {tr : List RI} {K : List GV → List GO → List RI → Prop}

/-- Which rules may do. -/
def opk : Op → Nat
  | .slice .. => 1
  | .indexAddr .. => 2
  | .buildSlice .. => 3
  | .convert .. => 4
  | .makeSlice .. => 5
  | .binOp .quo .. => 6
  | .binOp .rem .. => 7
  | .binOp .shl .. => 8
  | .binOp .shr .. => 9
  | .call { callee := .builtin .append, .. } => 10
  | .call { callee := .value _, .. } => 11
  | .call { callee := .builtin .copy, .. } => 12
  | .call { callee := .builtin .clear, .. } => 13
  | .call { callee := .builtin .cap, .. } => 14
  | _ => 0

def calls (σ : List GV) : Op → Option FuncId
  | .call { callee := .value c, .. } => (calleeG (rhoOf σ c)).map (·.1)
  | _ => none

theorem TW.kd (k : Nat) (_hk : opk o.op = k) (h : TW P ds (o :: rest) σ M tr K) : TW P ds (o :: rest) σ M tr K := h
theorem TW.kc (f : Nat) (_hk : calls σ o.op = some f) (h : TW P ds (o :: rest) σ M tr K) : TW P ds (o :: rest) σ M tr K := h

theorem TW.cs {t e sz : Nat} {x : Operand} {lo hi mx : Option Operand} {bw : Bool} {xs ex : List (List GV)} {l h : Int} (ho : o.op = .slice t x lo hi mx) (hg : o.guard = none) (hx : rhoOf σ x = .sl bw sz xs ex) (ht : T.u t = some (.slice e)) (hsz : T.sz e = sz) (hpos : T.sz e ≠ 0)
    (hl : bndG (rhoOf σ) 0 lo = some l) (hh : bndG (rhoOf σ) xs.length hi = some h) (hhm : (hi.isSome || mx.isNone) = true) (hm : mxG (rhoOf σ) h xs.length mx) (h0 : 0 ≤ l) (h1 : l ≤ h) (h2 : h ≤ xs.length) (hp : putS σ o.dst (.sl bw sz ((xs.take h.toNat).drop l.toNat) []) = σ')
    (hk : TW P ds rest σ' M (tr ++ [⟨o.dst, [], [], M.length, 0⟩]) K) : TW P ds (o :: rest) σ M tr K := by
  subst hp
  exact TW.rd hg (os_cut_sl ho (T.uok _ _ ht) (by rw [T.szok _ hpos]; exact hsz) (by omega) hx hl hh hm (fun h => by subst h; simpa using hhm) h0 h1 h2) hk

theorem TW.ce {t e sz : Nat} {x : Operand} {lo hi : Option Operand} {bw : Bool} {xs ex : List (List GV)} {l h : Int} (ho : o.op = .slice t x lo hi none) (hg : o.guard = none) (hx : rhoOf σ x = .sl bw sz xs ex) (ht : T.u t = some (.slice e)) (hsz : T.sz e = sz) (hpos : T.sz e ≠ 0)
    (hl : bndG (rhoOf σ) 0 lo = some l) (hh : bndG (rhoOf σ) xs.length hi = some h) (h0 : 0 ≤ l) (h1 : l ≤ h) (h2 : h ≤ (xs ++ ex).length) (hp : putS σ o.dst (.sl bw sz (((xs ++ ex).take h.toNat).drop l.toNat) ((xs ++ ex).drop h.toNat)) = σ')
    (hk : TW P ds rest σ' M (tr ++ [⟨o.dst, [], [], M.length, 0⟩]) K) : TW P ds (o :: rest) σ M tr K := by
  subst hp
  exact TW.rd hg (os_cut_ex ho (T.uok _ _ ht) (by rw [T.szok _ hpos]; exact hsz) (by omega) hx hl hh h0 h1 h2) hk

theorem TW.cr {t e sz id e' : Nat} {x : Operand} {lo hi mx : Option Operand} {xs : List (List GV)} {l h : Int} (ho : o.op = .slice t x lo hi mx) (hg : o.guard = none) (hx : rhoOf σ x = .row id) (hM : getM M id = .row e' sz xs) (ht : T.u t = some (.slice e)) (hsz : T.sz e = sz) (hpos : T.sz e ≠ 0)
    (hl : bndG (rhoOf σ) 0 lo = some l) (hh : bndG (rhoOf σ) xs.length hi = some h) (hhm : (hi.isSome || mx.isNone) = true) (hm : mxG (rhoOf σ) h xs.length mx) (h0 : 0 ≤ l) (h1 : l ≤ h) (h2 : h ≤ xs.length) (hp : putS σ o.dst (.sub id l.toNat h.toNat) = σ')
    (hk : TW P ds rest σ' M (tr ++ [⟨o.dst, [id], [], M.length, 0⟩]) K) : TW P ds (o :: rest) σ M tr K := by
  subst hp
  exact TW.rd hg (os_cut_row ho (T.uok _ _ ht) (T.szok _ hpos) hsz (by omega) hx hM hl hh hm (fun h => by subst h; simpa using hhm) h0 h1 h2) hk

theorem TW.cb {t e sz id e' a b : Nat} {x : Operand} {lo hi mx : Option Operand} {xs : List (List GV)} {l h : Int} (ho : o.op = .slice t x lo hi mx) (hg : o.guard = none) (hx : rhoOf σ x = .sub id a b) (hM : getM M id = .row e' sz xs) (ht : T.u t = some (.slice e)) (hsz : T.sz e = sz) (hpos : T.sz e ≠ 0)
    (hl : bndG (rhoOf σ) 0 lo = some l) (hh : bndG (rhoOf σ) ((b - a : Nat) : Int) hi = some h) (hhm : (hi.isSome || mx.isNone) = true) (hm : mxG (rhoOf σ) h (b - a) mx) (h0 : 0 ≤ l) (h1 : l ≤ h) (h2 : h ≤ (b - a : Nat)) (hp : putS σ o.dst (.sub id (a + l.toNat) (a + h.toNat)) = σ')
    (hk : TW P ds rest σ' M (tr ++ [⟨o.dst, [id], [], M.length, 0⟩]) K) : TW P ds (o :: rest) σ M tr K := by
  subst hp
  exact TW.rd hg (os_cut_sub ho (T.uok _ _ ht) (T.szok _ hpos) hsz (by omega) hx hM hl hh hm (fun h => by subst h; simpa using hhm) h0 h1 h2) hk

theorem TW.cw {t e sz id e' a b : Nat} {x : Operand} {lo hi : Option Operand} {xs : List (List GV)} {l h : Int} (ho : o.op = .slice t x lo hi none) (hg : o.guard = none) (hx : rhoOf σ x = .win id a b) (hM : getM M id = .row e' sz xs) (ht : T.u t = some (.slice e)) (hsz : T.sz e = sz) (hpos : T.sz e ≠ 0)
    (hl : bndG (rhoOf σ) 0 lo = some l) (hh : bndG (rhoOf σ) ((b - a : Nat) : Int) hi = some h) (h0 : 0 ≤ l) (h1 : l ≤ h) (h2 : h ≤ (xs.length - a : Nat)) (hp : putS σ o.dst (.win id (a + l.toNat) (a + h.toNat)) = σ')
    (hk : TW P ds rest σ' M (tr ++ [⟨o.dst, [id], [], M.length, 0⟩]) K) : TW P ds (o :: rest) σ M tr K := by
  subst hp
  exact TW.rd hg (os_cut_win ho (T.uok _ _ ht) (T.szok _ hpos) hsz (by omega) hx hM hl hh h0 h1 h2) hk

theorem TW.sr {src dst e : Nat} {x : Operand} {xs : List (List GV)} {l : List Int} (ho : o.op = .convert src dst x) (hg : o.guard = none) (hs : T.u src = some (.slice e)) (he : T.u e = some (.int .u8)) (hd : T.u dst = some .string)
    (hx : srcOf (getM M) 1 (rhoOf σ x) = some xs) (hb : gbytes xs = some l) (hp : putS σ o.dst (.lit (.string (strOf l))) = σ')
    (hk : TW P ds rest σ' M (tr ++ [⟨o.dst, gid (rhoOf σ x), [], M.length, 0⟩]) K) : TW P ds (o :: rest) σ M tr K := by
  subst hp
  exact TW.rd hg (os_str ho (T.uok _ _ hs) (T.uok _ _ he) (T.uok _ _ hd) hx hb) hk

theorem TW.mw {t e sz bytes : Nat} {z : Value} {lx cx : Operand} {kl kc : IntKind} {l c : Int} (ho : o.op = .makeSlice t lx cx) (hg : o.guard = none) (hT : elemTT T t = some (e, sz, bytes)) (hz : T.z e = some z) (hf : flatAll z = true)
    (hl : rhoOf σ lx = .lit (.int kl l)) (hc : rhoOf σ cx = .lit (.int kc c)) (h0 : 0 ≤ l ∧ l ≤ c ∧ (bytes : Int) * c ≤ 281474976710656 ∧ c ≤ 140737488355328) (hp : putS σ o.dst (.win M.length 0 l.toNat) = σ') (hM : M ++ [.row e sz (List.replicate c.toNat (z.cells.toList.map .lit))] = M')
    (hk : TW P ds rest σ' M' (tr ++ [⟨o.dst, [], [], M.length, 1⟩]) K) : TW P ds (o :: rest) σ M tr K := by
  subst hp; subst hM
  exact TW.step (by unfold gwantD; rw [hg]) (os_mk ho (elemTT_ok T hT) (T.zok _ _ hz) hf hl hc h0.1 h0.2.1 h0.2.2.1 h0.2.2.2) (by simp) hk

theorem TW.mr {t e sz bytes : Nat} {z : Value} {lx cx : Operand} {kl kc : IntKind} {l : Int} (ho : o.op = .makeSlice t lx cx) (hg : o.guard = none) (hT : elemTT T t = some (e, sz, bytes)) (hz : T.z e = some z) (hf : flatAll z = true)
    (hl : rhoOf σ lx = .lit (.int kl l)) (hc : rhoOf σ cx = .lit (.int kc l)) (h0 : 0 ≤ l ∧ (bytes : Int) * l ≤ 281474976710656 ∧ l ≤ 140737488355328) (hp : putS σ o.dst (.row M.length) = σ') (hM : M ++ [.row e sz (List.replicate l.toNat (z.cells.toList.map .lit))] = M')
    (hk : TW P ds rest σ' M' (tr ++ [⟨o.dst, [], [], M.length, 1⟩]) K) : TW P ds (o :: rest) σ M tr K := by
  subst hp; subst hM
  exact TW.step (by unfold gwantD; rw [hg]) (os_mkRow ho (elemTT_ok T hT) (T.zok _ _ hz) hf hl hc h0.1 h0.2.1 h0.2.2) (by simp) hk

theorem TW.af {t e sz bytes id hi : Nat} {x y : Operand} {xs ys : List (List GV)} (ho : o.op = .call { callee := .builtin .append, args := #[x, y], argTypes := #[t, t] }) (hg : o.guard = none) (hT : elemTT T t = some (e, sz, bytes))
    (hx : rhoOf σ x = .win id 0 hi) (hid : id < M.length) (hMi : getM M id = .row e sz xs) (hy : srcOf (getM M) sz (rhoOf σ y) = some ys) (hb : hi + ys.length ≤ xs.length ∧ 0 < xs.length)
    (hp : putS σ o.dst (.win id 0 (hi + ys.length)) = σ') (hM : M.set id (.row e sz (spl xs hi ys)) = M')
    (hk : TW P ds rest σ' M' (tr ++ [⟨o.dst, id :: gid (rhoOf σ y), [id], M.length, 0⟩]) K) : TW P ds (o :: rest) σ M tr K := by
  subst hp; subst hM
  refine TW.step (by unfold gwantD; rw [hg]) (os_append_fit (elemTT_ok T hT) ho hx hMi hy hb.1 hb.2) (fun x hx => by simp at hx; subst hx; exact hid) ?_
  rw [updA_ok (nd1 _ _)]
  simpa [updA] using hk

/-- 'append' onto a row, or onto nothing: elements of at most 1024 bytes. -/
theorem TW.an' {t e sz bytes : Nat} {x y : Operand} {ys : List (List GV)} (ho : o.op = .call { callee := .builtin .append, args := #[x, y], argTypes := #[t, t] }) (hg : o.guard = none) (hT : elemTT T t = some (e, sz, bytes)) (hB : Nat.ble bytes 1024 = true)
    (hx : rhoOf σ x = .lit (.slice none 0 0)) (hy : srcOf (getM M) sz (rhoOf σ y) = some ys) (hb : ys.length ≤ 137438953472) (hp : putS σ o.dst (.row M.length) = σ') (hM : M ++ [.row e sz ys] = M')
    (h : TW P ds rest σ' M' (tr ++ [⟨o.dst, gid (rhoOf σ y), [], M.length, 1⟩]) K) : TW P ds (o :: rest) σ M tr K := by
  have hB := Nat.le_of_ble_eq_true hB
  refine TW.an T ho hg hT hx hy ⟨?_, by omega⟩ hp hM h
  calc ys.length * bytes ≤ 137438953472 * 1024 := Nat.mul_le_mul hb hB
    _ ≤ 140737488355328 := by decide

theorem TW.ar' {t e sz bytes : Nat} {x y : Operand} {id : Nat} {xs ys : List (List GV)} (ho : o.op = .call { callee := .builtin .append, args := #[x, y], argTypes := #[t, t] }) (hg : o.guard = none) (hT : elemTT T t = some (e, sz, bytes)) (hB : Nat.ble bytes 1024 = true)
    (hx : rhoOf σ x = .row id) (hid : Nat.ble (id + 1) M.length = true) (hMi : getM M id = .row e sz xs) (hy : srcOf (getM M) sz (rhoOf σ y) = some ys) (hb : xs.length + ys.length ≤ 137438953472)
    (hp : putS σ o.dst (.row M.length) = σ') (hM : M.set id .dead ++ [.row e sz (xs ++ ys)] = M')
    (h : TW P ds rest σ' M' (tr ++ [⟨o.dst, id :: gid (rhoOf σ y), [id], M.length, 1⟩]) K) : TW P ds (o :: rest) σ M tr K := by
  have hB := Nat.le_of_ble_eq_true hB
  refine TW.ar T ho hg hT hx (Nat.le_of_ble_eq_true hid) hMi hy ⟨?_, by omega⟩ hp (by rw [updA_ok (nd1 _ _)]; exact hM) h
  calc (xs.length + ys.length) * bytes ≤ 137438953472 * 1024 := Nat.mul_le_mul hb hB
    _ ≤ 140737488355328 := by decide

theorem TW.mw' {t e sz bytes : Nat} {z : Value} {lx cx : Operand} {kl kc : IntKind} {l c : Int} (ho : o.op = .makeSlice t lx cx) (hg : o.guard = none) (hT : elemTT T t = some (e, sz, bytes)) (hB : Nat.ble bytes 1024 = true) (hz : T.z e = some z) (hf : flatAll z = true)
    (hl : rhoOf σ lx = .lit (.int kl l)) (hc : rhoOf σ cx = .lit (.int kc c)) (h0 : 0 ≤ l) (h1 : l ≤ c) (h2 : c ≤ 137438953472) (hp : putS σ o.dst (.win M.length 0 l.toNat) = σ') (hM : M ++ [.row e sz (List.replicate c.toNat (z.cells.toList.map .lit))] = M')
    (hk : TW P ds rest σ' M' (tr ++ [⟨o.dst, [], [], M.length, 1⟩]) K) : TW P ds (o :: rest) σ M tr K := by
  have hB := Nat.le_of_ble_eq_true hB
  have : (bytes : Int) * c ≤ 1024 * 137438953472 := Int.mul_le_mul (by omega) h2 (by omega) (by decide)
  exact TW.mw T ho hg hT hz hf hl hc ⟨h0, h1, by omega, by omega⟩ hp hM hk

theorem TW.mr' {t e sz bytes : Nat} {z : Value} {lx cx : Operand} {kl kc : IntKind} {l : Int} (ho : o.op = .makeSlice t lx cx) (hg : o.guard = none) (hT : elemTT T t = some (e, sz, bytes)) (hB : Nat.ble bytes 1024 = true) (hz : T.z e = some z) (hf : flatAll z = true)
    (hl : rhoOf σ lx = .lit (.int kl l)) (hc : rhoOf σ cx = .lit (.int kc l)) (h0 : 0 ≤ l) (h2 : l ≤ 137438953472) (hp : putS σ o.dst (.row M.length) = σ') (hM : M ++ [.row e sz (List.replicate l.toNat (z.cells.toList.map .lit))] = M')
    (hk : TW P ds rest σ' M' (tr ++ [⟨o.dst, [], [], M.length, 1⟩]) K) : TW P ds (o :: rest) σ M tr K := by
  have hB := Nat.le_of_ble_eq_true hB
  have : (bytes : Int) * l ≤ 1024 * 137438953472 := Int.mul_le_mul (by omega) h2 (by omega) (by decide)
  exact TW.mr T ho hg hT hz hf hl hc ⟨h0, by omega, by omega⟩ hp hM hk

theorem TW.dq {t yt : TypeId} {x y : Operand} {k : IntKind} {a b : Int} (ho : o.op = .binOp .quo t x y yt) (hg : o.guard = none) (hx : rhoOf σ x = .lit (.int k a)) (hy : rhoOf σ y = .lit (.int k b)) (hb : b ≠ 0) (hp : putS σ o.dst (.lit (.int k (k.wrap (a.tdiv b)))) = σ')
    (h : TW P ds rest σ' M (tr ++ [⟨o.dst, [], [], M.length, 0⟩]) K) : TW P ds (o :: rest) σ M tr K := TW.bd ho hg hx hy (.inl ⟨rfl, rfl⟩) hb hp h

theorem TW.dr {t yt : TypeId} {x y : Operand} {k : IntKind} {a b : Int} (ho : o.op = .binOp .rem t x y yt) (hg : o.guard = none) (hx : rhoOf σ x = .lit (.int k a)) (hy : rhoOf σ y = .lit (.int k b)) (hb : b ≠ 0) (hp : putS σ o.dst (.lit (.int k (a.tmod b))) = σ')
    (h : TW P ds rest σ' M (tr ++ [⟨o.dst, [], [], M.length, 0⟩]) K) : TW P ds (o :: rest) σ M tr K := TW.bd ho hg hx hy (.inr ⟨rfl, rfl⟩) hb hp h

theorem TW.dl {t yt : TypeId} {x y : Operand} {k k' : IntKind} {a b : Int} (ho : o.op = .binOp .shl t x y yt) (hg : o.guard = none) (hx : rhoOf σ x = .lit (.int k a)) (hy : rhoOf σ y = .lit (.int k' b)) (hb : 0 ≤ b) (hp : putS σ o.dst (.lit (.int k (k.wrap (a * 2 ^ (min b.toNat k.bits))))) = σ')
    (h : TW P ds rest σ' M (tr ++ [⟨o.dst, [], [], M.length, 0⟩]) K) : TW P ds (o :: rest) σ M tr K := TW.sh ho hg hx hy (.inl ⟨rfl, rfl⟩) hb hp h

theorem TW.de {t yt : TypeId} {x y : Operand} {k k' : IntKind} {a b : Int} (ho : o.op = .binOp .shr t x y yt) (hg : o.guard = none) (hx : rhoOf σ x = .lit (.int k a)) (hy : rhoOf σ y = .lit (.int k' b)) (hb : 0 ≤ b) (hp : putS σ o.dst (.lit (.int k (a.fdiv (2 ^ (min b.toNat k.bits))))) = σ')
    (h : TW P ds rest σ' M (tr ++ [⟨o.dst, [], [], M.length, 0⟩]) K) : TW P ds (o :: rest) σ M tr K := TW.sh ho hg hx hy (.inr ⟨rfl, rfl⟩) hb hp h

end

/-! A function's results, by the table. -/

def gres1T {P : Program} (T : Tab P) (σ : List GV) (M : List GO) : ResultVar → Option GV
  | .tmp t => some (σ.getD t .any)
  | .cell t ty => match σ.getD t .any with
    | .adr id i j => (cellsAt (getM M id) i).bind fun cs => ldvT T ty (cs.drop j)
    | _ => none

def gresLT {P : Program} (T : Tab P) (σ : List GV) (M : List GO) : List ResultVar → Option (List GV)
  | [] => some []
  | r :: l => (gres1T T σ M r).bind fun g => (gresLT T σ M l).map fun x => g :: x

def gresT {P : Program} (T : Tab P) (σ : List GV) (M : List GO) (rs : List ResultVar) : Option GV :=
  (gresLT T σ M rs).map fun l => match l with | [g] => g | l => .tup l

theorem gres1T_ok {P : Program} (T : Tab P) {σ : List GV} {M : List GO} {r : ResultVar} {g : GV} (h : gres1T T σ M r = some g) : gres1 P σ M r = some g := by
  cases r with
  | tmp t => exact h
  | cell t ty =>
    simp only [gres1T] at h
    simp only [gres1]
    split at h
    · obtain ⟨cs, hc, hl⟩ := Option.bind_eq_some_iff.1 h
      rename_i heq
      simp only [heq, hc, Option.bind_some]
      exact ldvT_ok hl
    · cases h

theorem gresLT_ok {P : Program} (T : Tab P) {σ : List GV} {M : List GO} : ∀ {rs : List ResultVar} {gs : List GV}, gresLT T σ M rs = some gs → gresL P σ M rs = some gs
  | [], gs, h => h
  | r :: l, gs, h => by
    simp only [gresLT] at h
    obtain ⟨g, hg, h⟩ := Option.bind_eq_some_iff.1 h
    obtain ⟨x, hx, rfl⟩ := Option.map_eq_some_iff.1 h
    simp only [gresL, gres1T_ok T hg, gresLT_ok T hx, Option.bind_some, Option.map_some]

theorem gresT_ok {P : Program} (T : Tab P) {σ : List GV} {M : List GO} {rs : List ResultVar} {g : GV} (h : gresT T σ M rs = some g) : gres P σ M rs = some g := by
  unfold gresT at h
  obtain ⟨l, hl, rfl⟩ := Option.map_eq_some_iff.1 h
  unfold gres
  rw [gresLT_ok T hl]; rfl

theorem map_at {α : Type} {f : α → List GV} {l : List α} {i : Nat} (h : i < l.length) : (l.map f)[(i : Int).toNat]? = some (f l[i]) := by
  rw [Int.toNat_natCast, List.getElem?_map, List.getElem?_eq_getElem h]; rfl

theorem int_lt {i n : Nat} (h : i < n) : decide ((i : Int) < (n : Int)) = true := decide_eq_true (by omega)
theorem int_nlt {i n : Nat} (h : ¬ i < n) : decide ((i : Int) < (n : Int)) = false := decide_eq_false (by omega)
theorem drop_at {α : Type} {l : List α} {i : Nat} (h : i < l.length) : l.drop i = l[i] :: l.drop (i + 1) := List.drop_eq_getElem_cons h
theorem drop_end {α : Type} {l : List α} {i : Nat} (h : ¬ i < l.length) : l.drop i = [] := List.drop_eq_nil_of_le (by omega)

/-- At a loop's head. -/
def CSH (P : Program) (m : Nat) (c : Code) (σ : List GV) (M : List GO) (R : Exit → List GV → List GO → Prop) : Prop :=
  ∀ (Γ : Ctx) (ι : Nat → Hd) (w : World) (a : Act) (Q : Exit → Act → World → Prop), m ≤ M.length → SR Γ (· < M.length) ι (getM M) w → SL Γ (· < M.length) ι w σ a → a.defers = [] →
    (∀ (e : Exit) (σ' : List GV) (M' : List GO) (Im' : Nat → Prop) (ι' : Nat → Hd) (w' : World) (a' : Act), R e σ' M' → Keep Γ w w' → (∀ b, Γ.Im b → Im' b) → (∀ i, i < m → ι' i = ι i) → m ≤ M'.length →
      SR ⟨Im', Γ.Bw, Γ.Fz⟩ (· < M'.length) ι' (getM M') w' → SL ⟨Im', Γ.Bw, Γ.Fz⟩ (· < M'.length) ι' w' σ' a' → a'.defers = [] → Q e a' w') → HeadWp P c Q a w

theorem CS.ofH {m : Nat} {c : Code} {σ : List GV} {M : List GO} {R : Exit → List GV → List GO → Prop} (h : CSH P m c σ M R) : CS P m (.loop c) σ M R :=
  fun Γ ι w a Q hm hS hL hd hk => wp_loop_head (h Γ ι w a Q hm hS hL hd hk)

/-- One round. -/
theorem CSH.step {m : Nat} {c : Code} {σ : List GV} {M : List GO} {R : Exit → List GV → List GO → Prop}
    (h : ∀ K : List GV → List GO → Prop, (∀ σ' M', CSH P m c σ' M' R → K σ' M') → CS P m c σ M (thenR K R)) : CSH P m c σ M R := by
  intro Γ ι w a Q hm hS hL hd hk
  refine HeadWp_of (h (fun σ' M' => CSH P m c σ' M' R) (fun _ _ h => h) Γ ι w a _ hm hS hL hd fun e σ' M' Im' ι' w' a' hr h1 h2 h3 h4 h5 h6 h7 => ?_)
  cases e with
  | normal =>
    refine hr ⟨Im', Γ.Bw, Γ.Fz⟩ ι' w' a' Q h4 h5 h6 h7 fun e σ'' M'' Im'' ι'' w'' a'' k0 k1 k2 k3 k4 k5 k6 k7 => ?_
    exact hk e σ'' M'' Im'' ι'' w'' a'' k0 (keep_trans h1 h2 k1) (fun b hb => k2 b (h2 b hb)) (fun i hi => (k3 i hi).trans (h3 i hi)) k4 k5 k6 k7
  | exit id => exact hk _ σ' M' Im' ι' w' a' hr h1 h2 h3 h4 h5 h6 h7
  | goto l => exact hk _ σ' M' Im' ι' w' a' hr h1 h2 h3 h4 h5 h6 h7
  | ret => exact hk _ σ' M' Im' ι' w' a' hr h1 h2 h3 h4 h5 h6 h7
  | panic ch => exact hk _ σ' M' Im' ι' w' a' hr h1 h2 h3 h4 h5 h6 h7
  | outgrown => exact hk _ σ' M' Im' ι' w' a' hr h1 h2 h3 h4 h5 h6 h7

end Go.Gh
