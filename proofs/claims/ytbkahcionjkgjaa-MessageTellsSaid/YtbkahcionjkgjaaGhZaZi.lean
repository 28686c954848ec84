import Derived.Test.YtbkahcionjkgjaaGhUZ
import Derived.Laws.Slices
import Derived.Laws.BytesString
import Derived.Laws.OwnMore

/-! One operation, reckoned. -/

namespace Go.Gh
variable {P : Program}

def gbinT (T : Tab P) (op : BinOp) (t : TypeId) (x y : Value) : Option Value :=
  match x, y with
  | .int k a, .int k' b => match op with
    | .shl => gshift .shl k a b
    | .shr => gshift .shr k a b
    | .quo => none
    | .rem => none
    | op => if k = k' then gint op k a b else none
  | .bool a, .bool b => match T.u t, op with
    | some .bool, .eql => some (.bool (a == b))
    | some .bool, .neq => some (.bool (a != b))
    | _, _ => none
  | .string a, .string b => match op with
    | .eql => some (.bool (a.toList == b.toList))
    | .neq => some (.bool !(a.toList == b.toList))
    | .lss => some (.bool (Op.bytesLess a.toList b.toList))
    | _ => none
  | .pointer none, .pointer none => match T.u t, op with
    | some (.pointer _), .eql => some (.bool true)
    | some (.pointer _), .neq => some (.bool false)
    | _, _ => none
  | _, _ => none

theorem gbinT_ok {T : Tab P} {op : BinOp} {t : TypeId} {x y r : Value} (h : gbinT T op t x y = some r) : gbin P op t x y = some r := by
  unfold gbinT at h
  unfold gbin
  split at h
  · cases op <;> first | exact h | cases h
  · split at h
    · rename_i hu; rw [T.uok _ _ hu]; exact h
    · rename_i hu; rw [T.uok _ _ hu]; exact h
    · cases h
  · exact h
  · split at h
    · rename_i hu; rw [T.uok _ _ hu]; exact h
    · rename_i hu; rw [T.uok _ _ hu]; exact h
    · cases h
  · cases h

def eqOp (op : BinOp) (r : Bool) : Option Bool :=
  match op with
  | .eql => some r
  | .neq => some (!r)
  | _ => none

theorem eqOp_ok {op : BinOp} {r r' : Bool} (h : eqOp op r = some r') : (op = .eql ∧ r' = r) ∨ (op = .neq ∧ r' = !r) := by
  cases op <;> simp [eqOp] at h <;> subst h <;> simp

def ptrT (T : Tab P) (op : BinOp) (t : TypeId) (x : GV) : Option GV :=
  match notNil x, T.u t with
  | true, some (.pointer _) => (eqOp op false).map fun r => .lit (.bool r)
  | _, _ => none

def aggTe (T : Tab P) (op : BinOp) (t : TypeId) (x y : GV) : Option GV :=
  match litCells x, litCells y, T.u t, T.eq t with
  | some xs, some ys, some (.struct fs), true => (geqT T xs ys fs.toList).bind fun r => (eqOp op r).map fun r => .lit (.bool r)
  | _, _, _, _ => none

def binT (T : Tab P) (op : BinOp) (t : TypeId) (x y : GV) : Option GV :=
  match x, y with
  | .lit (.int k a), .lit (.int k' b) => (gbinT T op t (.int k a) (.int k' b)).map .lit
  | .lit (.bool a), .lit (.bool b) => (gbinT T op t (.bool a) (.bool b)).map .lit
  | .lit (.string a), .lit (.string b) => (gbinT T op t (.string a) (.string b)).map .lit
  | .lit (.pointer none), .lit (.pointer none) => (gbinT T op t (.pointer none) (.pointer none)).map .lit
  | .adr id i j, .lit (.pointer none) => ptrT T op t (.adr id i j)
  | .iadr bw cs, .lit (.pointer none) => ptrT T op t (.iadr bw cs)
  | .agg xs, y => aggTe T op t (.agg xs) y
  | .lit (.agg xs), y => aggTe T op t (.lit (.agg xs)) y
  | _, _ => none

section
variable {o : Oper} {ρ : Rho} {nb : Nat} {M0 : Nat → GO}

theorem binT_ok {T : Tab P} {op : BinOp} {t yt : TypeId} {x y : Operand} {g : GV} (ho : o.op = .binOp op t x y yt) (h : binT T op t (ρ x) (ρ y) = some g) : OpS P o ρ nb M0 [] g [] [] := by
  have bin : ∀ a b, ρ x = .lit a → ρ y = .lit b → (gbinT T op t a b).map GV.lit = some g → OpS P o ρ nb M0 [] g [] [] := fun a b hx hy h => by
    obtain ⟨r, hr, rfl⟩ := Option.map_eq_some_iff.1 h
    exact os_bin ho hx hy (gbinT_ok hr)
  have ptr : ρ y = .lit (.pointer none) → ptrT T op t (ρ x) = some g → OpS P o ρ nb M0 [] g [] [] := fun hy h => by
    unfold ptrT at h
    split at h
    · rename_i h1 h2
      obtain ⟨r, hr, rfl⟩ := Option.map_eq_some_iff.1 h
      exact os_ptr ho h1 hy (T.uok _ _ h2) (eqOp_ok hr)
    · cases h
  have agg : aggTe T op t (ρ x) (ρ y) = some g → OpS P o ρ nb M0 [] g [] [] := fun h => by
    unfold aggTe at h
    split at h
    · rename_i h1 h2 h3 h4
      obtain ⟨r, hr, h⟩ := Option.bind_eq_some_iff.1 h
      obtain ⟨r', hr', rfl⟩ := Option.map_eq_some_iff.1 h
      exact os_aggEq ho h1 h2 (T.uok _ _ h3) (T.eqok t h4).1 (T.eqok t h4).2 (geqT_ok T hr) (eqOp_ok hr')
    · cases h
  unfold binT at h
  split at h
  · rename_i h1 h2; exact bin _ _ h1 h2 h
  · rename_i h1 h2; exact bin _ _ h1 h2 h
  · rename_i h1 h2; exact bin _ _ h1 h2 h
  · rename_i h1 h2; exact bin _ _ h1 h2 h
  · rename_i h1 h2; exact ptr h2 (by rw [h1]; exact h)
  · rename_i h1 h2; exact ptr h2 (by rw [h1]; exact h)
  · rename_i h1; exact agg (by rw [h1]; exact h)
  · rename_i h1; exact agg (by rw [h1]; exact h)
  · cases h

/-- A result: what was touched, the value, what turned, what is new. -/
abbrev SRes := List Nat × GV × List (Nat × GO) × List GO

def qt (g : GV) : SRes := ([], g, [], [])

def callT (T : Tab P) (σ : List GV) (M : List GO) (b : Builtin) (xs : List Operand) (ts : List TypeId) : Option SRes :=
  match b, xs, ts with
  | .len, [x], [t] => match T.u t with
    | some (.slice _) => (lenOfG (getM M) (rhoOf σ x)).map fun (n : Nat) => (gid (rhoOf σ x), .lit (.int .i64 n), [], [])
    | some (.array n _) => some (qt (.lit (.int .i64 n)))
    | some .string => match rhoOf σ x with | .lit (.string s) => some (qt (.lit (.int .i64 s.size))) | _ => none
    | _ => none
  | .min, [x, y], _ => match rhoOf σ x, rhoOf σ y with | .lit (.int k a), .lit (.int k' b) => if k = k' then some (qt (.lit (.int k (if b < a then b else a)))) else none | _, _ => none
  | .min, [x, y, z], _ => match rhoOf σ x, rhoOf σ y, rhoOf σ z with
    | .lit (.int k a), .lit (.int k' b), .lit (.int k'' c) => if k = k' then if k = k'' then some (qt (.lit (.int k (if c < (if b < a then b else a) then c else (if b < a then b else a))))) else none else none
    | _, _, _ => none
  | .max, [x, y], _ => match rhoOf σ x, rhoOf σ y with | .lit (.int k a), .lit (.int k' b) => if k = k' then some (qt (.lit (.int k (if b > a then b else a)))) else none | _, _ => none
  | _, _, _ => none

theorem callT_ok {T : Tab P} {σ : List GV} {M : List GO} {b : Builtin} {xs : Array Operand} {ts : Array TypeId} {r : SRes} (ho : o.op = .call { callee := .builtin b, args := xs, argTypes := ts }) (h : callT T σ M b xs.toList ts.toList = some r) :
    OpS P o (rhoOf σ) M.length (getM M) r.1 r.2.1 r.2.2.1 r.2.2.2 ∧ r.2.2.1 = [] := by
  have arr : ∀ {α : Type} (a : Array α) (l : List α), a.toList = l → a = l.toArray := fun a l h => by rw [← h]
  unfold callT at h
  split at h
  · rename_i x t e1 e2
    have e1 := arr _ _ e1
    have e2 := arr _ _ e2
    subst e1; subst e2
    split at h
    · rename_i hu
      obtain ⟨n, hn, rfl⟩ := Option.map_eq_some_iff.1 h
      exact ⟨os_len ho (T.uok _ _ hu) hn, rfl⟩
    · rename_i hu
      cases h
      exact ⟨os_lenArr ho (T.uok _ _ hu), rfl⟩
    · rename_i hu
      split at h
      · rename_i s hs
        cases h
        exact ⟨os_lenStr ho (T.uok _ _ hu) hs, rfl⟩
      · cases h
    · cases h
  · rename_i x y e1
    have e1 := arr _ _ e1
    subst e1
    split at h
    · rename_i k a k' b h1 h2
      split at h
      · rename_i hk; subst hk; cases h; exact ⟨os_min2 ho h1 h2, rfl⟩
      · cases h
    · cases h
  · rename_i x y z e1
    have e1 := arr _ _ e1
    subst e1
    split at h
    · rename_i h1 h2 h3
      split at h
      · rename_i hk
        subst hk
        split at h
        · rename_i hk; subst hk; cases h; exact ⟨os_min3 ho h1 h2 h3, rfl⟩
        · cases h
      · cases h
    · cases h
  · rename_i x y e1
    have e1 := arr _ _ e1
    subst e1
    split at h
    · rename_i k a k' b h1 h2
      split at h
      · rename_i hk; subst hk; cases h; exact ⟨os_max2 ho h1 h2, rfl⟩
      · cases h
    · cases h
  · cases h

def stepT (T : Tab P) (σ : List GV) (M : List GO) (o : Oper) : Option SRes :=
  match o.op with
  | .move x => some (qt (rhoOf σ x))
  | .assign x => some (qt (rhoOf σ x))
  | .pick c x y => match rhoOf σ c with | .lit (.bool t) => some (qt (bif t then rhoOf σ x else rhoOf σ y)) | _ => none
  | .binOp op t x y _ => (binT T op t (rhoOf σ x) (rhoOf σ y)).map qt
  | .unOp .not _ x => match rhoOf σ x with | .lit (.bool b) => some (qt (.lit (.bool !b))) | _ => none
  | .unOp .neg _ x => match rhoOf σ x with | .lit (.int k n) => some (qt (.lit (.int k (k.wrap (0 - n))))) | _ => none
  | .convert s d x => match T.u s, T.u d, rhoOf σ x with | some (.int _), some (.int k'), .lit (.int _ n) => some (qt (.lit (.int k' (k'.wrap n)))) | _, _, _ => none
  | .nilCheck x => bif isAddr (rhoOf σ x) then some (qt (rhoOf σ x)) else none
  | .extract x i => match rhoOf σ x with | .tup cs => (nthG cs i).map qt | _ => none
  | .load t x => match rhoOf σ x with
    | .adr id i j => (cellsAt (getM M id) i).bind fun cs => (ldvT T t (cs.drop j)).map fun g => ([id], g, [], [])
    | .iadr _ cs => (ldvT T t cs).map qt
    | _ => none
  | .store t x y => match rhoOf σ x, gcells (rhoOf σ y), T.u t, o.dst with
    | .adr id i j, some vs, some _, none => if T.sz t = vs.length ∧ vs.length ≠ 0 ∧ id < M.length then (putAt (getM M id) i j vs).map fun ob => ([id], .any, [(id, ob)], []) else none
    | _, _, _, _ => none
  | .fieldAddr s x n => match T.u s, rhoOf σ x with
    | some (.struct fs), .adr id i j => (fs[n]?).bind fun f => if T.sz f.type ≠ 0 then some (qt (.adr id i (j + f.offset))) else none
    | some (.struct fs), .iadr bw cs => (fs[n]?).bind fun f => if T.sz f.type ≠ 0 then some (qt (.iadr bw (cs.drop f.offset))) else none
    | _, _ => none
  | .box _ x => (gcells (rhoOf σ x)).map fun cs => ([], .adr M.length 0 0, [], [.cells cs])
  | .alloc t => (T.z t).bind fun z => bif flatAll z then some ([], .adr M.length 0 0, [], [.cells (z.cells.toList.map .lit)]) else none
  | .build t parts => match placesT T t, T.z t with
    | some pl, some z => bif flatAll z then (gfill pl (z.cells.toList.map .lit) (parts.toList.map fun x => (x.1, rhoOf σ x.2))).map fun gs => qt (.agg gs) else none
    | _, _ => none
  | .makeFunc (.func f) first caps => match first.toList with | [] => some (qt (.clo f (caps.toList.map (rhoOf σ)))) | _ => none
  | .call { callee := .builtin b, args := xs, argTypes := ts } => callT T σ M b xs.toList ts.toList
  | _ => none

theorem stepT_ok {T : Tab P} {σ : List GV} {M : List GO} {r : SRes} (h : stepT T σ M o = some r) :
    OpS P o (rhoOf σ) M.length (getM M) r.1 r.2.1 r.2.2.1 r.2.2.2 ∧ ∀ x, x ∈ r.2.2.1 → x.1 < M.length := by
  have q : ∀ {g : GV}, OpS P o (rhoOf σ) M.length (getM M) [] g [] [] → r = qt g → OpS P o (rhoOf σ) M.length (getM M) r.1 r.2.1 r.2.2.1 r.2.2.2 ∧ ∀ x, x ∈ r.2.2.1 → x.1 < M.length := by
    rintro g hq rfl
    exact ⟨hq, fun x hx => by simp [qt] at hx⟩
  unfold stepT at h
  split at h
  · rename_i ho; exact q (os_move (.inl ho)) (Option.some.inj h).symm
  · rename_i ho; exact q (os_move (.inr ho)) (Option.some.inj h).symm
  · rename_i ho
    split at h
    · rename_i hc; exact q (os_pick ho hc) (Option.some.inj h).symm
    · cases h
  · rename_i ho
    obtain ⟨g, hg, rfl⟩ := Option.map_eq_some_iff.1 h
    exact q (binT_ok ho hg) rfl
  · rename_i ho
    split at h
    · rename_i hc; exact q (os_not ho hc) (Option.some.inj h).symm
    · cases h
  · rename_i ho
    split at h
    · rename_i hc; exact q (os_neg ho hc) (Option.some.inj h).symm
    · cases h
  · rename_i ho
    split at h
    · rename_i h1 h2 h3; exact q (os_conv ho (T.uok _ _ h1) (T.uok _ _ h2) h3) (Option.some.inj h).symm
    · cases h
  · rename_i x ho
    cases hx : isAddr (rhoOf σ x) with
    | true => rw [hx] at h; exact q (os_nil ho hx) (Option.some.inj h).symm
    | false => rw [hx] at h; cases h
  · rename_i ho
    split at h
    · rename_i hx
      obtain ⟨g, hg, rfl⟩ := Option.map_eq_some_iff.1 h
      exact q (os_extract ho hx (nthG_ok hg)) rfl
    · cases h
  · rename_i ho
    split at h
    · rename_i hx
      obtain ⟨cs, hc, h⟩ := Option.bind_eq_some_iff.1 h
      obtain ⟨g, hg, rfl⟩ := Option.map_eq_some_iff.1 h
      exact ⟨os_load ho hx hc (ldvT_ok hg), fun x hx => by simp at hx⟩
    · rename_i hx
      obtain ⟨g, hg, rfl⟩ := Option.map_eq_some_iff.1 h
      exact q (os_loadI ho hx (ldvT_ok hg)) rfl
    · cases h
  · rename_i ho
    split at h
    · rename_i hx hy hu hd
      split at h
      · rename_i hc
        obtain ⟨ob, hob, rfl⟩ := Option.map_eq_some_iff.1 h
        obtain ⟨h1, h2, h3⟩ := hc
        refine ⟨os_store ho hx hy (T.uok _ _ hu) ?_ hob, fun x hx => by simp at hx; subst hx; exact h3⟩
        rw [← h1] at h2 ⊢
        exact T.szok _ h2
      · cases h
    · cases h
  · rename_i ho
    split at h
    · rename_i hu hx
      obtain ⟨f, hf, h⟩ := Option.bind_eq_some_iff.1 h
      split at h
      · rename_i hne; exact q (os_field ho hx (T.uok _ _ hu) hf (by rw [T.szok _ hne]; exact hne)) (Option.some.inj h).symm
      · cases h
    · rename_i hu hx
      obtain ⟨f, hf, h⟩ := Option.bind_eq_some_iff.1 h
      split at h
      · rename_i hne; exact q (os_fieldI ho hx (T.uok _ _ hu) hf (by rw [T.szok _ hne]; exact hne)) (Option.some.inj h).symm
      · cases h
    · cases h
  · rename_i ho
    obtain ⟨cs, hc, rfl⟩ := Option.map_eq_some_iff.1 h
    exact ⟨os_box ho hc, fun x hx => by simp at hx⟩
  · rename_i ho
    obtain ⟨z, hz, h⟩ := Option.bind_eq_some_iff.1 h
    cases hf : flatAll z with
    | true => rw [hf] at h; cases h; exact ⟨os_alloc ho (T.zok _ _ hz) hf, fun x hx => by simp at hx⟩
    | false => rw [hf] at h; cases h
  · rename_i ho
    split at h
    · rename_i pl z hpl hz
      cases hf : flatAll z with
      | true =>
        rw [hf] at h
        obtain ⟨gs, hg, rfl⟩ := Option.map_eq_some_iff.1 h
        exact q (os_build ho (placesT_ok hpl) (T.zok _ _ hz) hf hg) rfl
      | false => rw [hf] at h; cases h
    · cases h
  · rename_i f first caps ho
    split at h
    · rename_i hf
      have : first = #[] := by rw [← Array.toList_inj]; exact hf
      subst this
      exact q (os_closure ho) (Option.some.inj h).symm
    · cases h
  · rename_i ho
    obtain ⟨h1, h2⟩ := callT_ok ho h
    exact ⟨h1, fun x hx => by rw [h2] at hx; simp at hx⟩
  · cases h

end

def updA (M : List GO) : List (Nat × GO) → List GO → List GO
  | [], news => M ++ news
  | (i, ob) :: r, news => updA (M.set i ob) r news

theorem updA_ok {news : List GO} : ∀ {ups : List (Nat × GO)} {M : List GO}, (ups.map (·.1)).Nodup → updL M ups news = updA M ups news
  | [], M, _ => rfl
  | (i, ob) :: r, M, h => by
    simp only [List.map_cons, List.nodup_cons] at h
    rw [updA, ← updA_ok h.2]
    have e : ∀ (M : List GO) (u : List (Nat × GO)), updL M u news = M.mapIdx (fun i o => ((u.find? (·.1 == i)).map (·.2)).getD o) ++ news := fun M u => by
      cases u with
      | nil =>
        rw [updL]
        congr 1
        apply List.ext_getElem?
        intro j
        rw [List.getElem?_mapIdx]
        cases M[j]? <;> rfl
      | cons x u => rfl
    rw [e, e]
    congr 1
    apply List.ext_getElem?
    intro j
    rw [List.getElem?_mapIdx, List.getElem?_mapIdx, List.getElem?_set]
    by_cases hij : i = j
    · subst hij
      have hn : r.find? (·.1 == i) = none := by
        rw [List.find?_eq_none]
        intro x hx hxi
        simp only [beq_iff_eq] at hxi
        exact h.1 (List.mem_map.2 ⟨x, hx, hxi⟩)
      rw [if_pos rfl]
      by_cases hl : i < M.length
      · rw [if_pos hl, List.getElem?_eq_getElem hl, hn]
        simp
      · rw [if_neg hl, List.getElem?_eq_none (by omega)]
        rfl
    · rw [if_neg hij]
      have : (i == j) = false := by simpa using hij
      simp only [List.find?_cons, this]

def ndB : List (Nat × GO) → Bool
  | [] => true
  | [_] => true
  | _ => false

theorem ndB_ok : ∀ {ups : List (Nat × GO)}, ndB ups = true → (ups.map (·.1)).Nodup
  | [], _ => by simp
  | [_], _ => by simp
  | _ :: _ :: _, h => by cases h

theorem TW.au (T : Tab P) {ds : List (Option Tmp)} {o : Oper} {rest : List Oper} {σ σ' : List GV} {M M' : List GO} {tr : List RI} {K : List GV → List GO → List RI → Prop}
    {ids : List Nat} {g : GV} {ups : List (Nat × GO)} {news : List GO} (hg : o.guard = none) (hs : stepT T σ M o = some (ids, g, ups, news)) (hp : putS σ o.dst g = σ') (hn : ndB ups = true) (hM : updA M ups news = M')
    (h : TW P ds rest σ' M' (tr ++ [⟨o.dst, ids, (ups).map (·.1), M.length, (news).length⟩]) K) : TW P ds (o :: rest) σ M tr K := by
  subst hp; subst hM
  obtain ⟨h1, h2⟩ := stepT_ok hs
  have hn : (ups.map (·.1)).Nodup := ndB_ok hn
  exact TW.step (by unfold gwantD; rw [hg]) h1 h2 (by rw [updA_ok hn]; exact h)

end Go.Gh


/-! Loops, and calls to which objects are handed. -/

namespace Go.Gh
variable {P : Program}

/-! Which slots are kept, told by a mask. -/

def keepG (keep : List Nat) (g : GV) : GV := bif gin keep g then ren (keep.idxOf ·) g else .any

def nslM (keep : List Nat) : List Bool → List GV → List GV
  | _, [] => []
  | [], _ :: σ => .any :: nslM keep [] σ
  | true :: m, g :: σ => keepG keep g :: nslM keep m σ
  | false :: m, _ :: σ => .any :: nslM keep m σ

theorem nslM_get (keep : List Nat) : ∀ (m : List Bool) (σ : List GV) (t : Nat), (nslM keep m σ)[t]? = σ[t]?.map fun g => bif m.getD t false then keepG keep g else .any
  | m, [], t => by cases m <;> simp [nslM]
  | [], g :: σ, 0 => by simp [nslM]
  | [], g :: σ, t + 1 => by
    rw [nslM, List.getElem?_cons_succ, List.getElem?_cons_succ, nslM_get keep [] σ t]
    simp
  | true :: m, g :: σ, 0 => by simp [nslM]
  | true :: m, g :: σ, t + 1 => by
    rw [nslM, List.getElem?_cons_succ, List.getElem?_cons_succ, nslM_get keep m σ t]
    simp
  | false :: m, g :: σ, 0 => by simp [nslM]
  | false :: m, g :: σ, t + 1 => by
    rw [nslM, List.getElem?_cons_succ, List.getElem?_cons_succ, nslM_get keep m σ t]
    simp

def liveOf (m : List Bool) : List Nat := (List.range m.length).filter fun t => m.getD t false

theorem nslM_ok (keep : List Nat) (m : List Bool) (σ : List GV) : nslots keep (liveOf m) σ = nslM keep m σ := by
  apply List.ext_getElem?
  intro t
  rw [nslM_get, nslots, List.getElem?_mapIdx]
  have hc : (liveOf m).contains t = m.getD t false := by
    rw [Bool.eq_iff_iff]
    simp only [liveOf, List.contains_iff_mem, List.mem_filter, List.mem_range, List.getD_eq_getElem?_getD]
    constructor
    · exact fun h => h.2
    · intro h
      refine ⟨?_, h⟩
      by_cases ht : t < m.length
      · exact ht
      · rw [List.getElem?_eq_none (by omega)] at h; simp at h
  cases σ[t]? with
  | none => rfl
  | some g =>
    simp only [Option.map_some, hc, keepG]
    cases m.getD t false <;> cases gin keep g <;> rfl

def loopR {X : Type} (m : Nat) (I : X → Prop) (inv : X → List GV) (obs : X → List GO) (μ : X → Nat) (x : X) (R : Exit → List GV → List GO → Prop) : Exit → List GV → List GO → Prop := fun e σ' M' =>
  match e with
  | .normal => ∃ x' keep mask, I x' ∧ μ x' < μ x ∧ keep.Nodup ∧ pins m keep = true ∧ nslM keep mask σ' = inv x' ∧ nobjs keep M' = obs x'
  | e => R e σ' M'

theorem CS.lp {m : Nat} {c : Code} {σ : List GV} {M : List GO} {R : Exit → List GV → List GO → Prop} {X : Type} (I : X → Prop) (inv : X → List GV) (obs : X → List GO) (μ : X → Nat) (x0 : X) (keep : List Nat) (mask : List Bool)
    (hn : keep.Nodup) (hp : pins m keep = true) (h0 : I x0) (hσ : nslM keep mask σ = inv x0) (hM : nobjs keep M = obs x0)
    (round : ∀ x, I x → CS P m c (inv x) (obs x) (loopR m I inv obs μ x R)) : CS P m (.loop c) σ M R := by
  refine CS_norm keep (liveOf mask) hn hp ?_
  rw [nslM_ok, hσ, hM]
  refine CS_loop (X := { x : X // I x }) (fun x => inv x.1) (fun x => obs x.1) (fun x => μ x.1) (fun x => ?_) ⟨x0, h0⟩
  refine CS.mono (round x.1 x.2) fun e σ M h => ?_
  cases e with
  | normal =>
    obtain ⟨x', keep, mask, h1, h2, h3, h4, h5, h6⟩ := h
    exact ⟨⟨x', h1⟩, keep, liveOf mask, h2, h3, h4, (nslM_ok keep mask σ).trans h5, h6⟩
  | _ => exact h

theorem zip_fst {α β : Type} : ∀ (l : List α) (l' : List β), ((l.zip l').map (·.1)).Sublist l
  | [], _ => by simp
  | x :: l, [] => by simp
  | x :: l, y :: l' => by
    rw [List.zip_cons_cons, List.map_cons]
    exact (zip_fst l l').cons_cons x

/-- A call to which objects are handed. -/
theorem TW.cn (T : Tab P) {ds : List (Option Tmp)} {o : Oper} {rest : List Oper} {σ σ' : List GV} {M M' : List GO} {tr : List RI} {K : List GV → List GO → List RI → Prop}
    {f : FuncId} {c : Operand} {xs : Array Operand} {ts : Array TypeId} {caps args : List GV} {r : GV} {N Mc : List GO} (ids : List Nat) (ho : o.op = .call { callee := .value c, args := xs, argTypes := ts }) (hg : o.guard = none)
    (hc : calleeG (rhoOf σ c) = some (f, caps)) (hf : T.fn f = true) (hnd : ids.Nodup) (hlv : ids.all (fun id => decide (id < M.length) && (match getM M id with | .dead => false | _ => true) && ginO ids (getM M id)) = true)
    (ha : lendAll (getM M) ids (xs.toList.map (rhoOf σ) ++ caps) = some args) (hMc : (ids.map fun id => renO (ids.idxOf ·) (getM M id)) = Mc) (hF : FS P f args Mc r N) (hlen : ids.length ≤ N.length) (hnb : nobw r = true) (hnN : N.all nobwO = true)
    (hp : putS σ o.dst (ren (upN ids M.length) r) = σ') (hM : updA M (ids.zip ((N.take ids.length).map (renO (upN ids M.length)))) ((N.drop ids.length).map (renO (upN ids M.length))) = M')
    (h : TW P ds rest σ' M' (tr ++ [⟨o.dst, ids ++ borAll ids (xs.toList.map (rhoOf σ) ++ caps), (ids.zip ((N.take ids.length).map (renO (upN ids M.length)))).map (·.1), M.length, ((N.drop ids.length).map (renO (upN ids M.length))).length⟩]) K) : TW P ds (o :: rest) σ M tr K :=
  TW.cm T ids ho hg hc hf hnd hlv ha hMc hF hlen hnb hnN hp (by rw [updA_ok ((zip_fst _ _).nodup hnd)]; exact hM) h

theorem TW.tw {ds : List (Option Tmp)} {l : List Oper} {σ : List GV} {M : List GO} {tr : List RI} {K : List GV → List GO → List RI → Prop} (h : TW P ds l σ M tr K) : TW P ds l σ M tr K := h

theorem nd0 : (([] : List (Nat × GO)).map (·.1)).Nodup := by simp
theorem nd1 (i : Nat) (ob : GO) : ([(i, ob)].map (·.1)).Nodup := by simp

theorem zp_s {α β : Type} (x : α) (y : β) (l : List α) (l' : List β) : (x :: l).zip (y :: l') = (x, y) :: l.zip l' := rfl
theorem zp_z {α β : Type} (l : List β) : ([] : List α).zip l = [] := rfl
theorem ln_s {α : Type} (x : α) (l : List α) : (x :: l).length = l.length + 1 := rfl
theorem ln_z {α : Type} : ([] : List α).length = 0 := rfl
theorem up_0 (nb j : Nat) : upN [] nb j = nb + j := rfl
theorem up_1z (a nb : Nat) : upN [a] nb 0 = a := rfl
theorem up_1s (a nb n : Nat) : upN [a] nb (n + 1) = nb + n := rfl
theorem up_2z (a b nb : Nat) : upN [a, b] nb 0 = a := rfl
theorem up_2o (a b nb : Nat) : upN [a, b] nb 1 = b := rfl
theorem up_2s (a b nb n : Nat) : upN [a, b] nb (n + 2) = nb + n := rfl

theorem wrap_nat {n : Nat} (h : n < 9223372036854775807) : IntKind.i64.wrap ((n : Int) + 1) = ((n + 1 : Nat) : Int) := by
  rw [wrap_i64 _ (by omega) (by omega)]; omega

end Go.Gh


/-! A nil slice taken as a row; a row that is read alone from now on; parts of slices; bytes as a string; rows made. -/

namespace Go.Gh
variable {P : Program}

theorem SL.set {Γ : Ctx} {D : Nat → Prop} {ι : Nat → Hd} {w : World} {σ : List GV} {a : Act} (h : SL Γ D ι w σ a) (t : Nat) {g : GV} (hv : VR Γ.Im Γ.Bw D ι w g (a.tmps.getD t undef)) : SL Γ D ι w (σ.set t g) a := by
  refine ⟨by rw [List.length_set]; exact h.1, fun t' g' hg => ?_⟩
  by_cases e : t = t'
  · subst e
    by_cases ht : t < σ.length
    · rw [List.getElem?_set_self ht] at hg
      cases hg; exact hv
    · rw [List.getElem?_eq_none (by rw [List.length_set]; omega)] at hg; cases hg
  · rw [List.getElem?_set_ne e] at hg
    exact h.2 t' g' hg

theorem getM_append (M : List GO) (o : GO) (i : Nat) : getM (M ++ [o]) i = if i = M.length then o else getM M i := by
  unfold getM
  rw [List.getD_eq_getElem?_getD, List.getD_eq_getElem?_getD]
  by_cases h : i < M.length
  · rw [List.getElem?_append_left h, if_neg (by omega)]
  · rw [List.getElem?_append_right (by omega)]
    by_cases e : i = M.length
    · subst e; simp
    · rw [if_neg e, List.getElem?_eq_none (by simp; omega), List.getElem?_eq_none (by omega)]

theorem adopt_SR {Γ : Ctx} {ι : Nat → Hd} {M : List GO} {w : World} (hS : SR Γ (· < M.length) ι (getM M) w) (e sz : Nat) :
    SR Γ (· < (M ++ [GO.row e sz []]).length) (fun i => if i = M.length then ⟨none, sz, 0, 0⟩ else ι i) (getM (M ++ [GO.row e sz []])) w := by
  have hlen : (M ++ [GO.row e sz []]).length = M.length + 1 := by simp
  refine hS.new (nb := M.length) (o := .row e sz []) (by omega) (fun i => by rw [hlen]; omega) (fun i hi => if_neg (by omega)) (fun i hi => .inr ?_) ?_ (Nat.le_refl _) (fun _ _ _ _ => rfl) (fun b hb => by simp at hb) ?_
  · rw [getM_append, if_neg hi]
  · rw [getM_append, if_pos rfl]
  · rw [if_pos rfl]
    exact ⟨⟨rfl, fun b arr t hb => by simp at hb⟩, rfl, fun x h => by simp at h, [], World.ownsRow_nil w 0 e sz, fun v h => by simp at h, fun i j x g h => by simp at h⟩

/-- A nil slice, taken as a row. -/
theorem CS.adopt {m : Nat} {c : Code} {σ : List GV} {M : List GO} {R : Exit → List GV → List GO → Prop} (e sz t : Nat) (hσ : nthG σ t = some (.lit (.slice none 0 0)))
    (h : CS P m c (σ.set t (.row M.length)) (M ++ [.row e sz []]) R) : CS P m c σ M R := by
  intro Γ ι w a Q hm hS hL hd hk
  have hlen : (M ++ [GO.row e sz []]).length = M.length + 1 := by simp
  have hS' := adopt_SR hS e sz
  have hv := (hL.2 t _ (nthG_ok hσ)).lit_inv
  have hL' : SL Γ (· < (M ++ [GO.row e sz []]).length) (fun i => if i = M.length then ⟨none, sz, 0, 0⟩ else ι i) w (σ.set t (.row M.length)) a := by
    refine (hL.mono (Γ' := Γ) (fun _ h => h) (fun _ h => h) (fun i hi => by show i < _; rw [hlen]; have : i < M.length := hi; omega) (fun i hi => if_neg (by have : i < M.length := hi; omega)) (fun _ _ => rfl)).set t ?_
    rw [hv]
    have := VR.row (Im := Γ.Im) (Bw := Γ.Bw) (D := (· < (M ++ [GO.row e sz []]).length)) (ι := fun i => if i = M.length then ⟨none, sz, 0, 0⟩ else ι i) (w := w) M.length (by show M.length < _; omega)
    simpa using this
  refine h Γ _ w a Q (by omega) hS' hL' hd fun e' σ' M' Im' ι' w' a' h0 h1 h2 h3 h4 h5 h6 h7 => ?_
  exact hk e' σ' M' Im' ι' w' a' h0 h1 h2 (fun i hi => by rw [h3 i hi, if_neg (by omega)]) h4 h5 h6 h7

theorem getM_set (M : List GO) (id : Nat) (hid : id < M.length) (i : Nat) : getM (M.set id .dead) i = if i = id then .dead else getM M i := by
  unfold getM
  rw [List.getD_eq_getElem?_getD, List.getD_eq_getElem?_getD, List.getElem?_set]
  by_cases e : id = i
  · subst e; rw [if_pos rfl, if_pos rfl, if_pos hid]; rfl
  · rw [if_neg e, if_neg (Ne.symm e)]

theorem frz_VI {Γ : Ctx} {D : Nat → Prop} {ι : Nat → Hd} {M : Nat → GO} {w : World} (hS : SR Γ D ι M w) {id e sz : Nat} {xs : List (List GV)} (hM : M id = .row e sz xs) {u : Value}
    (hV : VR Γ.Im Γ.Bw D ι w (.row id) u) : VI (fun b => Γ.Im b ∨ (ι id).A = some b) Γ.Bw w (.sl false sz xs []) u := by
  have ho := hS.obj id
  rw [hM] at ho
  obtain ⟨A, c, news, hs⟩ := src_row hV ho
  obtain ⟨hD, hu⟩ := hV.row_inv
  obtain ⟨_, h1, _, cs, _, _, _, h2⟩ := row_cases ho
  have hval := hs.val
  rw [hu, Hd.val] at hval
  simp only [Value.slice.injEq] at hval
  obtain ⟨hA, _, hc'⟩ := hval
  refine lend_src false hs (fun a ha => ?_) ?_ (fun _ => .inl) fun a ha _ => ?_
  · rw [← hA] at ha
    cases hA' : (ι id).A with
    | none => simp [hA'] at ha
    | some b => simp [hA'] at ha; subst ha; rfl
  · rcases h2 with ⟨_, h3, h4⟩ | ⟨b, _, h3, _⟩ <;> omega
  · rw [← hA] at ha
    cases hA' : (ι id).A with
    | none => simp [hA'] at ha
    | some b => simp [hA'] at ha; subst ha; exact .inr rfl

theorem frz_SR {Γ : Ctx} {ι : Nat → Hd} {M : List GO} {w : World} (hS : SR Γ (· < M.length) ι (getM M) w) {id e sz : Nat} {xs : List (List GV)} (hM : getM M id = .row e sz xs) :
    SR ⟨fun b => Γ.Im b ∨ (ι id).A = some b, Γ.Bw, Γ.Fz⟩ (· < (M.set id .dead).length) ι (getM (M.set id .dead)) w := by
  have hid : id < M.length := hS.liv id (by rw [hM]; simp)
  rw [List.length_set]
  exact hS.freeze (by rw [hM]; simp) (getM_set M id hid)

theorem keep_frz {Γ : Ctx} {Im' : Nat → Prop} {w w' : World} (hI : ∀ b, Γ.Im b → Im' b) (h : Keep ⟨Im', Γ.Bw, Γ.Fz⟩ w w') : Keep Γ w w' :=
  h.weaken fun b hb => by
    rcases hb with h | h | h
    · exact .inl (hI b h)
    · exact .inr (.inl h)
    · exact .inr (.inr h)

/-- A row that is read alone from now on. -/
theorem CS.frz {m : Nat} {c : Code} {σ : List GV} {M : List GO} {R : Exit → List GV → List GO → Prop} (t : Nat) {id e sz : Nat} {xs : List (List GV)} (hσ : nthG σ t = some (.row id)) (hM : getM M id = .row e sz xs)
    (h : CS P m c (σ.set t (.sl false sz xs [])) (M.set id .dead) R) : CS P m c σ M R := by
  intro Γ ι w a Q hm hS hL hd hk
  have hid : id < M.length := hS.liv id (by rw [hM]; simp)
  have hL' : SL ⟨fun b => Γ.Im b ∨ (ι id).A = some b, Γ.Bw, Γ.Fz⟩ (· < (M.set id .dead).length) ι w (σ.set t (.sl false sz xs [])) a :=
    (hL.mono (Γ' := ⟨fun b => Γ.Im b ∨ (ι id).A = some b, Γ.Bw, Γ.Fz⟩) (fun _ => .inl) (fun _ h => h) (fun i hi => by show i < _; rw [List.length_set]; exact hi) (fun _ _ => rfl) (fun _ _ => rfl)).set t (.imm (frz_VI hS hM (hL.2 t _ (nthG_ok hσ))))
  refine h _ ι w a Q (by rw [List.length_set]; exact hm) (frz_SR hS hM) hL' hd fun e' σ' M' Im' ι' w' a' h0 h1 h2 h3 h4 h5 h6 h7 => ?_
  exact hk e' σ' M' Im' ι' w' a' h0 (keep_frz (Im' := fun b => Γ.Im b ∨ (ι id).A = some b) (fun _ => .inl) h1) (fun b hb => h2 b (.inl hb)) h3 h4 h5 h6 h7

/-- A function that makes a row: read alone from now on. -/
theorem FS.frz {f : FuncId} {args : List GV} {e sz : Nat} {xs : List (List GV)} (h : FS P f args [] (.row 0) [.row e sz xs]) : FS P f args [] (.sl false sz xs []) [] := by
  constructor
  intro Γ ι w as hS hsz hV
  refine (h.run Γ ι w as hS hsz hV).mono fun e' w' hw => ?_
  obtain ⟨v, Im', ι', he, h1, h2, h3, h4, h5⟩ := hw
  have h6 := frz_VI h4 (id := 0) rfl h5
  refine ⟨v, fun b => Im' b ∨ (ι' 0).A = some b, ι', he, h1, fun b hb => .inl (h2 b hb), fun i hi => by simp at hi, ?_, .imm h6⟩
  have h7 := frz_SR (M := [.row e sz xs]) h4 (id := 0) rfl
  refine ⟨fun id => by simp [getM, OR], fun id hid => (hid rfl).elim, fun i j b hi => (hi rfl).elim, h7.lt, fun id b hid => (hid rfl).elim, h7.dj⟩

/-! Parts of slices. -/

theorem run_slice_g {w : World} {t e sz : Nat} (ht : P.underlying t = some (.slice e)) (hsz : (sizeOf e).run P w = .ok sz w) {a : Option Addr} {len cap : Nat} {lo hi mx : Option Value} {l h m : Nat}
    (hl : (lo = none ∧ l = 0) ∨ ∃ k, lo = some (.int k l)) (hh : (hi = none ∧ h = len ∧ mx = none) ∨ ∃ k, hi = some (.int k h)) (hm : (mx = none ∧ m = cap) ∨ ∃ k, mx = some (.int k m)) (h1 : l ≤ h) (h2 : h ≤ m) (h3 : m ≤ cap) :
    (Instr.sliceAt t (.slice a len cap) lo hi mx).run P w = .ok (.slice (if m = l then a else a.map (·.add (l * sz))) (h - l) (m - l)) w := by
  have n1 : ∀ x : Nat, (0 : Int) ≤ (x : Int) := fun x => by omega
  have n2 : ∀ {x y : Nat}, x ≤ y → (x : Int) ≤ (y : Int) := fun h => by omega
  have hat : (Instr.sliceAt t (.slice a len cap) lo hi mx).run P w = (Instr.slice t (.slice a len cap) lo hi mx).run P w := by
    simp [Instr.sliceAt, run_underlying ht]
  rw [hat]
  rcases hm with ⟨rfl, rfl⟩ | ⟨km, rfl⟩ <;> rcases hh with ⟨rfl, rfl, hx⟩ | ⟨kh, rfl⟩ <;> rcases hl with ⟨rfl, rfl⟩ | ⟨kl, rfl⟩ <;>
    first
    | (cases hx; done)
    | simp [Instr.slice, run_underlying ht, Instr.sliceBounds, run_sliceBound, hsz, n1, n2 h1, n2 h2, n2 h3, n2 (Nat.le_trans h1 h2), n2 (Nat.le_trans h2 h3), Int.toNat_natCast]

def bndG (ρ : Rho) (d : Int) : Option Operand → Option Int
  | none => some d
  | some x => match ρ x with
    | .lit (.int _ n) => some n
    | _ => none

section
variable {o : Oper} {ρ : Rho} {nb : Nat} {M0 : Nat → GO} {Im Bw D : Nat → Prop} {ι : Nat → Hd} {w : World}

theorem bndG_sound {ac : Act} {d : Int} {x : Option Operand} {n : Int} (h : bndG ρ d x = some n) (h0 : 0 ≤ n) (hV : ∀ y, x = some y → VR Im Bw D ι w (ρ y) (ac.eval y)) :
    (x.map ac.eval = none ∧ x = none ∧ n = d) ∨ ∃ k, x.map ac.eval = some (.int k (n.toNat : Int)) := by
  cases x with
  | none =>
    simp only [bndG, Option.some.injEq] at h
    exact .inl ⟨rfl, rfl, h.symm⟩
  | some y =>
    right
    simp only [bndG] at h
    split at h
    · rename_i k m hy
      cases h
      have := (hy ▸ hV y rfl).lit_inv
      exact ⟨k, by simp [this, Int.toNat_of_nonneg h0]⟩
    · cases h

/-- The third bound. -/
def mxG (ρ : Rho) (h : Int) (n : Nat) : Option Operand → Prop
  | none => True
  | some x => match ρ x with
    | .lit (.int _ m) => h ≤ m ∧ m ≤ n
    | _ => False

theorem mxG_sound {ac : Act} {h : Int} {n cap : Nat} {x : Option Operand} (hm : mxG ρ h n x) (h0 : 0 ≤ h) (hh : h ≤ n) (hn : n ≤ cap) (hV : ∀ y, x = some y → VR Im Bw D ι w (ρ y) (ac.eval y)) :
    ∃ m : Nat, ((x.map ac.eval = none ∧ m = cap) ∨ ∃ k, x.map ac.eval = some (.int k (m : Int))) ∧ h.toNat ≤ m ∧ m ≤ cap := by
  cases x with
  | none => exact ⟨cap, .inl ⟨rfl, rfl⟩, by omega, Nat.le_refl _⟩
  | some y =>
    simp only [mxG] at hm
    split at hm
    · rename_i k m hy
      have := (hy ▸ hV y rfl).lit_inv
      exact ⟨m.toNat, .inr ⟨k, by simp [this, Int.toNat_of_nonneg (Int.le_trans h0 hm.1)]⟩, by omega, by omega⟩
    · exact hm.elim

theorem run_szC {e sz : Nat} (hsz : P.cellsOf e = sz) (hpos : sz ≠ 0) : (sizeOf e).run P w = .ok sz w := by
  obtain ⟨i, hi⟩ := cellsOf_info (P := P) (t := e) (by omega)
  rw [run_sz hi, hsz]

theorem slice_ops {t : TypeId} {x : Operand} {lo hi mx : Option Operand} (ho : o.op = .slice t x lo hi mx) :
    x ∈ o.op.operands ∧ (∀ y, lo = some y → y ∈ o.op.operands) ∧ (∀ y, hi = some y → y ∈ o.op.operands) ∧ (∀ y, mx = some y → y ∈ o.op.operands) := by
  rw [ho]
  simp only [Op.operands, Array.mem_append]
  refine ⟨by simp, fun y h => by subst h; simp, fun y h => by subst h; simp, fun y h => by subst h; simp⟩

/-- What is cut, whatever it is: the value. -/
theorem run_cut {t e sz : Nat} {x : Operand} {lo hi mx : Option Operand} {ac : Act} (ho : o.op = .slice t x lo hi mx) (ht : P.underlying t = some (.slice e)) (hsz : P.cellsOf e = sz) (hpos : sz ≠ 0)
    (hV : ∀ x, x ∈ o.op.operands → VR Im Bw D ι w (ρ x) (ac.eval x)) {a : Option Addr} {len cap : Nat} (hx : ac.eval x = .slice a len cap) {n : Nat} (hn : n ≤ cap) {l h : Int}
    (hl : bndG ρ 0 lo = some l) (hh : bndG ρ len hi = some h) (hm : mxG ρ h n mx) (hhm : hi = none → mx = none) (h0 : 0 ≤ l) (h1 : l ≤ h) (h2 : h ≤ n) :
    ∃ m : Nat, h.toNat ≤ m ∧ m ≤ cap ∧ (mx = none → m = cap) ∧ (∀ y k q, mx = some y → ρ y = .lit (.int k q) → (m : Int) = q) ∧
      (execOp ac.eval o).run P w = .ok (.value (.slice (if m = l.toNat then a else a.map (·.add (l.toNat * sz))) (h.toNat - l.toNat) (m - l.toNat))) w := by
  obtain ⟨_, o1, o2, o3⟩ := slice_ops ho
  have hh0 : 0 ≤ h := Int.le_trans h0 h1
  obtain ⟨m, m1, m2, m3⟩ := mxG_sound (cap := cap) hm hh0 h2 hn fun y e => hV y (o3 y e)
  refine ⟨m, m2, m3, fun e => ?_, fun y k q e hq => ?_, ?_⟩
  · subst e
    rcases m1 with ⟨_, e⟩ | ⟨k, e⟩
    · exact e
    · simp at e
  · subst e
    have := (hq ▸ hV y (o3 y rfl)).lit_inv
    rcases m1 with ⟨e, _⟩ | ⟨k', e⟩
    · simp at e
    · simp only [Option.map_some, this, Option.some.injEq, Value.int.injEq] at e
      exact e.2.symm
  · have b1 := bndG_sound (ac := ac) hl h0 fun y e => hV y (o1 y e)
    have b2 := bndG_sound (ac := ac) hh hh0 fun y e => hV y (o2 y e)
    have := run_slice_g (P := P) (w := w) (t := t) (e := e) (sz := sz) (a := a) (len := len) (cap := cap) (lo := lo.map ac.eval) (hi := hi.map ac.eval) (mx := mx.map ac.eval) (l := l.toNat) (h := h.toNat) (m := m) ht (run_szC hsz hpos)
      (b1.imp (fun ⟨a, _, b⟩ => ⟨a, by omega⟩) id) (b2.imp (fun ⟨a, b, c⟩ => ⟨a, by omega, by rw [hhm b]; rfl⟩) id) m1 (by omega) m2 m3
    simp only [execOp, ho, hx, Sem.run_bind, this, Result.andThen_ok, Sem.run_pure]

theorem os_cut_sl {t e sz : Nat} {x : Operand} {lo hi mx : Option Operand} {bw : Bool} {xs ex : List (List GV)} {l h : Int} (ho : o.op = .slice t x lo hi mx) (ht : P.underlying t = some (.slice e)) (hsz : P.cellsOf e = sz) (hpos : sz ≠ 0)
    (hx : ρ x = .sl bw sz xs ex) (hl : bndG ρ 0 lo = some l) (hh : bndG ρ xs.length hi = some h) (hm : mxG ρ h xs.length mx) (hhm : hi = none → mx = none) (h0 : 0 ≤ l) (h1 : l ≤ h) (h2 : h ≤ xs.length) :
    OpS P o ρ nb M0 [] (.sl bw sz ((xs.take h.toNat).drop l.toNat) []) [] [] := by
  refine .quiet fun Γ D ι M w ac hS hV hM => ?_
  obtain ⟨A, c, V, e1, hcap, hA, hs, hlen, hcell⟩ := (hx ▸ hV x (slice_ops ho).1).sl_inv
  obtain ⟨m, m1, m2, _, _, hr⟩ := run_cut ho ht hsz hpos hV e1 (n := xs.length) (by omega) hl hh hm hhm h0 h1 h2
  have hlen' : ((xs.take h.toNat).drop l.toNat).length = h.toNat - l.toNat := by simp; omega
  have hin : ∀ (i : Nat) (x : List GV), ((xs.take h.toNat).drop l.toNat ++ [])[i]? = some x → (xs ++ ex)[l.toNat + i]? = some x ∧ l.toNat + i < h.toNat := fun i x hi => by
    rw [List.append_nil, List.getElem?_drop, List.getElem?_take] at hi
    split at hi
    · rename_i hlt
      exact ⟨by rw [List.getElem?_append_left (by omega)]; exact hi, hlt⟩
    · cases hi
  refine ⟨_, ?_, hr⟩
  rw [← hlen']
  refine .imm (.sl bw sz _ [] _ _ (fun i j => V (l.toNat + i) j) (by simp; omega) (fun hn => ?_) (fun ad ha => ?_) (fun x hx => ?_) (fun i j x g hi hj => ?_) (fun i j x g hi hj => ?_) (fun i j x g hi hj => ?_))
  · split at hn
    · have := hA hn; omega
    · have := hA (by cases A <;> simp_all); omega
  · split at ha
    · rcases hs ad ha with h | h
      · exact .inl h
      · right
        have : xs = [] := by cases xs <;> simp_all
        simp [this]
    · cases hA' : A with
      | none => simp [hA'] at ha
      | some ad' =>
        rw [hA'] at ha
        simp only [Option.map_some, Option.some.injEq] at ha
        rcases hs ad' hA' with h | h
        · left; rw [← ha, add_addr h]
        · right
          have : xs = [] := by cases xs <;> simp_all
          simp [this]
  · rw [List.append_nil] at hx
    exact hlen x (List.mem_append_left _ (List.mem_of_mem_take (List.mem_of_mem_drop hx)))
  · obtain ⟨h3, h4⟩ := hin i x hi
    obtain ⟨ad, h5, h6, h7, _⟩ := hcell _ j x g h3 hj
    have hsp : ad.spot = none := (hs ad h5).resolve_right fun h => by rw [h] at h3; simp at h3
    have hml : m ≠ l.toNat := by omega
    refine ⟨⟨ad.block, ad.off + l.toNat * sz, none⟩, by rw [if_neg hml, h5]; simp [add_addr hsp], h6, ?_⟩
    rw [← h7, Nat.add_mul]
    congr 2
    show ad.off + l.toNat * sz + (i * sz + j) = ad.off + (l.toNat * sz + i * sz + j)
    omega
  · obtain ⟨h3, h4⟩ := hin i x hi
    obtain ⟨ad, h5, h6, h7, h8, _⟩ := hcell _ j x g h3 hj
    exact h8
  · obtain ⟨h3, h4⟩ := hin i x hi
    obtain ⟨ad, h5, h6, h7, h8, h9⟩ := hcell _ j x g h3 hj
    exact h9

/-- .. up into the spare room. -/
theorem os_cut_ex {t e sz : Nat} {x : Operand} {lo hi : Option Operand} {bw : Bool} {xs ex : List (List GV)} {l h : Int} (ho : o.op = .slice t x lo hi none) (ht : P.underlying t = some (.slice e)) (hsz : P.cellsOf e = sz) (hpos : sz ≠ 0)
    (hx : ρ x = .sl bw sz xs ex) (hl : bndG ρ 0 lo = some l) (hh : bndG ρ xs.length hi = some h) (h0 : 0 ≤ l) (h1 : l ≤ h) (h2 : h ≤ (xs ++ ex).length) :
    OpS P o ρ nb M0 [] (.sl bw sz (((xs ++ ex).take h.toNat).drop l.toNat) ((xs ++ ex).drop h.toNat)) [] [] := by
  refine .quiet fun Γ D ι M w ac hS hV hM => ?_
  obtain ⟨A, c, V, e1, hcap, hA, hs, hlen, hcell⟩ := (hx ▸ hV x (slice_ops ho).1).sl_inv
  rw [List.length_append] at h2
  obtain ⟨m, m1, m2, m3, _, hr⟩ := run_cut ho ht hsz hpos hV e1 (n := xs.length + ex.length) hcap.1 hl hh trivial (fun _ => rfl) h0 h1 (by exact_mod_cast h2)
  have hmc := m3 rfl
  have hlen' : (((xs ++ ex).take h.toNat).drop l.toNat).length = h.toNat - l.toNat := by simp; omega
  have hin : ∀ (i : Nat) (x : List GV), (((xs ++ ex).take h.toNat).drop l.toNat ++ (xs ++ ex).drop h.toNat)[i]? = some x → (xs ++ ex)[l.toNat + i]? = some x ∧ l.toNat + i < xs.length + ex.length := fun i x hi => by
    rw [List.getElem?_append, hlen', List.getElem?_drop, List.getElem?_take, List.getElem?_drop] at hi
    split at hi
    · split at hi
      · exact ⟨hi, by omega⟩
      · cases hi
    · have : h.toNat + (i - (h.toNat - l.toNat)) = l.toNat + i := by omega
      rw [this] at hi
      exact ⟨hi, by have := (List.getElem?_eq_some_iff.1 hi).1; rwa [List.length_append] at this⟩
  refine ⟨_, ?_, hr⟩
  rw [← hlen']
  refine .imm (.sl bw sz _ _ _ _ (fun i j => V (l.toNat + i) j) (by simp; omega) (fun hn => ?_) (fun ad ha => ?_) (fun x hx => ?_) (fun i j x g hi hj => ?_) (fun i j x g hi hj => ?_) (fun i j x g hi hj => ?_))
  · split at hn
    · have := hA hn; omega
    · have := hA (by cases A <;> simp_all); omega
  · have hnil : xs ++ ex = [] → ((xs ++ ex).take h.toNat).drop l.toNat ++ (xs ++ ex).drop h.toNat = [] := fun h => by rw [h]; simp
    split at ha
    · exact (hs ad ha).imp id hnil
    · cases hA' : A with
      | none => simp [hA'] at ha
      | some ad' =>
        rw [hA'] at ha
        simp only [Option.map_some, Option.some.injEq] at ha
        refine (hs ad' hA').imp (fun h => ?_) hnil
        rw [← ha, add_addr h]
  · rcases List.mem_append.1 hx with h | h
    · exact hlen x (List.mem_of_mem_take (List.mem_of_mem_drop h))
    · exact hlen x (List.mem_of_mem_drop h)
  · obtain ⟨h3, h4⟩ := hin i x hi
    obtain ⟨ad, h5, h6, h7, _⟩ := hcell _ j x g h3 hj
    have hsp : ad.spot = none := (hs ad h5).resolve_right fun h => by rw [h] at h3; simp at h3
    have hml : m ≠ l.toNat := by omega
    refine ⟨⟨ad.block, ad.off + l.toNat * sz, none⟩, by rw [if_neg hml, h5]; simp [add_addr hsp], h6, ?_⟩
    rw [← h7, Nat.add_mul]
    congr 2
    show ad.off + l.toNat * sz + (i * sz + j) = ad.off + (l.toNat * sz + i * sz + j)
    omega
  · obtain ⟨h3, h4⟩ := hin i x hi
    obtain ⟨ad, h5, h6, h7, h8, _⟩ := hcell _ j x g h3 hj
    exact h8
  · obtain ⟨h3, h4⟩ := hin i x hi
    obtain ⟨ad, h5, h6, h7, h8, h9⟩ := hcell _ j x g h3 hj
    exact h9

/-- A part of a row. -/
theorem os_cut_row {t e sz id : Nat} {x : Operand} {lo hi mx : Option Operand} {e' sz' : Nat} {xs : List (List GV)} {l h : Int} (ho : o.op = .slice t x lo hi mx) (ht : P.underlying t = some (.slice e)) (hsz : P.cellsOf e = sz') (hsz' : sz' = sz) (hpos : sz ≠ 0)
    (hx : ρ x = .row id) (hM0 : M0 id = .row e' sz xs) (hl : bndG ρ 0 lo = some l) (hh : bndG ρ xs.length hi = some h) (hm : mxG ρ h xs.length mx) (hhm : hi = none → mx = none) (h0 : 0 ≤ l) (h1 : l ≤ h) (h2 : h ≤ xs.length) :
    OpS P o ρ nb M0 [id] (.sub id l.toNat h.toNat) [] [] := by
  subst hsz'
  refine .quiet fun Γ D ι M w ac hS hV hM => ?_
  have hob := hS.obj id
  rw [hM id (by simp), hM0] at hob
  obtain ⟨e0, e1, hz, cs, hown, hf, h3, h4⟩ := row_cases hob
  obtain ⟨hD, hv⟩ := (hx ▸ hV x (slice_ops ho).1).row_inv
  have hc : (ι id).n ≤ (ι id).c ∧ (ι id).c ≤ maxLen := by rcases h4 with ⟨_, h5, h6⟩ | ⟨b, _, h5, _⟩ <;> omega
  rw [e1] at hc
  unfold Hd.val at hv
  rw [e1] at hv
  obtain ⟨m, m1, m2, _, _, hr⟩ := run_cut ho ht hsz hpos hV hv (n := xs.length) hc.1 hl hh hm hhm h0 h1 h2
  refine ⟨_, .sub id l.toNat h.toNat hD _ _ (by omega) (by omega) (by omega) (fun hn => ?_) (fun ad ha => ?_) (fun hlt => ?_), hr⟩
  · have hA : (ι id).A = none := by
      split at hn <;> (cases hA : (ι id).A <;> simp_all)
    rcases h4 with ⟨_, h5, h6⟩ | ⟨b, h5, _⟩
    · omega
    · rw [hA] at h5; cases h5
  · cases hA : (ι id).A with
    | none => split at ha <;> simp_all
    | some b =>
      rw [hA] at ha
      split at ha
      · simp at ha; rw [← ha]
      · simp only [Option.map_some, Option.some.injEq, add_lit] at ha; rw [← ha]
  · rcases h4 with ⟨_, h5, h6⟩ | ⟨b, h5, _⟩
    · omega
    · refine ⟨b, h5, ?_⟩
      rw [if_neg (by omega), h5, e0]
      simp [add_lit]

theorem os_cut_sub {t e sz id a b : Nat} {x : Operand} {lo hi mx : Option Operand} {e' sz' : Nat} {xs : List (List GV)} {l h : Int} (ho : o.op = .slice t x lo hi mx) (ht : P.underlying t = some (.slice e)) (hsz : P.cellsOf e = sz') (hsz' : sz' = sz) (hpos : sz ≠ 0)
    (hx : ρ x = .sub id a b) (hM0 : M0 id = .row e' sz xs) (hl : bndG ρ 0 lo = some l) (hh : bndG ρ ((b - a : Nat) : Int) hi = some h) (hm : mxG ρ h (b - a) mx) (hhm : hi = none → mx = none) (h0 : 0 ≤ l) (h1 : l ≤ h) (h2 : h ≤ (b - a : Nat)) :
    OpS P o ρ nb M0 [id] (.sub id (a + l.toNat) (a + h.toNat)) [] [] := by
  subst hsz'
  refine .quiet fun Γ D ι M w ac hS hV hM => ?_
  have hob := hS.obj id
  rw [hM id (by simp), hM0] at hob
  obtain ⟨e0, e1, hz, cs, hown, hf, h3, h4⟩ := row_cases hob
  obtain ⟨hD, hab, hbn, A, c, hv, hc, hA, hs, hb⟩ := (hx ▸ hV x (slice_ops ho).1).sub_inv
  obtain ⟨m, m1, m2, _, _, hr⟩ := run_cut ho ht hsz hpos hV hv (n := b - a) hc.1 hl hh hm hhm h0 h1 h2
  rw [show h.toNat - l.toNat = (a + h.toNat) - (a + l.toNat) by omega] at hr
  refine ⟨_, .sub id _ _ hD _ _ (by omega) (by omega) (by omega) (fun hn => ?_) (fun ad ha => ?_) (fun hlt => ?_), hr⟩
  · have : A = none := by split at hn <;> (cases A <;> simp_all)
    have := hA this; omega
  · split at ha
    · exact hs ad ha
    · cases hA' : A with
      | none => simp [hA'] at ha
      | some ad' =>
        rw [hA'] at ha
        simp only [Option.map_some, Option.some.injEq, add_addr (hs ad' hA')] at ha
        rw [← ha]
  · obtain ⟨b', h5, h6⟩ := hb (by omega)
    refine ⟨b', h5, ?_⟩
    rw [if_neg (by omega), h6, e0]
    simp [add_lit, Nat.add_mul]

theorem os_cut_win {t e sz id a b : Nat} {x : Operand} {lo hi : Option Operand} {e' sz' : Nat} {xs : List (List GV)} {l h : Int} (ho : o.op = .slice t x lo hi none) (ht : P.underlying t = some (.slice e)) (hsz : P.cellsOf e = sz') (hsz' : sz' = sz) (hpos : sz ≠ 0)
    (hx : ρ x = .win id a b) (hM0 : M0 id = .row e' sz xs) (hl : bndG ρ 0 lo = some l) (hh : bndG ρ ((b - a : Nat) : Int) hi = some h) (h0 : 0 ≤ l) (h1 : l ≤ h) (h2 : h ≤ (xs.length - a : Nat)) :
    OpS P o ρ nb M0 [id] (.win id (a + l.toNat) (a + h.toNat)) [] [] := by
  subst hsz'
  refine .quiet fun Γ D ι M w ac hS hV hM => ?_
  have hob := hS.obj id
  rw [hM id (by simp), hM0] at hob
  obtain ⟨e0, e1, hz, cs, hown, hf, h3, h4⟩ := row_cases hob
  obtain ⟨hD, hab, hbn, hcn, A, hv, hA, hs, hb⟩ := (hx ▸ hV x (slice_ops ho).1).win_inv
  rw [e1] at hv
  obtain ⟨m, m1, m2, m3, _, hr⟩ := run_cut ho ht hsz hpos hV hv (n := xs.length - a) (Nat.le_refl _) hl hh trivial (fun _ => rfl) h0 h1 h2
  have hmc := m3 rfl
  rw [show h.toNat - l.toNat = (a + h.toNat) - (a + l.toNat) by omega, show m - l.toNat = (ι id).n - (a + l.toNat) by omega] at hr
  refine ⟨_, .win id _ _ hD _ (by omega) (by omega) hcn (fun hn => ?_) (fun ad ha => ?_) (fun hlt => ?_), hr⟩
  · exact hA (by split at hn <;> (cases A <;> simp_all))
  · split at ha
    · exact hs ad ha
    · cases hA' : A with
      | none => simp [hA'] at ha
      | some ad' =>
        rw [hA'] at ha
        simp only [Option.map_some, Option.some.injEq, add_addr (hs ad' hA')] at ha
        rw [← ha]
  · obtain ⟨b', h5, h6⟩ := hb (by omega)
    refine ⟨b', h5, ?_⟩
    rw [if_neg (by omega), h6, e0]
    simp [add_lit, Nat.add_mul]

end

end Go.Gh


/-! Bytes as a string; rows made; what is appended in place. -/

namespace Go.Gh
variable {P : Program}

def strOf (l : List Int) : ByteArray := l.foldl (fun r n => r.push (UInt8.ofNat n.toNat)) ByteArray.empty
def bG (n : Int) : List GV := [.lit (.int .u8 n)]
def gbytes : List (List GV) → Option (List Int)
  | [] => some []
  | [.lit (.int .u8 n)] :: l => (gbytes l).map (n :: ·)
  | _ => none

theorem gbytes_map : ∀ l : List Int, gbytes (l.map bG) = some l
  | [] => rfl
  | n :: l => by simp [gbytes, bG, gbytes_map l]

theorem gbytes_get : ∀ {xs : List (List GV)} {l : List Int}, gbytes xs = some l → xs = l.map bG
  | [], l, h => by simp only [gbytes, Option.some.injEq] at h; subst h; rfl
  | x :: xs, l, h => by
    unfold gbytes at h
    split at h
    · cases ‹x :: xs = []›
    · rename_i n l' e
      cases e
      obtain ⟨r, hr, rfl⟩ := Option.map_eq_some_iff.1 h
      rw [List.map_cons, ← gbytes_get hr]; rfl
    · cases h

theorem VP.lit_inv {Im : Nat → Prop} {w : World} {v u : Value} (h : VP Im w (.lit v) u) : u = v := by cases h; rfl

section
variable {o : Oper} {ρ : Rho} {nb : Nat} {M0 : Nat → GO} {Im Bw D : Nat → Prop} {ι : Nat → Hd} {w : World}

theorem os_str {src dst e : Nat} {x : Operand} {xs : List (List GV)} {l : List Int} (ho : o.op = .convert src dst x) (hs : P.underlying src = some (.slice e)) (he : P.underlying e = some (.int .u8)) (hd : P.underlying dst = some .string)
    (hx : srcOf M0 1 (ρ x) = some xs) (hb : gbytes xs = some l) : OpS P o ρ nb M0 (gid (ρ x)) (.lit (.string (strOf l))) [] [] := by
  refine .quiet fun Γ D ι M w ac hS hV hM => ⟨_, .litv _, ?_⟩
  obtain ⟨A, c, news, hsr⟩ := srcOf_sound (by omega) hx Γ D ι M w _ hS (hV x (by simp [ho, Op.operands])) hM
  have hxs := gbytes_get hb
  have hlen : news.length = l.length := by rw [hsr.len, hxs]; simp
  have hnews : news = l.map (Value.int .u8) := by
    apply List.ext_getElem?
    intro i
    by_cases hi : i < l.length
    · have h1 : xs[i]? = some (bG l[i]) := by rw [hxs]; simp [hi]
      have h2 := (hsr.rel i 0 (bG l[i]) (.lit (.int .u8 l[i])) h1 rfl).lit_inv
      rw [Nat.mul_one, Nat.add_zero, List.getD_eq_getElem?_getD, List.getElem?_eq_getElem (by omega)] at h2
      rw [List.getElem?_eq_getElem (by omega), List.getElem?_map, List.getElem?_eq_getElem hi]
      simpa using h2
    · rw [List.getElem?_eq_none (by omega), List.getElem?_eq_none (by simp; omega)]
  have hval := hsr.val
  simp only [execOp, ho, hval, Sem.run_bind, run_convert_bytes_string w src dst e A xs.length c hs he hd]
  cases A with
  | none =>
    have h0 := (hsr.nil rfl).1
    have hl0 : l = [] := by rw [hxs] at h0; simpa using h0
    subst hl0
    simp [Conv.bytesToString, strOf]
  | some a =>
    have hload : (loadCells a xs.length).run P w = .ok (l.map (Value.int .u8)).toArray w := by
      have := run_loadCells_list (P := P) w a news fun j v hj => by
        obtain ⟨a', ha, h⟩ := hsr.cell j v hj
        cases ha; exact h
      rw [hlen, hnews] at this
      have e : xs.length = l.length := by rw [hxs]; simp
      rw [e]; exact this
    rw [run_bytesToString w a xs.length c l hload]
    simp [strOf]

/-! Rows made. -/

theorem madeCells_toList {z : Array Value} {sz : Nat} (hz : z.size = sz) (hp : 0 < sz) (n : Nat) : (madeCells z (n * sz)).toList = (List.replicate n z.toList).flatten := by
  have := range_mod (fun k => z[k]!) sz hp n
  rw [madeCells, Array.toList_map, Array.toList_range, hz, this]
  congr 2
  apply List.ext_getElem?
  intro k
  by_cases hk : k < sz
  · simp [hk, hz]
  · simp [hk, hz]

theorem made_OR {V Vp : GV → Value → Prop} (hlit : ∀ v, Vp (.lit v) v) {z : Value} {e sz n : Nat} (hzs : z.cells.size = sz) (hpos : 0 < sz) (hf : flatAll z = true) (hn : n ≤ maxLen) :
    OR V Vp (w.alloc (.cells (madeCells z.cells (n * sz)) e)) ⟨some w.heap.size, sz, n, n⟩ (.row e sz (List.replicate n (z.cells.toList.map .lit))) := by
  have hz0 := madeCells_toList hzs hpos n
  have hxl : ∀ x, x ∈ List.replicate n (z.cells.toList.map GV.lit) → x.length = sz := fun x hx => by
    rw [List.mem_replicate] at hx
    rw [hx.2]; simpa using hzs
  have hfl : ∀ v, v ∈ (madeCells z.cells (n * sz)).toList → flat v = true := fun v hv => by
    rw [hz0] at hv
    simp only [List.mem_flatten, List.mem_replicate] at hv
    obtain ⟨l, ⟨_, rfl⟩, hu⟩ := hv
    exact List.all_eq_true.1 hf v hu
  refine ⟨⟨rfl, fun b arr t hb hg2 v hv => ?_⟩, by simp, hxl, (madeCells z.cells (n * sz)).toList, ⟨by simp [size_madeCells], .inr ⟨w.heap.size, n, _, ?_, Nat.zero_le _, heap_alloc_new w _, by simp, hn, size_madeCells _ _, ?_⟩⟩, fun v hv => ?_, fun i j x g hx hg => ?_⟩
  · cases hb
    have hg3 := (heap_alloc_new w (.cells (madeCells z.cells (n * sz)) e)).symm.trans hg2
    cases hg3
    exact hfl v hv
  · simp [Hd.val]
  · rw [List.length_replicate, List.take_of_length_le (by simp [size_madeCells])]
  · rw [hz0] at hv
    simp only [List.mem_flatten, List.mem_replicate] at hv
    obtain ⟨l, ⟨_, rfl⟩, hu⟩ := hv
    exact List.all_eq_true.1 hf v hu
  · rw [List.getElem?_replicate] at hx
    split at hx
    · rename_i hi
      cases hx
      rw [List.getElem?_map, Option.map_eq_some_iff] at hg
      obtain ⟨u, hu, rfl⟩ := hg
      have h2 : (List.replicate n z.cells.toList).flatten[i * sz + j]? = some u :=
        flatten_get (x := z.cells.toList) (fun y hy => by rw [List.mem_replicate] at hy; rw [hy.2]; simpa using hzs) (by rw [List.getElem?_replicate, if_pos hi]) hu
      rw [hz0, List.getD_eq_getElem?_getD, h2]
      exact hlit u
    · cases hx

theorem os_mk {t e sz bytes : Nat} {z : Value} {lx cx : Operand} {kl kc : IntKind} {l c : Int} (ho : o.op = .makeSlice t lx cx) (hT : ElemT P t e sz bytes) (hz : zeroOf P e = some z) (hf : flatAll z = true)
    (hl : ρ lx = .lit (.int kl l)) (hc : ρ cx = .lit (.int kc c)) (h0 : 0 ≤ l) (h1 : l ≤ c) (hb : (bytes : Int) * c ≤ 281474976710656) (h63 : c ≤ 140737488355328) :
    OpS P o ρ nb M0 [] (.win nb 0 l.toNat) [] [.row e sz (List.replicate c.toNat (z.cells.toList.map .lit))] := by
  refine .make fun Γ D ι M w ac hS hV _ hn => ?_
  obtain ⟨i, zv, hi, hzv, hsz, hby, hzs⟩ := hT.info
  have hzz : zv = z := by unfold zeroOf at hz; simp [hi, hzv] at hz; exact hz
  subst hzz
  have e1 := (hl ▸ hV lx (by simp [ho, Op.operands])).lit_inv
  have e2 := (hc ▸ hV cx (by simp [ho, Op.operands])).lit_inv
  have hr := run_make (P := P) w t e i zv hT.und hi hzv kl kc l c h0 h1 (by rw [hby]; exact hb) (by omega)
  rw [hsz] at hr
  have hrun : (execOp ac.eval o).run P w = .ok (.value (.slice (some ⟨w.heap.size, 0, none⟩) l.toNat c.toNat)) (w.alloc (.cells (madeCells zv.cells (c.toNat * sz)) e)) := by
    simp only [execOp, ho, e1, e2, Sem.run_bind, hr, Result.andThen_ok, Sem.run_pure]
  refine ⟨⟨some w.heap.size, sz, c.toNat, c.toNat⟩, _, _, hrun, rfl, rfl, rfl, by simp, fun b hb => heap_alloc_old w _ hb, fun b hb => by simp at hb; omega, fun D' ι' hD hDn hι hιn => ⟨?_, ?_⟩⟩
  · exact made_OR (V := VR Γ.Im Γ.Bw D' ι' (w.alloc (.cells (madeCells zv.cells (_ * sz)) e))) (Vp := VP Γ.Im (w.alloc (.cells (madeCells zv.cells (_ * sz)) e))) (fun v => VP.lit v) hzs hT.pos hf (by simp [maxLen]; omega)
  · have := VR.win (Im := Γ.Im) (Bw := Γ.Bw) (D := D') (ι := ι') (w := w.alloc (.cells (madeCells zv.cells (c.toNat * sz)) e)) nb 0 l.toNat hDn (some ⟨w.heap.size, 0, none⟩) (by omega) (by rw [hιn]; show l.toNat ≤ c.toNat; omega) (by rw [hιn]; exact ⟨rfl, by show c.toNat ≤ maxLen; simp only [maxLen]; omega⟩)
      (fun h => by cases h) (fun ad h => by cases h; rfl) (fun _ => ⟨w.heap.size, by rw [hιn], by simp⟩)
    rw [hιn] at this
    simpa using this

theorem os_mkRow {t e sz bytes : Nat} {z : Value} {lx cx : Operand} {kl kc : IntKind} {l : Int} (ho : o.op = .makeSlice t lx cx) (hT : ElemT P t e sz bytes) (hz : zeroOf P e = some z) (hf : flatAll z = true)
    (hl : ρ lx = .lit (.int kl l)) (hc : ρ cx = .lit (.int kc l)) (h0 : 0 ≤ l) (hb : (bytes : Int) * l ≤ 281474976710656) (h63 : l ≤ 140737488355328) :
    OpS P o ρ nb M0 [] (.row nb) [] [.row e sz (List.replicate l.toNat (z.cells.toList.map .lit))] := by
  refine .make fun Γ D ι M w ac hS hV _ hn => ?_
  obtain ⟨i, zv, hi, hzv, hsz, hby, hzs⟩ := hT.info
  have hzz : zv = z := by unfold zeroOf at hz; simp [hi, hzv] at hz; exact hz
  subst hzz
  have e1 := (hl ▸ hV lx (by simp [ho, Op.operands])).lit_inv
  have e2 := (hc ▸ hV cx (by simp [ho, Op.operands])).lit_inv
  have hr := run_make (P := P) w t e i zv hT.und hi hzv kl kc l l h0 (Int.le_refl _) (by rw [hby]; exact hb) (by omega)
  rw [hsz] at hr
  have hrun : (execOp ac.eval o).run P w = .ok (.value (.slice (some ⟨w.heap.size, 0, none⟩) l.toNat l.toNat)) (w.alloc (.cells (madeCells zv.cells (l.toNat * sz)) e)) := by
    simp only [execOp, ho, e1, e2, Sem.run_bind, hr, Result.andThen_ok, Sem.run_pure]
  refine ⟨⟨some w.heap.size, sz, l.toNat, l.toNat⟩, _, _, hrun, rfl, rfl, rfl, by simp, fun b hb => heap_alloc_old w _ hb, fun b hb => by simp at hb; omega, fun D' ι' hD hDn hι hιn => ⟨?_, ?_⟩⟩
  · exact made_OR (V := VR Γ.Im Γ.Bw D' ι' (w.alloc (.cells (madeCells zv.cells (_ * sz)) e))) (Vp := VP Γ.Im (w.alloc (.cells (madeCells zv.cells (_ * sz)) e))) (fun v => VP.lit v) hzs hT.pos hf (by simp [maxLen]; omega)
  · have := VR.row (Im := Γ.Im) (Bw := Γ.Bw) (D := D') (ι := ι') (w := w.alloc (.cells (madeCells zv.cells (l.toNat * sz)) e)) nb hDn
    rw [hιn] at this
    simpa using this

/-! What writes into one object, and yields a value. -/

theorem OpS.wr {g : GV} {ids : List Nat} {id : Nat} {ob : GO} (hid : M0 id ≠ .dead) (hin : id ∈ ids)
    (h : ∀ (Γ : Ctx) (D : Nat → Prop) (ι : Nat → Hd) (M : Nat → GO) (w : World) (a : Act), SR Γ D ι M w →
      (∀ x, x ∈ o.op.operands → VR Γ.Im Γ.Bw D ι w (ρ x) (a.eval x)) → (∀ id, id ∈ ids → M id = M0 id) →
      ∃ (v' : Value) (w' : World), ((execOp a.eval o).run P w = .ok (.value v') w') ∧ w'.os = w.os ∧ w'.tape = w.tape ∧ w'.output = w.output ∧
        w.heap.size ≤ w'.heap.size ∧ (∀ b, (ι id).A ≠ some b → w'.heap[b]? = w.heap[b]?) ∧
        ((∀ g v, VR Γ.Im Γ.Bw D ι w g v → VR Γ.Im Γ.Bw D ι w' g v) → (∀ g v, VP Γ.Im w g v → VP Γ.Im w' g v) → OR (VR Γ.Im Γ.Bw D ι w') (VP Γ.Im w') w' (ι id) ob ∧ VR Γ.Im Γ.Bw D ι w' g v')) : OpS P o ρ nb M0 ids g [(id, ob)] [] := by
  intro Γ D ι M w a K Q hS hV hM _ hk
  have hMi := hM id hin
  obtain ⟨v', w', hr, h1, h2, h3, h4, h5, h6⟩ := h Γ D ι M w a hS hV hM
  have hld : M id ≠ .dead := by rw [hMi]; exact hid
  have hkp : Keep Γ w w' := ⟨h1, h2, h3, h4, fun b hb => h5 b fun e => hS.own id b hld e hb⟩
  have hVR : ∀ g v, VR Γ.Im Γ.Bw D ι w g v → VR Γ.Im Γ.Bw D ι w' g v := fun g v hv =>
    hv.mono (fun _ h => h) (fun _ h => h) (fun _ h => h) (fun _ _ => rfl) fun b hb => hkp.block b (hb.elim .inl fun x => .inr (.inl x))
  obtain ⟨h7, h8⟩ := h6 hVR fun g v hv => hv.mono (fun _ h => h) fun b hb => hkp.block b (.inl hb)
  have := hk Γ.Im ι v' w' hkp (fun _ h => h) (fun _ _ => rfl)
  rw [updF_one, dom_nil] at this
  unfold Oper.wp
  rw [hr]
  exact this (hS.put hld h4 (fun b hb _ => h5 b hb) h7) h8

/-- Cells laid over others, element by element. -/
theorem spl_rel {V : GV → Value → Prop} {sz hi : Nat} {xs ys : List (List GV)} {cs news : List Value} (hz : ∀ x, x ∈ xs → x.length = sz) (hzy : ∀ y, y ∈ ys → y.length = sz) (hcs : cs.length = xs.length * sz) (hns : news.length = ys.length * sz)
    (hfit : hi + ys.length ≤ xs.length)
    (h1 : ∀ (i j : Nat) x g, xs[i]? = some x → x[j]? = some g → V g (cs.getD (i * sz + j) undef)) (h2 : ∀ (i j : Nat) y g, ys[i]? = some y → y[j]? = some g → V g (news.getD (i * sz + j) undef)) :
    ∀ (i j : Nat) x g, (spl xs hi ys)[i]? = some x → x[j]? = some g → V g ((spl cs (hi * sz) news).getD (i * sz + j) undef) := by
  have hfit2 : hi * sz + news.length ≤ cs.length := by rw [hcs, hns, ← Nat.add_mul]; exact Nat.mul_le_mul_right _ hfit
  intro i j x g hx hg
  rw [spl_get xs hi ys hfit] at hx
  rw [List.getD_eq_getElem?_getD, spl_get cs (hi * sz) news hfit2]
  split at hx
  · rename_i hc
    have hxl := hzy x (List.mem_of_getElem? hx)
    have hj : j < sz := by rw [← hxl]; exact (List.getElem?_eq_some_iff.1 hg).1
    have h3 : hi * sz ≤ i * sz := Nat.mul_le_mul_right _ hc.1
    have h4 : i * sz + j < (hi + ys.length) * sz := grid_lt hc.2 hj
    rw [Nat.add_mul, ← hns] at h4
    rw [if_pos ⟨by omega, h4⟩, show i * sz + j - hi * sz = (i - hi) * sz + j by rw [Nat.sub_mul]; omega, ← List.getD_eq_getElem?_getD]
    exact h2 _ _ x g hx hg
  · rename_i hc
    have hxl := hz x (List.mem_of_getElem? hx)
    have hj : j < sz := by rw [← hxl]; exact (List.getElem?_eq_some_iff.1 hg).1
    rw [if_neg, ← List.getD_eq_getElem?_getD]
    · exact h1 i j x g hx hg
    · intro hh
      apply hc
      have h4 : i * sz + j < (hi + ys.length) * sz := by rw [Nat.add_mul, ← hns]; exact hh.2
      constructor
      · rcases Nat.lt_or_ge i hi with h | h
        · have : i * sz + j < hi * sz := grid_lt h hj
          omega
        · exact h
      · rcases Nat.lt_or_ge i (hi + ys.length) with h | h
        · exact h
        · have : (hi + ys.length) * sz ≤ i * sz := Nat.mul_le_mul_right _ h
          omega

theorem spl_mem {α : Type} {xs ys : List α} {hi : Nat} {x : α} (h : x ∈ spl xs hi ys) : x ∈ xs ∨ x ∈ ys := by
  unfold spl at h
  rcases List.mem_append.1 h with h | h
  · rcases List.mem_append.1 h with h | h
    · exact .inl (List.mem_of_mem_take h)
    · exact .inr h
  · exact .inl (List.mem_of_mem_drop h)

/-- 'append' in place. -/
theorem os_append_fit {t e sz bytes : Nat} (hT : ElemT P t e sz bytes) {x y : Operand} {id hi : Nat} {xs ys : List (List GV)}
    (ho : o.op = .call { callee := .builtin .append, args := #[x, y], argTypes := #[t, t] }) (hx : ρ x = .win id 0 hi) (hM0 : M0 id = .row e sz xs) (hy : srcOf M0 sz (ρ y) = some ys)
    (hfit : hi + ys.length ≤ xs.length) (hne : 0 < xs.length) :
    OpS P o ρ nb M0 (id :: gid (ρ y)) (.win id 0 (hi + ys.length)) [(id, .row e sz (spl xs hi ys))] [] := by
  obtain ⟨i, z, hi1, hi2, hi3, hi4, hi5⟩ := hT.info
  refine OpS.wr (by rw [hM0]; simp) (by simp) fun Γ D ι M w ac hS hV hM => ?_
  have hMi := hM id (by simp)
  have hob := hS.obj id
  rw [hMi, hM0] at hob
  obtain ⟨⟨e0, hspf⟩, e1, hz, cs, hown, hcf, hrel⟩ := hob
  obtain ⟨hD, _, hhn, hcn, A, hv, hA, hsp, hb⟩ := (hx ▸ hV x (by simp [ho, Op.operands, Call.operands])).win_inv
  obtain ⟨A', c', news, hsr⟩ := srcOf_sound hT.pos hy Γ D ι M w _ hS (hV y (by simp [ho, Op.operands, Call.operands])) (fun i hi => hM i (by simp [hi]))
  obtain ⟨b, hb1, hb2⟩ := hb (by omega)
  rw [Nat.zero_mul] at hb2
  rcases hown.2 with ⟨hh, hh2⟩ | ⟨g, cap, cur, hh, _, hg, hnc, hcm, hcs, htake⟩
  · omega
  · simp only [Hd.val, hb1, Option.map_some, Value.slice.injEq, Option.some.injEq, Addr.mk.injEq, and_true] at hh
    obtain ⟨rfl, hh2, hh3⟩ := hh
    have hcap : cap = xs.length := by omega
    subst hcap
    have hcur : cur.toList = cs := by rw [← htake, List.take_of_length_le (by simp [hcs])]
    have hfit2 : hi * sz + news.length ≤ cur.size := by rw [hsr.len, hcs, ← Nat.add_mul]; exact Nat.mul_le_mul_right _ hfit
    have hrun : (Builtin.append_ #[t, t] o.type #[ac.eval x, ac.eval y]).run P w = .ok (.slice (some ⟨b, 0, none⟩) (hi + ys.length) xs.length) (bif ys.isEmpty then w else w.setRow b (spl cur.toList (hi * sz) news).toArray) := by
      rw [hv, hb2, hsr.val]
      have hn0 : (ι id).n - 0 = xs.length := by omega
      rw [hn0, Nat.sub_zero]
      cases A' with
      | none =>
        obtain ⟨h0, h00⟩ := hsr.nil rfl
        have hy0 : ys = [] := List.eq_nil_of_length_eq_zero h0
        subst hy0
        simp [Builtin.append_, run_underlying hT.und, sizeOf, typeInfo, hi1, Builtin.lenOf, hhn, h00, Builtin.firstCells, storeCells, show hi ≤ xs.length by omega]
      | some a =>
        have hnews : ∀ j u, news[j]? = some u → w.cell? (a.add j) = some u := fun j u hu => by
          obtain ⟨a', ha, h⟩ := hsr.cell j u hu
          cases ha; exact h
        have := run_append_room (P := P) (w := w) t o.type e i hT.und hi1 b hi xs.length cur hg a ys.length c' news (by rw [hi3]; exact hsr.len) hnews (fun u hu => flat_oneCell (hsr.flt u hu)) hfit (by rw [hi3]; exact hfit2)
        rw [this, hi3]
        cases ys with
        | nil =>
          have hn : news = [] := List.eq_nil_of_length_eq_zero (by simpa using hsr.len)
          subst hn
          simp only [List.isEmpty_nil, cond_true, List.append_nil, List.length_nil, Nat.add_zero, List.take_append_drop, Array.toArray_toList]
          rw [setRow_self w b cur e (0, 0) hg]
        | cons y ys => rfl
    refine ⟨.slice (some ⟨b, 0, none⟩) (hi + ys.length) xs.length, (bif ys.isEmpty then w else w.setRow b (spl cur.toList (hi * sz) news).toArray), ?_, ?_⟩
    · obtain ⟨cc, hrc⟩ := run_call_builtin (P := P) (w := w) (a := ac) ho
      rw [hrc]
      simp only [List.map_toArray, List.map_cons, List.map_nil, builtin, Sem.run_bind, hrun, Result.andThen_ok, Sem.run_pure]
    · have hcsl : cs.length = xs.length * sz := hown.1
      have hw' : (bif ys.isEmpty then w else w.setRow b (spl cur.toList (hi * sz) news).toArray).heap[b]? = some (.cells (spl cs (hi * sz) news).toArray e (0, 0)) := by
        cases ys with
        | nil =>
          have hn : news = [] := List.eq_nil_of_length_eq_zero (by simpa using hsr.len)
          subst hn
          simp only [List.isEmpty_nil, cond_true, hg, spl, List.append_nil, List.length_nil, Nat.add_zero, List.take_append_drop, ← hcur, Array.toArray_toList]
        | cons y ys =>
          simp only [List.isEmpty_cons, cond_false, hcur]
          exact setRow_heap w b cur _ e _ hg
      have hsplL : (spl xs hi ys).length = xs.length := spl_length xs hi ys hfit
      have hsplC : (spl cs (hi * sz) news).length = cs.length := spl_length cs _ _ (by rw [hcsl, hsr.len, ← Nat.add_mul]; exact Nat.mul_le_mul_right _ hfit)
      refine ⟨by cases ys.isEmpty <;> rfl, by cases ys.isEmpty <;> rfl, by cases ys.isEmpty <;> rfl, by cases ys.isEmpty <;> simp [World.setRow], fun k hk => ?_, fun hVR hVP => ⟨⟨⟨e0, fun b2 arr2 t2 hb2 hg2 v2 hv2 => ?_⟩, by rw [hsplL]; exact e1, fun x hx => ?_, spl cs (hi * sz) news, ?_, fun v hv => ?_, ?_⟩, ?_⟩⟩
      · rw [hb1] at hk
        cases ys.isEmpty
        · exact setRow_other w b k _ fun h => hk (by rw [h])
        · rfl
      · obtain rfl : b = b2 := Option.some.inj (hb1.symm.trans hb2)
        rw [hw'] at hg2
        cases hg2
        rcases spl_mem (by simpa using hv2) with h | h
        · exact hcf v2 h
        · exact hsr.flt v2 h
      · exact (spl_mem hx).elim (hz x) (hsr.esz x)
      · refine ⟨by rw [hsplC, hsplL]; exact hcsl, .inr ⟨b, xs.length, _, ?_, Nat.zero_le _, hw', by rw [hsplL]; exact Nat.le_refl _, hcm, by simp [hsplC, hcsl], ?_⟩⟩
        · rw [hsplL]
          simp only [Hd.val, hb1, Option.map_some, Value.slice.injEq, true_and]
          omega
        · rw [hsplL, List.take_of_length_le (by simp [hsplC, hcsl])]
      · exact (spl_mem hv).elim (hcf v) (hsr.flt v)
      · exact spl_rel hz hsr.esz hcsl hsr.len hfit (fun i j x g hx hg => hVP _ _ (hrel i j x g hx hg)) fun i j y g hy hg => hVP _ _ (hsr.rel i j y g hy hg)
      · have := VR.win (Im := Γ.Im) (Bw := Γ.Bw) (D := D) (ι := ι) (w := (bif ys.isEmpty then w else w.setRow b (spl cur.toList (hi * sz) news).toArray)) id 0 (hi + ys.length) hD (some ⟨b, 0, none⟩) (by omega) (by omega) hcn (fun h => by cases h) (fun ad h => by cases h; rfl) (fun _ => ⟨b, hb1, by simp⟩)
        rwa [show (ι id).n - 0 = xs.length by omega, Nat.sub_zero] at this

end
end Go.Gh


/-! Steps that no code takes: a nil slice taken as a row, a row read alone from now on, what is forgotten. -/

namespace Go.Gh
variable {P : Program}

/-- What is held of the same state, told another way. -/
def GS (m : Nat) (σ : List GV) (M : List GO) (K : List GV → List GO → Prop) : Prop :=
  ∀ (Γ : Ctx) (ι : Nat → Hd) (w : World) (a : Act), m ≤ M.length → SR Γ (· < M.length) ι (getM M) w → SL Γ (· < M.length) ι w σ a →
    ∃ (σ' : List GV) (M' : List GO) (Im' : Nat → Prop) (ι' : Nat → Hd), K σ' M' ∧ (∀ b, Γ.Im b → Im' b) ∧ (∀ i, i < m → ι' i = ι i) ∧ m ≤ M'.length ∧
      SR ⟨Im', Γ.Bw, Γ.Fz⟩ (· < M'.length) ι' (getM M') w ∧ SL ⟨Im', Γ.Bw, Γ.Fz⟩ (· < M'.length) ι' w σ' a

section
variable {m : Nat} {σ : List GV} {M : List GO} {K K' : List GV → List GO → Prop} {R R' : Exit → List GV → List GO → Prop}

theorem GS.refl (h : K σ M) : GS m σ M K := fun Γ ι _w _a hm hS hL => ⟨σ, M, Γ.Im, ι, h, fun _ h => h, fun _ _ => rfl, hm, hS, hL⟩

theorem GS.bind (h : GS m σ M K) (hk : ∀ σ' M', K σ' M' → GS m σ' M' K') : GS m σ M K' := by
  intro Γ ι w a hm hS hL
  obtain ⟨σ1, M1, Im1, ι1, h1, h2, h3, h4, h5, h6⟩ := h Γ ι w a hm hS hL
  obtain ⟨σ2, M2, Im2, ι2, k1, k2, k3, k4, k5, k6⟩ := hk σ1 M1 h1 ⟨Im1, Γ.Bw, Γ.Fz⟩ ι1 w a h4 h5 h6
  exact ⟨σ2, M2, Im2, ι2, k1, fun b hb => k2 b (h2 b hb), fun i hi => (k3 i hi).trans (h3 i hi), k4, k5, k6⟩

theorem CS.ghost {c : Code} (h : GS m σ M fun σ' M' => CS P m c σ' M' R) : CS P m c σ M R := by
  intro Γ ι w a Q hm hS hL hd hk
  obtain ⟨σ1, M1, Im1, ι1, h1, h2, h3, h4, h5, h6⟩ := h Γ ι w a hm hS hL
  refine h1 _ ι1 w a Q h4 h5 h6 hd fun e σ' M' Im' ι' w' a' k0 k1 k2 k3 k4 k5 k6 k7 => ?_
  exact hk e σ' M' Im' ι' w' a' k0 (keep_frz h2 k1) (fun b hb => k2 b (h2 b hb)) (fun i hi => (k3 i hi).trans (h3 i hi)) k4 k5 k6 k7

theorem CS.monoG {c : Code} (h : CS P m c σ M R') (hR : ∀ e σ' M', R' e σ' M' → GS m σ' M' (R e)) : CS P m c σ M R := by
  intro Γ ι w a Q hm hS hL hd hk
  refine h Γ ι w a Q hm hS hL hd fun e σ' M' Im' ι' w' a' h0 h1 h2 h3 h4 h5 h6 h7 => ?_
  obtain ⟨σ1, M1, Im1, ι1, k1, k2, k3, k4, k5, k6⟩ := hR e σ' M' h0 ⟨Im', Γ.Bw, Γ.Fz⟩ ι' w' a' h4 h5 h6
  exact hk e σ1 M1 Im1 ι1 w' a' k1 h1 (fun b hb => k2 b (h2 b hb)) (fun i hi => (k3 i hi).trans (h3 i hi)) k4 k5 k6 h7

/-- A nil slice, taken as a row. -/
theorem GS.adopt (e sz t : Nat) (hσ : nthG σ t = some (.lit (.slice none 0 0))) (h : GS m (σ.set t (.row M.length)) (M ++ [.row e sz []]) K) : GS m σ M K := by
  intro Γ ι w a hm hS hL
  have hlen : (M ++ [GO.row e sz []]).length = M.length + 1 := by simp
  have hS' := adopt_SR hS e sz
  have hv := (hL.2 t _ (nthG_ok hσ)).lit_inv
  have hL' : SL Γ (· < (M ++ [GO.row e sz []]).length) (fun i => if i = M.length then ⟨none, sz, 0, 0⟩ else ι i) w (σ.set t (.row M.length)) a := by
    refine (hL.mono (Γ' := Γ) (fun _ h => h) (fun _ h => h) (fun i hi => by show i < _; rw [hlen]; have : i < M.length := hi; omega) (fun i hi => if_neg (by have : i < M.length := hi; omega)) (fun _ _ => rfl)).set t ?_
    rw [hv]
    have := VR.row (Im := Γ.Im) (Bw := Γ.Bw) (D := (· < (M ++ [GO.row e sz []]).length)) (ι := fun i => if i = M.length then ⟨none, sz, 0, 0⟩ else ι i) (w := w) M.length (by show M.length < _; omega)
    simpa using this
  obtain ⟨σ1, M1, Im1, ι1, h1, h2, h3, h4, h5, h6⟩ := h Γ _ w a (by omega) hS' hL'
  exact ⟨σ1, M1, Im1, ι1, h1, h2, fun i hi => by rw [h3 i hi, if_neg (by omega)], h4, h5, h6⟩

/-- A nil slice within an object, taken as a row. -/
theorem GS.adoptO (e sz id j : Nat) {cs : List GV} (hM : getM M id = .cells cs) (hc : nthG cs j = some (.lit (.slice none 0 0))) (h : GS m σ (M.set id (.cells (cs.set j (.row M.length))) ++ [.row e sz []]) K) : GS m σ M K := by
  intro Γ ι w a hm hS hL
  have hlen : (M ++ [GO.row e sz []]).length = M.length + 1 := by simp
  have hid : id < M.length := hS.liv id (by rw [hM]; simp)
  have hS' := adopt_SR hS e sz
  have hL' : SL Γ (· < (M ++ [GO.row e sz []]).length) (fun i => if i = M.length then ⟨none, sz, 0, 0⟩ else ι i) w σ a :=
    hL.mono (Γ' := Γ) (fun _ h => h) (fun _ h => h) (fun i hi => by show i < _; rw [hlen]; have : i < M.length := hi; omega) (fun i hi => if_neg (by have : i < M.length := hi; omega)) (fun _ _ => rfl)
  have hob := hS'.obj id
  have hgm : getM (M ++ [GO.row e sz []]) id = .cells cs := by rw [getM_append, if_neg (by omega), hM]
  rw [hgm] at hob
  obtain ⟨h0, b, arr, t, h1, h2, h3, hf, h4⟩ := hob
  have hjl : j < cs.length := (List.getElem?_eq_some_iff.1 (nthG_ok hc)).1
  have hput := hS'.put (id := id) (o := .cells (cs.set j (.row M.length))) (w' := w) (by rw [hgm]; simp) (Nat.le_refl _) (fun _ _ _ => rfl)
    ⟨h0, b, arr, t, h1, h2, by rw [List.length_set]; exact h3, hf, fun j' g hg => by
      by_cases e' : j = j'
      · subst e'
        rw [List.getElem?_set_self hjl] at hg
        cases hg
        have hv := (h4 j _ (nthG_ok hc)).lit_inv
        rw [hv]
        have := VR.row (Im := Γ.Im) (Bw := Γ.Bw) (D := (· < (M ++ [GO.row e sz []]).length)) (ι := fun i => if i = M.length then ⟨none, sz, 0, 0⟩ else ι i) (w := w) M.length (by show M.length < _; omega)
        simpa using this
      · rw [List.getElem?_set_ne e'] at hg
        exact h4 j' g hg⟩
  have hMe : setF (getM (M ++ [GO.row e sz []])) id (.cells (cs.set j (.row M.length))) = getM (M.set id (.cells (cs.set j (.row M.length))) ++ [.row e sz []]) := by
    funext i
    rw [getM_append, List.length_set]
    unfold setF
    rw [getM_append]
    by_cases e1 : i = id
    · subst e1
      rw [if_pos rfl, if_neg (by omega)]
      simp [getM, hid]
    · rw [if_neg e1]
      split
      · rfl
      · unfold getM
        rw [List.getD_eq_getElem?_getD, List.getD_eq_getElem?_getD, List.getElem?_set_ne (Ne.symm e1)]
  rw [hMe] at hput
  have hlen2 : (M.set id (.cells (cs.set j (.row M.length))) ++ [GO.row e sz []]).length = (M ++ [GO.row e sz []]).length := by simp
  obtain ⟨σ1, M1, Im1, ι1, k1, k2, k3, k4, k5, k6⟩ := h Γ _ w a (by rw [hlen2, hlen]; omega) (by rw [hlen2]; exact hput) (by rw [hlen2]; exact hL')
  exact ⟨σ1, M1, Im1, ι1, k1, k2, fun i hi => by rw [k3 i hi, if_neg (by omega)], k4, k5, k6⟩

/-- A row that is read alone from now on. -/
theorem GS.frz (t : Nat) {id e sz : Nat} {xs : List (List GV)} (hσ : nthG σ t = some (.row id)) (hM : getM M id = .row e sz xs)
    (h : GS m (σ.set t (.sl false sz xs [])) (M.set id .dead) K) : GS m σ M K := by
  intro Γ ι w a hm hS hL
  have hid : id < M.length := hS.liv id (by rw [hM]; simp)
  have hL' : SL ⟨fun b => Γ.Im b ∨ (ι id).A = some b, Γ.Bw, Γ.Fz⟩ (· < (M.set id .dead).length) ι w (σ.set t (.sl false sz xs [])) a :=
    (hL.mono (Γ' := ⟨fun b => Γ.Im b ∨ (ι id).A = some b, Γ.Bw, Γ.Fz⟩) (fun _ => .inl) (fun _ h => h) (fun i hi => by show i < _; rw [List.length_set]; exact hi) (fun _ _ => rfl) (fun _ _ => rfl)).set t (.imm (frz_VI hS hM (hL.2 t _ (nthG_ok hσ))))
  obtain ⟨σ1, M1, Im1, ι1, h1, h2, h3, h4, h5, h6⟩ := h _ ι w a (by rw [List.length_set]; exact hm) (frz_SR hS hM) hL'
  exact ⟨σ1, M1, Im1, ι1, h1, fun b hb => h2 b (.inl hb), h3, h4, h5, h6⟩

/-- .. and a window, with what stands behind it. -/
theorem GS.frzW (t : Nat) {id e sz hi : Nat} {xs : List (List GV)} (hσ : nthG σ t = some (.win id 0 hi)) (hM : getM M id = .row e sz xs) (hh : hi ≤ xs.length)
    (h : GS m (σ.set t (.sl false sz (xs.take hi) (xs.drop hi))) (M.set id .dead) K) : GS m σ M K := by
  intro Γ ι w a hm hS hL
  have hid : id < M.length := hS.liv id (by rw [hM]; simp)
  have hV := hL.2 t _ (nthG_ok hσ)
  have hob := hS.obj id
  rw [hM] at hob
  obtain ⟨e0, e1, _⟩ := row_cases hob
  obtain ⟨hD, _, hhn, hcn, A, hv, hA, hsp, hb⟩ := hV.win_inv
  have hrow : VR Γ.Im Γ.Bw (· < M.length) ι w (.row id) (ι id).val := .row id hD
  have hvi := frz_VI hS hM hrow
  have hvi2 : VI (fun b => Γ.Im b ∨ (ι id).A = some b) Γ.Bw w (.sl false sz (xs.take hi) (xs.drop hi)) (a.tmps.getD t undef) := by
    rw [hv]
    unfold Hd.val at hvi
    generalize hAA : (ι id).A.map (fun b => (⟨b, 0, none⟩ : Addr)) = A' at hvi
    rw [e1, hcn.1] at hvi
    cases hvi with
    | sl bw sz xs ex A c V hc hA2 hs hsz hcell hf hv2 =>
      have e2 : hi - 0 = (xs.take hi).length := by simp; omega
      rw [e2, e1, Nat.sub_zero]
      have htd : xs.take hi ++ xs.drop hi = xs ++ [] := by rw [List.take_append_drop, List.append_nil]
      refine .sl false sz _ _ _ _ V ⟨by rw [← List.length_append, List.take_append_drop]; exact Nat.le_refl _, by have := hcn.2; omega⟩ (fun hn => by have := hA hn; omega) (fun ad ha => .inl (hsp ad ha)) (by rw [htd]; exact hsz) (fun i j x g hx hg => ?_) (by rw [htd]; exact hf) (by rw [htd]; exact hv2)
      rw [htd] at hx
      obtain ⟨ad, a1, a2, a3⟩ := hcell i j x g hx hg
      obtain ⟨b, b1, b2⟩ := hb (by rw [List.append_nil] at hx; have := (List.getElem?_eq_some_iff.1 hx).1; omega)
      rw [b1] at hAA
      simp only [Option.map_some] at hAA
      rw [← hAA] at a1
      cases a1
      exact ⟨_, b2, a2, by simpa using a3⟩
  have hL' : SL ⟨fun b => Γ.Im b ∨ (ι id).A = some b, Γ.Bw, Γ.Fz⟩ (· < (M.set id .dead).length) ι w (σ.set t (.sl false sz (xs.take hi) (xs.drop hi))) a :=
    (hL.mono (Γ' := ⟨fun b => Γ.Im b ∨ (ι id).A = some b, Γ.Bw, Γ.Fz⟩) (fun _ => .inl) (fun _ h => h) (fun i hi => by show i < _; rw [List.length_set]; exact hi) (fun _ _ => rfl) (fun _ _ => rfl)).set t (.imm hvi2)
  obtain ⟨σ1, M1, Im1, ι1, h1, h2, h3, h4, h5, h6⟩ := h _ ι w a (by rw [List.length_set]; exact hm) (frz_SR hS hM) hL'
  exact ⟨σ1, M1, Im1, ι1, h1, fun b hb => h2 b (.inl hb), h3, h4, h5, h6⟩

/-- A nil slice is one that is read alone. -/
theorem GS.nilS (t sz : Nat) (bw : Bool) (hσ : nthG σ t = some (.lit (.slice none 0 0))) (h : GS m (σ.set t (.sl bw sz [] [])) M K) : GS m σ M K := by
  intro Γ ι w a hm hS hL
  have hv := (hL.2 t _ (nthG_ok hσ)).lit_inv
  refine h Γ ι w a hm hS (hL.set t ?_)
  rw [hv]
  exact .imm (.sl bw sz [] [] none 0 (fun _ _ => undef) (by simp) (fun _ => rfl) (fun _ h => by cases h) (fun x h => by simp at h) (fun i j x g h => by simp at h) (fun i j x g h => by simp at h) (fun i j x g h => by simp at h))

/-- An operand is told less of. -/
theorem GS.forget (t : Nat) (h : GS m (σ.set t .any) M K) : GS m σ M K := fun Γ ι w a hm hS hL => h Γ ι w a hm hS (hL.set t (.imm (.any _)))

theorem GS.norm (keep : List Nat) (mask : List Bool) (hn : keep.Nodup) (hp : pins m keep = true) (h : GS m (nslM keep mask σ) (nobjs keep M) K) : GS m σ M K := by
  intro Γ ι w a hm hS hL
  have hlen : (nobjs keep M).length = keep.length := by simp [nobjs]
  have hmk : m ≤ keep.length := by
    rcases Nat.eq_zero_or_pos m with h0 | h0
    · omega
    · have := (pins_get hp (i := m - 1) (by omega)).1; omega
  rw [← nslM_ok] at h
  obtain ⟨σ1, M1, Im1, ι1, h1, h2, h3, h4, h5, h6⟩ := h Γ _ w a (by omega) (norm_SR hS hn) (by have := norm_SL hL keep (liveOf mask); rw [← hlen] at this; exact this)
  refine ⟨σ1, M1, Im1, ι1, h1, h2, fun i hi => ?_, h4, h5, h6⟩
  rw [h3 i hi]
  show ι (keep.getD i 0) = ι i
  rw [(pins_get hp hi).2]

end

theorem FS.enterG {f : FuncId} {fn : Func} {c : Code} {args : List GV} {M M' : List GO} {r : GV} (hf : P.funcs[f]? = some fn) (hb : fn.body = some c)
    (h : ∀ R0, (∀ e σ M1, GS M.length σ M1 (retR P fn M.length r M' e) → R0 e σ M1) → CS P M.length c (args ++ List.replicate (fn.ntmps - args.length) .any) M R0) : FS P f args M r M' :=
  FS_enter hf hb (CS.monoG (h (fun e σ M1 => GS M.length σ M1 (retR P fn M.length r M' e)) fun _ _ _ h => h) fun _ _ _ h => h)

/-! What a function takes, told another way. -/

/-- Whatever is so, is so. -/
def GLe (g g' : GV) : Prop := ∀ (Im Bw D : Nat → Prop) (ι : Nat → Hd) (w : World) (v : Value), VR Im Bw D ι w g v → VR Im Bw D ι w g' v

inductive GLeL : List GV → List GV → Prop
  | nil : GLeL [] []
  | cons {g g' l l'} (h : GLe g g') (r : GLeL l l') : GLeL (g :: l) (g' :: l')

theorem GLe.refl (g : GV) : GLe g g := fun _ _ _ _ _ _ h => h
theorem GLe.nilS (bw : Bool) (sz : Nat) : GLe (.lit (.slice none 0 0)) (.sl bw sz [] []) := fun Im Bw D ι w v h => by
  rw [h.lit_inv]
  exact .imm (.sl bw sz [] [] none 0 (fun _ _ => undef) (by simp) (fun _ => rfl) (fun _ h => by cases h) (fun x h => by simp at h) (fun i j x g h => by simp at h) (fun i j x g h => by simp at h) (fun i j x g h => by simp at h))
theorem GLe.any (g : GV) : GLe g .any := fun _ _ _ _ _ v _ => .imm (.any v)
theorem GLe.ex (bw : Bool) (sz : Nat) (xs ex : List (List GV)) : GLe (.sl bw sz xs ex) (.sl bw sz xs []) := fun Im Bw D ι w v h => by
  obtain ⟨A, c, V, rfl, hc, hA, hs, hl, hcell⟩ := h.sl_inv
  have hin : ∀ (i : Nat) (x : List GV), (xs ++ [])[i]? = some x → (xs ++ ex)[i]? = some x := fun i x hx => by
    rw [List.append_nil] at hx
    rw [List.getElem?_append_left (List.getElem?_eq_some_iff.1 hx).1]; exact hx
  exact .imm (.sl bw sz xs [] A c V (by simp; omega) hA (fun ad ha => (hs ad ha).imp id fun h => by rw [List.append_nil]; cases xs <;> simp_all)
    (fun x hx => hl x (List.mem_append_left _ (by simpa using hx))) (fun i j x g hx hg => by obtain ⟨ad, a1, a2, a3, _⟩ := hcell i j x g (hin i x hx) hg; exact ⟨ad, a1, a2, a3⟩)
    (fun i j x g hx hg => by obtain ⟨ad, a1, a2, a3, a4, a5⟩ := hcell i j x g (hin i x hx) hg; exact a4) (fun i j x g hx hg => by obtain ⟨ad, a1, a2, a3, a4, a5⟩ := hcell i j x g (hin i x hx) hg; exact a5))

theorem GLeL.get {l l' : List GV} (h : GLeL l l') : l.length = l'.length ∧ ∀ (i : Nat) g', l'[i]? = some g' → ∃ g, l[i]? = some g ∧ GLe g g' := by
  induction h with
  | nil => exact ⟨rfl, fun i g h => by simp at h⟩
  | cons h r ih =>
    refine ⟨by simp [ih.1], fun i g' hg => ?_⟩
    cases i with
    | zero => simp at hg; subst hg; exact ⟨_, by simp, h⟩
    | succ i => obtain ⟨g, h1, h2⟩ := ih.2 i g' (by simpa using hg); exact ⟨g, by simpa using h1, h2⟩

theorem FS.le {f : FuncId} {args args' : List GV} {M M' : List GO} {r : GV} (h : FS P f args' M r M') (hl : GLeL args args') : FS P f args M r M' := by
  constructor
  intro Γ ι w as hS hsz hV
  obtain ⟨h1, h2⟩ := hl.get
  refine h.run Γ ι w as hS (by omega) fun i g hg => ?_
  obtain ⟨g0, h3, h4⟩ := h2 i g hg
  exact h4 _ _ _ _ _ _ (hV i g0 h3)

end Go.Gh


/-! Rules for the walk: parts of slices, strings, rows made, what is appended in place. -/

namespace Go.Gh
variable {P : Program}
section
variable (T : Tab P) {ds : List (Option Tmp)} {o : Oper} {rest : List Oper} {σ σ' : List GV} {M M' : List GO} {tr : List RI} {K : List GV → List GO → List RI → Prop}

/-- Which rules may do. -/
def opk : Op → Nat
  | .slice .. => 1
  | .indexAddr .. => 2
  | .buildSlice .. => 3
  | .convert .. => 4
  | .makeSlice .. => 5
  | .binOp .quo .. => 6
  | .binOp .rem .. => 7
  | .binOp .shl .. => 8
  | .binOp .shr .. => 9
  | .call { callee := .builtin .append, .. } => 10
  | .call { callee := .value _, .. } => 11
  | .call { callee := .builtin .copy, .. } => 12
  | .call { callee := .builtin .clear, .. } => 13
  | .call { callee := .builtin .cap, .. } => 14
  | _ => 0

def calls (σ : List GV) : Op → Option FuncId
  | .call { callee := .value c, .. } => (calleeG (rhoOf σ c)).map (·.1)
  | _ => none

theorem TW.kd (k : Nat) (_hk : opk o.op = k) (h : TW P ds (o :: rest) σ M tr K) : TW P ds (o :: rest) σ M tr K := h
theorem TW.kc (f : Nat) (_hk : calls σ o.op = some f) (h : TW P ds (o :: rest) σ M tr K) : TW P ds (o :: rest) σ M tr K := h

theorem TW.cs {t e sz : Nat} {x : Operand} {lo hi mx : Option Operand} {bw : Bool} {xs ex : List (List GV)} {l h : Int} (ho : o.op = .slice t x lo hi mx) (hg : o.guard = none) (hx : rhoOf σ x = .sl bw sz xs ex) (ht : T.u t = some (.slice e)) (hsz : T.sz e = sz) (hpos : T.sz e ≠ 0)
    (hl : bndG (rhoOf σ) 0 lo = some l) (hh : bndG (rhoOf σ) xs.length hi = some h) (hhm : (hi.isSome || mx.isNone) = true) (hm : mxG (rhoOf σ) h xs.length mx) (h0 : 0 ≤ l) (h1 : l ≤ h) (h2 : h ≤ xs.length) (hp : putS σ o.dst (.sl bw sz ((xs.take h.toNat).drop l.toNat) []) = σ')
    (hk : TW P ds rest σ' M (tr ++ [⟨o.dst, [], [], M.length, 0⟩]) K) : TW P ds (o :: rest) σ M tr K := by
  subst hp
  exact TW.rd hg (os_cut_sl ho (T.uok _ _ ht) (by rw [T.szok _ hpos]; exact hsz) (by omega) hx hl hh hm (fun h => by subst h; simpa using hhm) h0 h1 h2) hk

theorem TW.ce {t e sz : Nat} {x : Operand} {lo hi : Option Operand} {bw : Bool} {xs ex : List (List GV)} {l h : Int} (ho : o.op = .slice t x lo hi none) (hg : o.guard = none) (hx : rhoOf σ x = .sl bw sz xs ex) (ht : T.u t = some (.slice e)) (hsz : T.sz e = sz) (hpos : T.sz e ≠ 0)
    (hl : bndG (rhoOf σ) 0 lo = some l) (hh : bndG (rhoOf σ) xs.length hi = some h) (h0 : 0 ≤ l) (h1 : l ≤ h) (h2 : h ≤ (xs ++ ex).length) (hp : putS σ o.dst (.sl bw sz (((xs ++ ex).take h.toNat).drop l.toNat) ((xs ++ ex).drop h.toNat)) = σ')
    (hk : TW P ds rest σ' M (tr ++ [⟨o.dst, [], [], M.length, 0⟩]) K) : TW P ds (o :: rest) σ M tr K := by
  subst hp
  exact TW.rd hg (os_cut_ex ho (T.uok _ _ ht) (by rw [T.szok _ hpos]; exact hsz) (by omega) hx hl hh h0 h1 h2) hk

theorem TW.cr {t e sz id e' : Nat} {x : Operand} {lo hi mx : Option Operand} {xs : List (List GV)} {l h : Int} (ho : o.op = .slice t x lo hi mx) (hg : o.guard = none) (hx : rhoOf σ x = .row id) (hM : getM M id = .row e' sz xs) (ht : T.u t = some (.slice e)) (hsz : T.sz e = sz) (hpos : T.sz e ≠ 0)
    (hl : bndG (rhoOf σ) 0 lo = some l) (hh : bndG (rhoOf σ) xs.length hi = some h) (hhm : (hi.isSome || mx.isNone) = true) (hm : mxG (rhoOf σ) h xs.length mx) (h0 : 0 ≤ l) (h1 : l ≤ h) (h2 : h ≤ xs.length) (hp : putS σ o.dst (.sub id l.toNat h.toNat) = σ')
    (hk : TW P ds rest σ' M (tr ++ [⟨o.dst, [id], [], M.length, 0⟩]) K) : TW P ds (o :: rest) σ M tr K := by
  subst hp
  exact TW.rd hg (os_cut_row ho (T.uok _ _ ht) (T.szok _ hpos) hsz (by omega) hx hM hl hh hm (fun h => by subst h; simpa using hhm) h0 h1 h2) hk

theorem TW.cb {t e sz id e' a b : Nat} {x : Operand} {lo hi mx : Option Operand} {xs : List (List GV)} {l h : Int} (ho : o.op = .slice t x lo hi mx) (hg : o.guard = none) (hx : rhoOf σ x = .sub id a b) (hM : getM M id = .row e' sz xs) (ht : T.u t = some (.slice e)) (hsz : T.sz e = sz) (hpos : T.sz e ≠ 0)
    (hl : bndG (rhoOf σ) 0 lo = some l) (hh : bndG (rhoOf σ) ((b - a : Nat) : Int) hi = some h) (hhm : (hi.isSome || mx.isNone) = true) (hm : mxG (rhoOf σ) h (b - a) mx) (h0 : 0 ≤ l) (h1 : l ≤ h) (h2 : h ≤ (b - a : Nat)) (hp : putS σ o.dst (.sub id (a + l.toNat) (a + h.toNat)) = σ')
    (hk : TW P ds rest σ' M (tr ++ [⟨o.dst, [id], [], M.length, 0⟩]) K) : TW P ds (o :: rest) σ M tr K := by
  subst hp
  exact TW.rd hg (os_cut_sub ho (T.uok _ _ ht) (T.szok _ hpos) hsz (by omega) hx hM hl hh hm (fun h => by subst h; simpa using hhm) h0 h1 h2) hk

theorem TW.cw {t e sz id e' a b : Nat} {x : Operand} {lo hi : Option Operand} {xs : List (List GV)} {l h : Int} (ho : o.op = .slice t x lo hi none) (hg : o.guard = none) (hx : rhoOf σ x = .win id a b) (hM : getM M id = .row e' sz xs) (ht : T.u t = some (.slice e)) (hsz : T.sz e = sz) (hpos : T.sz e ≠ 0)
    (hl : bndG (rhoOf σ) 0 lo = some l) (hh : bndG (rhoOf σ) ((b - a : Nat) : Int) hi = some h) (h0 : 0 ≤ l) (h1 : l ≤ h) (h2 : h ≤ (xs.length - a : Nat)) (hp : putS σ o.dst (.win id (a + l.toNat) (a + h.toNat)) = σ')
    (hk : TW P ds rest σ' M (tr ++ [⟨o.dst, [id], [], M.length, 0⟩]) K) : TW P ds (o :: rest) σ M tr K := by
  subst hp
  exact TW.rd hg (os_cut_win ho (T.uok _ _ ht) (T.szok _ hpos) hsz (by omega) hx hM hl hh h0 h1 h2) hk

theorem TW.sr {src dst e : Nat} {x : Operand} {xs : List (List GV)} {l : List Int} (ho : o.op = .convert src dst x) (hg : o.guard = none) (hs : T.u src = some (.slice e)) (he : T.u e = some (.int .u8)) (hd : T.u dst = some .string)
    (hx : srcOf (getM M) 1 (rhoOf σ x) = some xs) (hb : gbytes xs = some l) (hp : putS σ o.dst (.lit (.string (strOf l))) = σ')
    (hk : TW P ds rest σ' M (tr ++ [⟨o.dst, gid (rhoOf σ x), [], M.length, 0⟩]) K) : TW P ds (o :: rest) σ M tr K := by
  subst hp
  exact TW.rd hg (os_str ho (T.uok _ _ hs) (T.uok _ _ he) (T.uok _ _ hd) hx hb) hk

theorem TW.mw {t e sz bytes : Nat} {z : Value} {lx cx : Operand} {kl kc : IntKind} {l c : Int} (ho : o.op = .makeSlice t lx cx) (hg : o.guard = none) (hT : elemTT T t = some (e, sz, bytes)) (hz : T.z e = some z) (hf : flatAll z = true)
    (hl : rhoOf σ lx = .lit (.int kl l)) (hc : rhoOf σ cx = .lit (.int kc c)) (h0 : 0 ≤ l ∧ l ≤ c ∧ (bytes : Int) * c ≤ 281474976710656 ∧ c ≤ 140737488355328) (hp : putS σ o.dst (.win M.length 0 l.toNat) = σ') (hM : M ++ [.row e sz (List.replicate c.toNat (z.cells.toList.map .lit))] = M')
    (hk : TW P ds rest σ' M' (tr ++ [⟨o.dst, [], [], M.length, 1⟩]) K) : TW P ds (o :: rest) σ M tr K := by
  subst hp; subst hM
  exact TW.step (by unfold gwantD; rw [hg]) (os_mk ho (elemTT_ok T hT) (T.zok _ _ hz) hf hl hc h0.1 h0.2.1 h0.2.2.1 h0.2.2.2) (by simp) hk

theorem TW.mr {t e sz bytes : Nat} {z : Value} {lx cx : Operand} {kl kc : IntKind} {l : Int} (ho : o.op = .makeSlice t lx cx) (hg : o.guard = none) (hT : elemTT T t = some (e, sz, bytes)) (hz : T.z e = some z) (hf : flatAll z = true)
    (hl : rhoOf σ lx = .lit (.int kl l)) (hc : rhoOf σ cx = .lit (.int kc l)) (h0 : 0 ≤ l ∧ (bytes : Int) * l ≤ 281474976710656 ∧ l ≤ 140737488355328) (hp : putS σ o.dst (.row M.length) = σ') (hM : M ++ [.row e sz (List.replicate l.toNat (z.cells.toList.map .lit))] = M')
    (hk : TW P ds rest σ' M' (tr ++ [⟨o.dst, [], [], M.length, 1⟩]) K) : TW P ds (o :: rest) σ M tr K := by
  subst hp; subst hM
  exact TW.step (by unfold gwantD; rw [hg]) (os_mkRow ho (elemTT_ok T hT) (T.zok _ _ hz) hf hl hc h0.1 h0.2.1 h0.2.2) (by simp) hk

theorem TW.af {t e sz bytes id hi : Nat} {x y : Operand} {xs ys : List (List GV)} (ho : o.op = .call { callee := .builtin .append, args := #[x, y], argTypes := #[t, t] }) (hg : o.guard = none) (hT : elemTT T t = some (e, sz, bytes))
    (hx : rhoOf σ x = .win id 0 hi) (hid : id < M.length) (hMi : getM M id = .row e sz xs) (hy : srcOf (getM M) sz (rhoOf σ y) = some ys) (hb : hi + ys.length ≤ xs.length ∧ 0 < xs.length)
    (hp : putS σ o.dst (.win id 0 (hi + ys.length)) = σ') (hM : M.set id (.row e sz (spl xs hi ys)) = M')
    (hk : TW P ds rest σ' M' (tr ++ [⟨o.dst, id :: gid (rhoOf σ y), [id], M.length, 0⟩]) K) : TW P ds (o :: rest) σ M tr K := by
  subst hp; subst hM
  refine TW.step (by unfold gwantD; rw [hg]) (os_append_fit (elemTT_ok T hT) ho hx hMi hy hb.1 hb.2) (fun x hx => by simp at hx; subst hx; exact hid) ?_
  rw [updA_ok (nd1 _ _)]
  simpa [updA] using hk

/-- 'append' onto a row, or onto nothing: elements of at most 1024 bytes. -/
theorem TW.an' {t e sz bytes : Nat} {x y : Operand} {ys : List (List GV)} (ho : o.op = .call { callee := .builtin .append, args := #[x, y], argTypes := #[t, t] }) (hg : o.guard = none) (hT : elemTT T t = some (e, sz, bytes)) (hB : Nat.ble bytes 1024 = true)
    (hx : rhoOf σ x = .lit (.slice none 0 0)) (hy : srcOf (getM M) sz (rhoOf σ y) = some ys) (hb : ys.length ≤ 137438953472) (hp : putS σ o.dst (.row M.length) = σ') (hM : M ++ [.row e sz ys] = M')
    (h : TW P ds rest σ' M' (tr ++ [⟨o.dst, gid (rhoOf σ y), [], M.length, 1⟩]) K) : TW P ds (o :: rest) σ M tr K := by
  have hB := Nat.le_of_ble_eq_true hB
  refine TW.an T ho hg hT hx hy ⟨?_, by omega⟩ hp hM h
  calc ys.length * bytes ≤ 137438953472 * 1024 := Nat.mul_le_mul hb hB
    _ ≤ 140737488355328 := by decide

theorem TW.ar' {t e sz bytes : Nat} {x y : Operand} {id : Nat} {xs ys : List (List GV)} (ho : o.op = .call { callee := .builtin .append, args := #[x, y], argTypes := #[t, t] }) (hg : o.guard = none) (hT : elemTT T t = some (e, sz, bytes)) (hB : Nat.ble bytes 1024 = true)
    (hx : rhoOf σ x = .row id) (hid : Nat.ble (id + 1) M.length = true) (hMi : getM M id = .row e sz xs) (hy : srcOf (getM M) sz (rhoOf σ y) = some ys) (hb : xs.length + ys.length ≤ 137438953472)
    (hp : putS σ o.dst (.row M.length) = σ') (hM : M.set id .dead ++ [.row e sz (xs ++ ys)] = M')
    (h : TW P ds rest σ' M' (tr ++ [⟨o.dst, id :: gid (rhoOf σ y), [id], M.length, 1⟩]) K) : TW P ds (o :: rest) σ M tr K := by
  have hB := Nat.le_of_ble_eq_true hB
  refine TW.ar T ho hg hT hx (Nat.le_of_ble_eq_true hid) hMi hy ⟨?_, by omega⟩ hp (by rw [updA_ok (nd1 _ _)]; exact hM) h
  calc (xs.length + ys.length) * bytes ≤ 137438953472 * 1024 := Nat.mul_le_mul hb hB
    _ ≤ 140737488355328 := by decide

theorem TW.mw' {t e sz bytes : Nat} {z : Value} {lx cx : Operand} {kl kc : IntKind} {l c : Int} (ho : o.op = .makeSlice t lx cx) (hg : o.guard = none) (hT : elemTT T t = some (e, sz, bytes)) (hB : Nat.ble bytes 1024 = true) (hz : T.z e = some z) (hf : flatAll z = true)
    (hl : rhoOf σ lx = .lit (.int kl l)) (hc : rhoOf σ cx = .lit (.int kc c)) (h0 : 0 ≤ l) (h1 : l ≤ c) (h2 : c ≤ 137438953472) (hp : putS σ o.dst (.win M.length 0 l.toNat) = σ') (hM : M ++ [.row e sz (List.replicate c.toNat (z.cells.toList.map .lit))] = M')
    (hk : TW P ds rest σ' M' (tr ++ [⟨o.dst, [], [], M.length, 1⟩]) K) : TW P ds (o :: rest) σ M tr K := by
  have hB := Nat.le_of_ble_eq_true hB
  have : (bytes : Int) * c ≤ 1024 * 137438953472 := Int.mul_le_mul (by omega) h2 (by omega) (by decide)
  exact TW.mw T ho hg hT hz hf hl hc ⟨h0, h1, by omega, by omega⟩ hp hM hk

theorem TW.mr' {t e sz bytes : Nat} {z : Value} {lx cx : Operand} {kl kc : IntKind} {l : Int} (ho : o.op = .makeSlice t lx cx) (hg : o.guard = none) (hT : elemTT T t = some (e, sz, bytes)) (hB : Nat.ble bytes 1024 = true) (hz : T.z e = some z) (hf : flatAll z = true)
    (hl : rhoOf σ lx = .lit (.int kl l)) (hc : rhoOf σ cx = .lit (.int kc l)) (h0 : 0 ≤ l) (h2 : l ≤ 137438953472) (hp : putS σ o.dst (.row M.length) = σ') (hM : M ++ [.row e sz (List.replicate l.toNat (z.cells.toList.map .lit))] = M')
    (hk : TW P ds rest σ' M' (tr ++ [⟨o.dst, [], [], M.length, 1⟩]) K) : TW P ds (o :: rest) σ M tr K := by
  have hB := Nat.le_of_ble_eq_true hB
  have : (bytes : Int) * l ≤ 1024 * 137438953472 := Int.mul_le_mul (by omega) h2 (by omega) (by decide)
  exact TW.mr T ho hg hT hz hf hl hc ⟨h0, by omega, by omega⟩ hp hM hk

theorem TW.dq {t yt : TypeId} {x y : Operand} {k : IntKind} {a b : Int} (ho : o.op = .binOp .quo t x y yt) (hg : o.guard = none) (hx : rhoOf σ x = .lit (.int k a)) (hy : rhoOf σ y = .lit (.int k b)) (hb : b ≠ 0) (hp : putS σ o.dst (.lit (.int k (k.wrap (a.tdiv b)))) = σ')
    (h : TW P ds rest σ' M (tr ++ [⟨o.dst, [], [], M.length, 0⟩]) K) : TW P ds (o :: rest) σ M tr K := TW.bd ho hg hx hy (.inl ⟨rfl, rfl⟩) hb hp h

theorem TW.dr {t yt : TypeId} {x y : Operand} {k : IntKind} {a b : Int} (ho : o.op = .binOp .rem t x y yt) (hg : o.guard = none) (hx : rhoOf σ x = .lit (.int k a)) (hy : rhoOf σ y = .lit (.int k b)) (hb : b ≠ 0) (hp : putS σ o.dst (.lit (.int k (a.tmod b))) = σ')
    (h : TW P ds rest σ' M (tr ++ [⟨o.dst, [], [], M.length, 0⟩]) K) : TW P ds (o :: rest) σ M tr K := TW.bd ho hg hx hy (.inr ⟨rfl, rfl⟩) hb hp h

theorem TW.dl {t yt : TypeId} {x y : Operand} {k k' : IntKind} {a b : Int} (ho : o.op = .binOp .shl t x y yt) (hg : o.guard = none) (hx : rhoOf σ x = .lit (.int k a)) (hy : rhoOf σ y = .lit (.int k' b)) (hb : 0 ≤ b) (hp : putS σ o.dst (.lit (.int k (k.wrap (a * 2 ^ (min b.toNat k.bits))))) = σ')
    (h : TW P ds rest σ' M (tr ++ [⟨o.dst, [], [], M.length, 0⟩]) K) : TW P ds (o :: rest) σ M tr K := TW.sh ho hg hx hy (.inl ⟨rfl, rfl⟩) hb hp h

theorem TW.de {t yt : TypeId} {x y : Operand} {k k' : IntKind} {a b : Int} (ho : o.op = .binOp .shr t x y yt) (hg : o.guard = none) (hx : rhoOf σ x = .lit (.int k a)) (hy : rhoOf σ y = .lit (.int k' b)) (hb : 0 ≤ b) (hp : putS σ o.dst (.lit (.int k (a.fdiv (2 ^ (min b.toNat k.bits))))) = σ')
    (h : TW P ds rest σ' M (tr ++ [⟨o.dst, [], [], M.length, 0⟩]) K) : TW P ds (o :: rest) σ M tr K := TW.sh ho hg hx hy (.inr ⟨rfl, rfl⟩) hb hp h

end

/-! A function's results, by the table. -/

def gres1T {P : Program} (T : Tab P) (σ : List GV) (M : List GO) : ResultVar → Option GV
  | .tmp t => some (σ.getD t .any)
  | .cell t ty => match σ.getD t .any with
    | .adr id i j => (cellsAt (getM M id) i).bind fun cs => ldvT T ty (cs.drop j)
    | _ => none

def gresLT {P : Program} (T : Tab P) (σ : List GV) (M : List GO) : List ResultVar → Option (List GV)
  | [] => some []
  | r :: l => (gres1T T σ M r).bind fun g => (gresLT T σ M l).map fun x => g :: x

def gresT {P : Program} (T : Tab P) (σ : List GV) (M : List GO) (rs : List ResultVar) : Option GV :=
  (gresLT T σ M rs).map fun l => match l with | [g] => g | l => .tup l

theorem gres1T_ok {P : Program} (T : Tab P) {σ : List GV} {M : List GO} {r : ResultVar} {g : GV} (h : gres1T T σ M r = some g) : gres1 P σ M r = some g := by
  cases r with
  | tmp t => exact h
  | cell t ty =>
    simp only [gres1T] at h
    simp only [gres1]
    split at h
    · obtain ⟨cs, hc, hl⟩ := Option.bind_eq_some_iff.1 h
      rename_i heq
      simp only [heq, hc, Option.bind_some]
      exact ldvT_ok hl
    · cases h

theorem gresLT_ok {P : Program} (T : Tab P) {σ : List GV} {M : List GO} : ∀ {rs : List ResultVar} {gs : List GV}, gresLT T σ M rs = some gs → gresL P σ M rs = some gs
  | [], gs, h => h
  | r :: l, gs, h => by
    simp only [gresLT] at h
    obtain ⟨g, hg, h⟩ := Option.bind_eq_some_iff.1 h
    obtain ⟨x, hx, rfl⟩ := Option.map_eq_some_iff.1 h
    simp only [gresL, gres1T_ok T hg, gresLT_ok T hx, Option.bind_some, Option.map_some]

theorem gresT_ok {P : Program} (T : Tab P) {σ : List GV} {M : List GO} {rs : List ResultVar} {g : GV} (h : gresT T σ M rs = some g) : gres P σ M rs = some g := by
  unfold gresT at h
  obtain ⟨l, hl, rfl⟩ := Option.map_eq_some_iff.1 h
  unfold gres
  rw [gresLT_ok T hl]; rfl

theorem map_at {α : Type} {f : α → List GV} {l : List α} {i : Nat} (h : i < l.length) : (l.map f)[(i : Int).toNat]? = some (f l[i]) := by
  rw [Int.toNat_natCast, List.getElem?_map, List.getElem?_eq_getElem h]; rfl

theorem int_lt {i n : Nat} (h : i < n) : decide ((i : Int) < (n : Int)) = true := decide_eq_true (by omega)
theorem int_nlt {i n : Nat} (h : ¬ i < n) : decide ((i : Int) < (n : Int)) = false := decide_eq_false (by omega)
theorem drop_at {α : Type} {l : List α} {i : Nat} (h : i < l.length) : l.drop i = l[i] :: l.drop (i + 1) := List.drop_eq_getElem_cons h
theorem drop_end {α : Type} {l : List α} {i : Nat} (h : ¬ i < l.length) : l.drop i = [] := List.drop_eq_nil_of_le (by omega)

/-- At a loop's head. -/
def CSH (P : Program) (m : Nat) (c : Code) (σ : List GV) (M : List GO) (R : Exit → List GV → List GO → Prop) : Prop :=
  ∀ (Γ : Ctx) (ι : Nat → Hd) (w : World) (a : Act) (Q : Exit → Act → World → Prop), m ≤ M.length → SR Γ (· < M.length) ι (getM M) w → SL Γ (· < M.length) ι w σ a → a.defers = [] →
    (∀ (e : Exit) (σ' : List GV) (M' : List GO) (Im' : Nat → Prop) (ι' : Nat → Hd) (w' : World) (a' : Act), R e σ' M' → Keep Γ w w' → (∀ b, Γ.Im b → Im' b) → (∀ i, i < m → ι' i = ι i) → m ≤ M'.length →
      SR ⟨Im', Γ.Bw, Γ.Fz⟩ (· < M'.length) ι' (getM M') w' → SL ⟨Im', Γ.Bw, Γ.Fz⟩ (· < M'.length) ι' w' σ' a' → a'.defers = [] → Q e a' w') → HeadWp P c Q a w

theorem CS.ofH {m : Nat} {c : Code} {σ : List GV} {M : List GO} {R : Exit → List GV → List GO → Prop} (h : CSH P m c σ M R) : CS P m (.loop c) σ M R :=
  fun Γ ι w a Q hm hS hL hd hk => wp_loop_head (h Γ ι w a Q hm hS hL hd hk)

/-- One round. -/
theorem CSH.step {m : Nat} {c : Code} {σ : List GV} {M : List GO} {R : Exit → List GV → List GO → Prop}
    (h : ∀ K : List GV → List GO → Prop, (∀ σ' M', CSH P m c σ' M' R → K σ' M') → CS P m c σ M (thenR K R)) : CSH P m c σ M R := by
  intro Γ ι w a Q hm hS hL hd hk
  refine HeadWp_of (h (fun σ' M' => CSH P m c σ' M' R) (fun _ _ h => h) Γ ι w a _ hm hS hL hd fun e σ' M' Im' ι' w' a' hr h1 h2 h3 h4 h5 h6 h7 => ?_)
  cases e with
  | normal =>
    refine hr ⟨Im', Γ.Bw, Γ.Fz⟩ ι' w' a' Q h4 h5 h6 h7 fun e σ'' M'' Im'' ι'' w'' a'' k0 k1 k2 k3 k4 k5 k6 k7 => ?_
    exact hk e σ'' M'' Im'' ι'' w'' a'' k0 (keep_trans h1 h2 k1) (fun b hb => k2 b (h2 b hb)) (fun i hi => (k3 i hi).trans (h3 i hi)) k4 k5 k6 k7
  | exit id => exact hk _ σ' M' Im' ι' w' a' hr h1 h2 h3 h4 h5 h6 h7
  | goto l => exact hk _ σ' M' Im' ι' w' a' hr h1 h2 h3 h4 h5 h6 h7
  | ret => exact hk _ σ' M' Im' ι' w' a' hr h1 h2 h3 h4 h5 h6 h7
  | panic ch => exact hk _ σ' M' Im' ι' w' a' hr h1 h2 h3 h4 h5 h6 h7
  | outgrown => exact hk _ σ' M' Im' ι' w' a' hr h1 h2 h3 h4 h5 h6 h7

end Go.Gh


/-! More steps that no code takes: an object's number changed; a row within an object read alone from now on. -/

namespace Go.Gh
variable {P : Program} {m : Nat} {σ : List GV} {M : List GO} {K : List GV → List GO → Prop}

/-- An object gets a number of its own, behind all others. -/
theorem GS.mv (id : Nat) (hid : Nat.ble (id + 1) M.length = true)
    (h : GS m (renL (fun i => if i = id then M.length else i) σ) ((M.map (renO fun i => if i = id then M.length else i)).set id .dead ++ [renO (fun i => if i = id then M.length else i) (getM M id)]) K) : GS m σ M K := by
  have hid := Nat.le_of_ble_eq_true hid
  intro Γ ι w a hm hS hL
  obtain ⟨f, hf⟩ : ∃ f : Nat → Nat, f = fun i => if i = id then M.length else i := ⟨_, rfl⟩
  rw [← hf] at h
  have hlen : ((M.map (renO f)).set id .dead ++ [renO f (getM M id)]).length = M.length + 1 := by simp
  have hget : ∀ i, getM ((M.map (renO f)).set id .dead ++ [renO f (getM M id)]) i = if i = M.length then renO f (getM M id) else if i = id then .dead else renO f (getM M i) := fun i => by
    rw [getM_append]
    rw [List.length_set, List.length_map]
    split
    · rfl
    · rw [getM_set _ _ (by rw [List.length_map]; omega)]
      split
      · rfl
      · unfold getM
        rw [List.getD_eq_getElem?_getD, List.getD_eq_getElem?_getD, List.getElem?_map]
        cases M[i]? <;> rfl
  have hfi : ∀ i, i < M.length → f i < M.length + 1 ∧ (if f i = M.length then ι id else ι (f i)) = ι i := fun i hi => by
    rw [hf]; simp only
    by_cases e : i = id
    · subst e; rw [if_pos rfl, if_pos rfl]; exact ⟨by omega, rfl⟩
    · rw [if_neg e, if_neg (by omega)]; exact ⟨by omega, rfl⟩
  have hVR : ∀ g v, VR Γ.Im Γ.Bw (· < M.length) ι w g v → VR Γ.Im Γ.Bw (· < M.length + 1) (fun i => if i = M.length then ι id else ι i) w (ren f g) v := fun g v hv => hv.ren hfi
  have hdead : ∀ i, renO f (getM M i) ≠ .dead → getM M i ≠ .dead := fun i h1 h2 => h1 (by rw [h2]; rfl)
  have halive : ∀ i, getM ((M.map (renO f)).set id .dead ++ [renO f (getM M id)]) i ≠ .dead → ∃ j, getM M j ≠ .dead ∧ (if i = M.length then ι id else ι i) = ι j ∧ ((i = M.length ∧ j = id) ∨ (i ≠ M.length ∧ i = j ∧ j ≠ id)) := fun i hi => by
    rw [hget] at hi
    split at hi
    · rename_i e; exact ⟨id, hdead _ hi, by rw [if_pos e], .inl ⟨e, rfl⟩⟩
    · rename_i e
      split at hi
      · exact absurd rfl hi
      · rename_i e2; exact ⟨i, hdead _ hi, by rw [if_neg e], .inr ⟨e, rfl, e2⟩⟩
  have hS' : SR Γ (· < ((M.map (renO f)).set id .dead ++ [renO f (getM M id)]).length) (fun i => if i = M.length then ι id else ι i) (getM ((M.map (renO f)).set id .dead ++ [renO f (getM M id)])) w := by
    rw [hlen]
    refine ⟨fun i => ?_, fun i hi => ?_, fun i j b hi hj ei ej => ?_, hS.lt, fun i b hi ei => ?_, hS.dj⟩
    · rw [hget]
      split
      · rename_i e; subst e
        have := (hS.obj id).ren (f := f) hVR
        simpa using this
      · split
        · trivial
        · rename_i e e2
          have := (hS.obj i).ren (f := f) hVR
          simpa [e] using this
    · obtain ⟨j, h1, _, h3⟩ := halive i hi
      have := hS.liv j h1
      omega
    · obtain ⟨i', h1, h2, h3⟩ := halive i hi
      obtain ⟨j', k1, k2, k3⟩ := halive j hj
      have ei : (if i = M.length then ι id else ι i).A = some b := ei
      have ej : (if j = M.length then ι id else ι j).A = some b := ej
      rw [h2] at ei
      rw [k2] at ej
      have := hS.inj i' j' b h1 k1 ei ej
      omega
    · obtain ⟨j, h1, h2, _⟩ := halive i hi
      have ei : (if i = M.length then ι id else ι i).A = some b := ei
      rw [h2] at ei
      exact hS.own j b h1 ei
  have hL' : SL Γ (· < ((M.map (renO f)).set id .dead ++ [renO f (getM M id)]).length) (fun i => if i = M.length then ι id else ι i) w (renL f σ) a := by
    rw [hlen]
    refine ⟨by rw [renL_length]; exact hL.1, fun t g hg => ?_⟩
    rw [renL_get] at hg
    obtain ⟨x, hx, rfl⟩ := Option.map_eq_some_iff.1 hg
    exact hVR _ _ (hL.2 t x hx)
  obtain ⟨σ1, M1, Im1, ι1, k1, k2, k3, k4, k5, k6⟩ := h Γ _ w a (by rw [hlen]; omega) hS' hL'
  exact ⟨σ1, M1, Im1, ι1, k1, k2, fun i hi => by rw [k3 i hi, if_neg (by omega)], k4, k5, k6⟩

/-- A row that an object's cell tells of is read alone from now on. -/
theorem GS.frzO (id j : Nat) {r e sz : Nat} {xs : List (List GV)} {cs : List GV} (hM : getM M id = .cells cs) (hc : nthG cs j = some (.row r)) (hr : getM M r = .row e sz xs)
    (h : GS m σ ((M.set r .dead).set id (.cells (cs.set j (.sl false sz xs [])))) K) : GS m σ M K := by
  intro Γ ι w a hm hS hL
  have hne : r ≠ id := fun e1 => by rw [e1, hM] at hr; cases hr
  have hrl : r < M.length := hS.liv r (by rw [hr]; simp)
  have hil : id < M.length := hS.liv id (by rw [hM]; simp)
  have hjl : j < cs.length := (List.getElem?_eq_some_iff.1 (nthG_ok hc)).1
  have hob := hS.obj id
  rw [hM] at hob
  obtain ⟨h0, b, arr, t, h1, h2, h3, hf, h4⟩ := hob
  have hvi := frz_VI hS hr (h4 j _ (nthG_ok hc))
  have hS1 := frz_SR hS hr
  have hg1 : getM (M.set r .dead) id = .cells cs := by rw [getM_set _ _ hrl, if_neg (Ne.symm hne), hM]
  have hput := hS1.put (id := id) (o := .cells (cs.set j (.sl false sz xs []))) (w' := w) (by rw [hg1]; simp) (Nat.le_refl _) (fun _ _ _ => rfl)
    ⟨h0, b, arr, t, h1, h2, by rw [List.length_set]; exact h3, hf, fun j' g hg => by
      by_cases e' : j = j'
      · subst e'
        rw [List.getElem?_set_self hjl] at hg
        cases hg
        exact .imm hvi
      · rw [List.getElem?_set_ne e'] at hg
        exact (h4 j' g hg).mono (fun _ => .inl) (fun _ h => h) (fun i hi => by show i < _; rw [List.length_set]; exact hi) (fun _ _ => rfl) (fun _ _ => rfl)⟩
  have hMe : setF (getM (M.set r .dead)) id (.cells (cs.set j (.sl false sz xs []))) = getM ((M.set r .dead).set id (.cells (cs.set j (.sl false sz xs [])))) := by
    funext i
    unfold setF getM
    rw [List.getD_eq_getElem?_getD, List.getD_eq_getElem?_getD]
    by_cases e1 : i = id
    · subst e1; rw [if_pos rfl, List.getElem?_set_self (by simpa using hil)]; rfl
    · rw [if_neg e1, List.getElem?_set_ne (Ne.symm e1)]
  rw [hMe] at hput
  have hlen : ((M.set r .dead).set id (.cells (cs.set j (.sl false sz xs [])))).length = M.length := by simp
  have hput' : SR ⟨fun b => Γ.Im b ∨ (ι r).A = some b, Γ.Bw, Γ.Fz⟩ (· < ((M.set r .dead).set id (.cells (cs.set j (.sl false sz xs [])))).length) ι (getM ((M.set r .dead).set id (.cells (cs.set j (.sl false sz xs []))))) w := by
    rw [hlen]; rw [List.length_set] at hput; exact hput
  obtain ⟨σ1, M1, Im1, ι1, k1, k2, k3, k4, k5, k6⟩ := h _ ι w a (by rw [hlen]; exact hm) hput' (by rw [hlen]; exact hL.mono (Γ' := ⟨fun b => Γ.Im b ∨ (ι r).A = some b, Γ.Bw, Γ.Fz⟩) (fun _ => .inl) (fun _ h => h) (fun _ h => h) (fun _ _ => rfl) (fun _ _ => rfl))
  exact ⟨σ1, M1, Im1, ι1, k1, fun b hb => k2 b (.inl hb), k3, k4, k5, k6⟩

end Go.Gh


/-! Contracts told from another state; calls whose objects are found by themselves. -/

namespace Go.Gh
variable {P : Program}

theorem FS.ghost {f : FuncId} {args : List GV} {M N : List GO} {r : GV} (h : GS M.length args M fun σ' M' => FS P f σ' M' r N ∧ σ'.length = args.length) : FS P f args M r N := by
  constructor
  intro Γ ι w as hS hsz hV
  obtain ⟨σ', M', Im', ι', ⟨h1, hl⟩, h2, h3, h4, h5, h6⟩ := h Γ ι w ⟨as, []⟩ (Nat.le_refl _) hS ⟨hsz, hV⟩
  refine (h1.run ⟨Im', Γ.Bw, Γ.Fz⟩ ι' w as h5 (by rw [hl]; exact hsz) h6.2).mono fun e w' hw => ?_
  obtain ⟨v, Im2, ι2, he, k1, k2, k3, k4, k5⟩ := hw
  exact ⟨v, Im2, ι2, he, keep_frz h2 k1, fun b hb => k2 b (h2 b hb), fun i hi => (k3 i (by omega)).trans (h3 i hi), k4, k5⟩

/-- What is read cell by cell, as a list of one's own. -/
theorem exMap {α : Type} {enc : α → List GV} {p : α → Prop} : ∀ {xs : List (List GV)}, (∀ x, x ∈ xs → ∃ a, x = enc a ∧ p a) → ∃ l : List α, xs = l.map enc ∧ ∀ a, a ∈ l → p a
  | [], _ => ⟨[], rfl, fun a h => by simp at h⟩
  | x :: xs, h => by
    obtain ⟨a, rfl, ha⟩ := h x (List.mem_cons_self ..)
    obtain ⟨l, rfl, hl⟩ := exMap (xs := xs) fun y hy => h y (List.mem_cons_of_mem _ hy)
    refine ⟨a :: l, rfl, fun b hb => ?_⟩
    rcases List.mem_cons.1 hb with rfl | hb
    · exact ha
    · exact hl b hb

/-- The object that a call's first operand tells of. -/
def argId (ρ : Rho) : Op → Option Nat
  | .call { callee := .value _, args := xs, .. } => match xs.toList with
    | x :: _ => match ρ x with
      | .adr id _ _ => some id
      | _ => none
    | _ => none
  | _ => none

def refL : List GV → Option Nat
  | [] => none
  | .row id :: _ => some id
  | _ :: l => refL l

def refId : GO → Option Nat
  | .cells cs => refL cs
  | _ => none

section
variable (T : Tab P) {ds : List (Option Tmp)} {o : Oper} {rest : List Oper} {σ σ' : List GV} {M M' : List GO} {tr : List RI} {K : List GV → List GO → List RI → Prop}

theorem TW.co2 {f : FuncId} {c : Operand} {xs : Array Operand} {ts : Array TypeId} {caps args : List GV} {r : GV} {N Mc : List GO} {a b : Nat} (_h1 : argId (rhoOf σ) o.op = some a) (_h2 : refId (getM M a) = some b)
    (ho : o.op = .call { callee := .value c, args := xs, argTypes := ts }) (hg : o.guard = none)
    (hc : calleeG (rhoOf σ c) = some (f, caps)) (hf : T.fn f = true) (hnd : Nat.beq a b = false) (hlv : [a, b].all (fun id => decide (id < M.length) && (match getM M id with | .dead => false | _ => true) && ginO [a, b] (getM M id)) = true)
    (ha : lendAll (getM M) [a, b] (xs.toList.map (rhoOf σ) ++ caps) = some args) (hMc : ([a, b].map fun id => renO ([a, b].idxOf ·) (getM M id)) = Mc) (hF : FS P f args Mc r N) (hlen : Nat.ble 2 N.length = true) (hnb : nobw r = true) (hnN : N.all nobwO = true)
    (hp : putS σ o.dst (ren (upN [a, b] M.length) r) = σ') (hM : updA M ([a, b].zip ((N.take 2).map (renO (upN [a, b] M.length)))) ((N.drop 2).map (renO (upN [a, b] M.length))) = M')
    (h : TW P ds rest σ' M' (tr ++ [⟨o.dst, [a, b] ++ borAll [a, b] (xs.toList.map (rhoOf σ) ++ caps), ([a, b].zip ((N.take 2).map (renO (upN [a, b] M.length)))).map (·.1), M.length, ((N.drop 2).map (renO (upN [a, b] M.length))).length⟩]) K) : TW P ds (o :: rest) σ M tr K :=
  TW.cn T [a, b] ho hg hc hf (by simp; intro e; subst e; simp at hnd) hlv ha hMc hF (Nat.le_of_ble_eq_true hlen) hnb hnN hp hM h

theorem TW.co1 {f : FuncId} {c : Operand} {xs : Array Operand} {ts : Array TypeId} {caps args : List GV} {r : GV} {N Mc : List GO} {a : Nat} (_h1 : argId (rhoOf σ) o.op = some a)
    (ho : o.op = .call { callee := .value c, args := xs, argTypes := ts }) (hg : o.guard = none)
    (hc : calleeG (rhoOf σ c) = some (f, caps)) (hf : T.fn f = true) (hlv : [a].all (fun id => decide (id < M.length) && (match getM M id with | .dead => false | _ => true) && ginO [a] (getM M id)) = true)
    (ha : lendAll (getM M) [a] (xs.toList.map (rhoOf σ) ++ caps) = some args) (hMc : ([a].map fun id => renO ([a].idxOf ·) (getM M id)) = Mc) (hF : FS P f args Mc r N) (hlen : Nat.ble 1 N.length = true) (hnb : nobw r = true) (hnN : N.all nobwO = true)
    (hp : putS σ o.dst (ren (upN [a] M.length) r) = σ') (hM : updA M ([a].zip ((N.take 1).map (renO (upN [a] M.length)))) ((N.drop 1).map (renO (upN [a] M.length))) = M')
    (h : TW P ds rest σ' M' (tr ++ [⟨o.dst, [a] ++ borAll [a] (xs.toList.map (rhoOf σ) ++ caps), ([a].zip ((N.take 1).map (renO (upN [a] M.length)))).map (·.1), M.length, ((N.drop 1).map (renO (upN [a] M.length))).length⟩]) K) : TW P ds (o :: rest) σ M tr K :=
  TW.cn T [a] ho hg hc hf (by simp) hlv ha hMc hF (Nat.le_of_ble_eq_true hlen) hnb hnN hp hM h
end

end Go.Gh


/-! Arrays of cells: read and written at a number that is not known. -/

namespace Go.Gh
variable {P : Program}

theorem os_indexV {o : Oper} {ρ : Rho} {nb : Nat} {M0 : Nat → GO} {t e : TypeId} {len : Nat} {x y : Operand} {cs : List GV} {g : GV} {k : IntKind} {n : Int} (ho : o.op = .index t x y) (ht : P.underlying t = some (.array len e))
    (ha : aggT P e = some false) (hsz : P.cellsOf e = 1) (hx : ρ x = .agg cs) (hy : ρ y = .lit (.int k n)) (h0 : 0 ≤ n) (h1 : n < len) (hg : cs[n.toNat]? = some g) : OpS P o ρ nb M0 [] g [] [] := by
  refine .quiet fun Γ D ι M w ac _ hV _ => ?_
  obtain ⟨vs, e1, hn, hf, hr⟩ := (hx ▸ hV x (by simp [ho, Op.operands])).agg_inv
  have e2 := (hy ▸ hV y (by simp [ho, Op.operands])).lit_inv
  obtain ⟨ti, hti⟩ := cellsOf_info (P := P) (t := e) (by rw [hsz]; decide)
  refine ⟨vs.getD n.toNat undef, hr _ g hg, ?_⟩
  have hi : n.toNat < vs.size := by rw [hn]; exact (List.getElem?_eq_some_iff.1 hg).1
  simp [execOp, ho, e1, e2, Instr.index, part, run_asIntOf, run_und ht, h0, h1, run_sz hti, hsz, run_isA ha, hi]

section
variable (T : Tab P) {ds : List (Option Tmp)} {o : Oper} {rest : List Oper} {σ σ' : List GV} {M M' : List GO} {tr : List RI} {K : List GV → List GO → List RI → Prop}

theorem TW.iv {t e : TypeId} {len : Nat} {x y : Operand} {cs : List GV} {g : GV} {k : IntKind} {n : Int} (ho : o.op = .index t x y) (hg : o.guard = none)
    (hx : rhoOf σ x = .agg cs) (hy : rhoOf σ y = .lit (.int k n)) (ht : T.u t = some (.array len e)) (ha : aggTT T e = some false) (hsz : T.sz e = 1) (h0 : 0 ≤ n) (h1 : n < len) (hc : cs[n.toNat]? = some g) (hp : putS σ o.dst g = σ')
    (h : TW P ds rest σ' M (tr ++ [⟨o.dst, [], [], M.length, 0⟩]) K) : TW P ds (o :: rest) σ M tr K := by
  subst hp
  exact TW.rd hg (os_indexV ho (T.uok _ _ ht) (aggTT_ok ha) (by rw [T.szok _ (by rw [hsz]; decide)]; exact hsz) hx hy h0 h1 hc) h

/-- One cell of an object, at a number that is not known. -/
theorem TW.lx {t : TypeId} {x : Operand} {id i j : Nat} {cs : List GV} {g : GV} (ho : o.op = .load t x) (hg : o.guard = none) (hx : rhoOf σ x = .adr id i j) (hc : cellsAt (getM M id) i = some cs) (ha : aggTT T t = some false) (hl : cs[j]? = some g)
    (hp : putS σ o.dst g = σ') (h : TW P ds rest σ' M (tr ++ [⟨o.dst, [id], [], M.length, 0⟩]) K) : TW P ds (o :: rest) σ M tr K :=
  TW.ld T ho hg hx hc (by unfold ldvT; rw [ha]; simp only [List.head?_drop]; exact hl) hp h

theorem TW.sx {t : TypeId} {x y : Operand} {id i j : Nat} {v : GV} {cs cs' : List GV} {d : TypeDesc} (ho : o.op = .store t x y) (hg : o.guard = none) (hx : rhoOf σ x = .adr id i j) (hy : gcells (rhoOf σ y) = some [v])
    (hu : T.u t = some d) (hsz : T.sz t = 1) (hM0 : getM M id = .cells cs) (hj : j < cs.length) (hs : cs.set j v = cs') (hid : id < M.length) (hd : o.dst = none) (hM : updL M [(id, .cells cs')] [] = M')
    (h : TW P ds rest σ' M' (tr ++ [⟨none, [id], [id], M.length, 0⟩]) K) (hσ : σ = σ') : TW P ds (o :: rest) σ M tr K := by
  subst hσ
  exact TW.st T ho hg hx hy hu (by rw [hsz]; rfl) (by simp) (by rw [hM0]; unfold putAt; simp only [List.length_cons, List.length_nil]; rw [if_pos (by omega)]; simp only [setMany]; rw [hs]) hid hd hM h
end
def opk2 : Op → Nat
  | .index .. => 15
  | .load .. => 16
  | .store .. => 17
  | _ => 0
theorem TW.kd2 {ds : List (Option Tmp)} {o : Oper} {rest : List Oper} {σ : List GV} {M : List GO} {tr : List RI} {K : List GV → List GO → List RI → Prop} (k : Nat) (_hk : opk2 o.op = k) (h : TW P ds (o :: rest) σ M tr K) : TW P ds (o :: rest) σ M tr K := h

/-- Sixteen numbers of 32 bits, as cells. -/
def lu (x : Int) : GV := .lit (.int .u32 x)
def dg (d : Nat → Int) : List GV := [lu (d 0), lu (d 1), lu (d 2), lu (d 3), lu (d 4), lu (d 5), lu (d 6), lu (d 7), lu (d 8), lu (d 9), lu (d 10), lu (d 11), lu (d 12), lu (d 13), lu (d 14), lu (d 15)]
def upd (d : Nat → Int) (k : Nat) (v : Int) : Nat → Int := fun i => if i = k then v else d i
theorem dg_len (d : Nat → Int) : (dg d).length = 16 := rfl
theorem dg_at (d : Nat → Int) : ∀ {k : Nat}, k < 16 → (dg d)[k]? = some (lu (d k))
  | 0, _ => rfl
  | 1, _ => rfl
  | 2, _ => rfl
  | 3, _ => rfl
  | 4, _ => rfl
  | 5, _ => rfl
  | 6, _ => rfl
  | 7, _ => rfl
  | 8, _ => rfl
  | 9, _ => rfl
  | 10, _ => rfl
  | 11, _ => rfl
  | 12, _ => rfl
  | 13, _ => rfl
  | 14, _ => rfl
  | 15, _ => rfl
  | n + 16, h => absurd h (by omega)
theorem dg_set (d : Nat → Int) (v : Int) : ∀ {k : Nat}, k < 16 → (dg d).set k (lu v) = dg (upd d k v)
  | 0, _ => rfl
  | 1, _ => rfl
  | 2, _ => rfl
  | 3, _ => rfl
  | 4, _ => rfl
  | 5, _ => rfl
  | 6, _ => rfl
  | 7, _ => rfl
  | 8, _ => rfl
  | 9, _ => rfl
  | 10, _ => rfl
  | 11, _ => rfl
  | 12, _ => rfl
  | 13, _ => rfl
  | 14, _ => rfl
  | 15, _ => rfl
  | n + 16, h => absurd h (by omega)
theorem dg_drop (d : Nat → Int) : ∀ {k : Nat}, k < 16 → ((dg d).drop k).head? = some (lu (d k))
  | 0, _ => rfl
  | 1, _ => rfl
  | 2, _ => rfl
  | 3, _ => rfl
  | 4, _ => rfl
  | 5, _ => rfl
  | 6, _ => rfl
  | 7, _ => rfl
  | 8, _ => rfl
  | 9, _ => rfl
  | 10, _ => rfl
  | 11, _ => rfl
  | 12, _ => rfl
  | 13, _ => rfl
  | 14, _ => rfl
  | 15, _ => rfl
  | n + 16, h => absurd h (by omega)
end Go.Gh
