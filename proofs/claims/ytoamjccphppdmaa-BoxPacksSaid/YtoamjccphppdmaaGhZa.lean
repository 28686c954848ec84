import Derived.Test.YtoamjccphppdmaaGhZ

/-! One operation, reckoned. -/

namespace Go.Gh
variable {P : Program}

def gbinT (T : Tab P) (op : BinOp) (t : TypeId) (x y : Value) : Option Value :=
  match x, y with
  | .int k a, .int k' b => match op with
    | .shl => gshift .shl k a b
    | .shr => gshift .shr k a b
    | .quo => none
    | .rem => none
    | op => if k = k' then gint op k a b else none
  | .bool a, .bool b => match T.u t, op with
    | some .bool, .eql => some (.bool (a == b))
    | some .bool, .neq => some (.bool (a != b))
    | _, _ => none
  | .string a, .string b => match op with
    | .eql => some (.bool (a.toList == b.toList))
    | .neq => some (.bool !(a.toList == b.toList))
    | .lss => some (.bool (Op.bytesLess a.toList b.toList))
    | _ => none
  | .pointer none, .pointer none => match T.u t, op with
    | some (.pointer _), .eql => some (.bool true)
    | some (.pointer _), .neq => some (.bool false)
    | _, _ => none
  | _, _ => none

theorem gbinT_ok {T : Tab P} {op : BinOp} {t : TypeId} {x y r : Value} (h : gbinT T op t x y = some r) : gbin P op t x y = some r := by
  unfold gbinT at h
  unfold gbin
  split at h
  · cases op <;> first | exact h | cases h
  · split at h
    · rename_i hu; rw [T.uok _ _ hu]; exact h
    · rename_i hu; rw [T.uok _ _ hu]; exact h
    · cases h
  · exact h
  · split at h
    · rename_i hu; rw [T.uok _ _ hu]; exact h
    · rename_i hu; rw [T.uok _ _ hu]; exact h
    · cases h
  · cases h

def eqOp (op : BinOp) (r : Bool) : Option Bool :=
  match op with
  | .eql => some r
  | .neq => some (!r)
  | _ => none

theorem eqOp_ok {op : BinOp} {r r' : Bool} (h : eqOp op r = some r') : (op = .eql ∧ r' = r) ∨ (op = .neq ∧ r' = !r) := by
  cases op <;> simp [eqOp] at h <;> subst h <;> simp

def ptrT (T : Tab P) (op : BinOp) (t : TypeId) (x : GV) : Option GV :=
  match notNil x, T.u t with
  | true, some (.pointer _) => (eqOp op false).map fun r => .lit (.bool r)
  | _, _ => none

def aggTe (T : Tab P) (op : BinOp) (t : TypeId) (x y : GV) : Option GV :=
  match litCells x, litCells y, T.u t, T.eq t with
  | some xs, some ys, some (.struct fs), true => (geqT T xs ys fs.toList).bind fun r => (eqOp op r).map fun r => .lit (.bool r)
  | _, _, _, _ => none

def binT (T : Tab P) (op : BinOp) (t : TypeId) (x y : GV) : Option GV :=
  match x, y with
  | .lit (.int k a), .lit (.int k' b) => (gbinT T op t (.int k a) (.int k' b)).map .lit
  | .lit (.bool a), .lit (.bool b) => (gbinT T op t (.bool a) (.bool b)).map .lit
  | .lit (.string a), .lit (.string b) => (gbinT T op t (.string a) (.string b)).map .lit
  | .lit (.pointer none), .lit (.pointer none) => (gbinT T op t (.pointer none) (.pointer none)).map .lit
  | .adr id i j, .lit (.pointer none) => ptrT T op t (.adr id i j)
  | .iadr bw cs, .lit (.pointer none) => ptrT T op t (.iadr bw cs)
  | .agg xs, y => aggTe T op t (.agg xs) y
  | .lit (.agg xs), y => aggTe T op t (.lit (.agg xs)) y
  | _, _ => none

section
variable {o : Oper} {ρ : Rho} {nb : Nat} {M0 : Nat → GO}

theorem binT_ok {T : Tab P} {op : BinOp} {t yt : TypeId} {x y : Operand} {g : GV} (ho : o.op = .binOp op t x y yt) (h : binT T op t (ρ x) (ρ y) = some g) : OpS P o ρ nb M0 [] g [] [] := by
  have bin : ∀ a b, ρ x = .lit a → ρ y = .lit b → (gbinT T op t a b).map GV.lit = some g → OpS P o ρ nb M0 [] g [] [] := fun a b hx hy h => by
    obtain ⟨r, hr, rfl⟩ := Option.map_eq_some_iff.1 h
    exact os_bin ho hx hy (gbinT_ok hr)
  have ptr : ρ y = .lit (.pointer none) → ptrT T op t (ρ x) = some g → OpS P o ρ nb M0 [] g [] [] := fun hy h => by
    unfold ptrT at h
    split at h
    · rename_i h1 h2
      obtain ⟨r, hr, rfl⟩ := Option.map_eq_some_iff.1 h
      exact os_ptr ho h1 hy (T.uok _ _ h2) (eqOp_ok hr)
    · cases h
  have agg : aggTe T op t (ρ x) (ρ y) = some g → OpS P o ρ nb M0 [] g [] [] := fun h => by
    unfold aggTe at h
    split at h
    · rename_i h1 h2 h3 h4
      obtain ⟨r, hr, h⟩ := Option.bind_eq_some_iff.1 h
      obtain ⟨r', hr', rfl⟩ := Option.map_eq_some_iff.1 h
      exact os_aggEq ho h1 h2 (T.uok _ _ h3) (T.eqok t h4).1 (T.eqok t h4).2 (geqT_ok T hr) (eqOp_ok hr')
    · cases h
  unfold binT at h
  split at h
  · rename_i h1 h2; exact bin _ _ h1 h2 h
  · rename_i h1 h2; exact bin _ _ h1 h2 h
  · rename_i h1 h2; exact bin _ _ h1 h2 h
  · rename_i h1 h2; exact bin _ _ h1 h2 h
  · rename_i h1 h2; exact ptr h2 (by rw [h1]; exact h)
  · rename_i h1 h2; exact ptr h2 (by rw [h1]; exact h)
  · rename_i h1; exact agg (by rw [h1]; exact h)
  · rename_i h1; exact agg (by rw [h1]; exact h)
  · cases h

/-- A result: what was touched, the value, what turned, what is new. -/
abbrev SRes := List Nat × GV × List (Nat × GO) × List GO

def qt (g : GV) : SRes := ([], g, [], [])

def callT (T : Tab P) (σ : List GV) (M : List GO) (b : Builtin) (xs : List Operand) (ts : List TypeId) : Option SRes :=
  match b, xs, ts with
  | .len, [x], [t] => match T.u t with
    | some (.slice _) => (lenOfG (getM M) (rhoOf σ x)).map fun (n : Nat) => (gid (rhoOf σ x), .lit (.int .i64 n), [], [])
    | some (.array n _) => some (qt (.lit (.int .i64 n)))
    | some .string => match rhoOf σ x with | .lit (.string s) => some (qt (.lit (.int .i64 s.size))) | _ => none
    | _ => none
  | .min, [x, y], _ => match rhoOf σ x, rhoOf σ y with | .lit (.int k a), .lit (.int k' b) => if k = k' then some (qt (.lit (.int k (if b < a then b else a)))) else none | _, _ => none
  | .min, [x, y, z], _ => match rhoOf σ x, rhoOf σ y, rhoOf σ z with
    | .lit (.int k a), .lit (.int k' b), .lit (.int k'' c) => if k = k' then if k = k'' then some (qt (.lit (.int k (if c < (if b < a then b else a) then c else (if b < a then b else a))))) else none else none
    | _, _, _ => none
  | .max, [x, y], _ => match rhoOf σ x, rhoOf σ y with | .lit (.int k a), .lit (.int k' b) => if k = k' then some (qt (.lit (.int k (if b > a then b else a)))) else none | _, _ => none
  | _, _, _ => none

theorem callT_ok {T : Tab P} {σ : List GV} {M : List GO} {b : Builtin} {xs : Array Operand} {ts : Array TypeId} {r : SRes} (ho : o.op = .call { callee := .builtin b, args := xs, argTypes := ts }) (h : callT T σ M b xs.toList ts.toList = some r) :
    OpS P o (rhoOf σ) M.length (getM M) r.1 r.2.1 r.2.2.1 r.2.2.2 ∧ r.2.2.1 = [] := by
  have arr : ∀ {α : Type} (a : Array α) (l : List α), a.toList = l → a = l.toArray := fun a l h => by rw [← h]
  unfold callT at h
  split at h
  · rename_i x t e1 e2
    have e1 := arr _ _ e1
    have e2 := arr _ _ e2
    subst e1; subst e2
    split at h
    · rename_i hu
      obtain ⟨n, hn, rfl⟩ := Option.map_eq_some_iff.1 h
      exact ⟨os_len ho (T.uok _ _ hu) hn, rfl⟩
    · rename_i hu
      cases h
      exact ⟨os_lenArr ho (T.uok _ _ hu), rfl⟩
    · rename_i hu
      split at h
      · rename_i s hs
        cases h
        exact ⟨os_lenStr ho (T.uok _ _ hu) hs, rfl⟩
      · cases h
    · cases h
  · rename_i x y e1
    have e1 := arr _ _ e1
    subst e1
    split at h
    · rename_i k a k' b h1 h2
      split at h
      · rename_i hk; subst hk; cases h; exact ⟨os_min2 ho h1 h2, rfl⟩
      · cases h
    · cases h
  · rename_i x y z e1
    have e1 := arr _ _ e1
    subst e1
    split at h
    · rename_i h1 h2 h3
      split at h
      · rename_i hk
        subst hk
        split at h
        · rename_i hk; subst hk; cases h; exact ⟨os_min3 ho h1 h2 h3, rfl⟩
        · cases h
      · cases h
    · cases h
  · rename_i x y e1
    have e1 := arr _ _ e1
    subst e1
    split at h
    · rename_i k a k' b h1 h2
      split at h
      · rename_i hk; subst hk; cases h; exact ⟨os_max2 ho h1 h2, rfl⟩
      · cases h
    · cases h
  · cases h

def stepT (T : Tab P) (σ : List GV) (M : List GO) (o : Oper) : Option SRes :=
  match o.op with
  | .move x => some (qt (rhoOf σ x))
  | .assign x => some (qt (rhoOf σ x))
  | .pick c x y => match rhoOf σ c with | .lit (.bool t) => some (qt (bif t then rhoOf σ x else rhoOf σ y)) | _ => none
  | .binOp op t x y _ => (binT T op t (rhoOf σ x) (rhoOf σ y)).map qt
  | .unOp .not _ x => match rhoOf σ x with | .lit (.bool b) => some (qt (.lit (.bool !b))) | _ => none
  | .unOp .neg _ x => match rhoOf σ x with | .lit (.int k n) => some (qt (.lit (.int k (k.wrap (0 - n))))) | _ => none
  | .convert s d x => match T.u s, T.u d, rhoOf σ x with | some (.int _), some (.int k'), .lit (.int _ n) => some (qt (.lit (.int k' (k'.wrap n)))) | _, _, _ => none
  | .nilCheck x => bif isAddr (rhoOf σ x) then some (qt (rhoOf σ x)) else none
  | .extract x i => match rhoOf σ x with | .tup cs => (nthG cs i).map qt | _ => none
  | .load t x => match rhoOf σ x with
    | .adr id i j => (cellsAt (getM M id) i).bind fun cs => (ldvT T t (cs.drop j)).map fun g => ([id], g, [], [])
    | .iadr _ cs => (ldvT T t cs).map qt
    | _ => none
  | .store t x y => match rhoOf σ x, gcells (rhoOf σ y), T.u t, o.dst with
    | .adr id i j, some vs, some _, none => if T.sz t = vs.length ∧ vs.length ≠ 0 ∧ id < M.length then (putAt (getM M id) i j vs).map fun ob => ([id], .any, [(id, ob)], []) else none
    | _, _, _, _ => none
  | .fieldAddr s x n => match T.u s, rhoOf σ x with
    | some (.struct fs), .adr id i j => (fs[n]?).bind fun f => if T.sz f.type ≠ 0 then some (qt (.adr id i (j + f.offset))) else none
    | some (.struct fs), .iadr bw cs => (fs[n]?).bind fun f => if T.sz f.type ≠ 0 then some (qt (.iadr bw (cs.drop f.offset))) else none
    | _, _ => none
  | .box _ x => (gcells (rhoOf σ x)).map fun cs => ([], .adr M.length 0 0, [], [.cells cs])
  | .alloc t => (T.z t).bind fun z => bif flatAll z then some ([], .adr M.length 0 0, [], [.cells (z.cells.toList.map .lit)]) else none
  | .build t parts => match placesT T t, T.z t with
    | some pl, some z => bif flatAll z then (gfill pl (z.cells.toList.map .lit) (parts.toList.map fun x => (x.1, rhoOf σ x.2))).map fun gs => qt (.agg gs) else none
    | _, _ => none
  | .makeFunc (.func f) first caps => match first.toList with | [] => some (qt (.clo f (caps.toList.map (rhoOf σ)))) | _ => none
  | .call { callee := .builtin b, args := xs, argTypes := ts } => callT T σ M b xs.toList ts.toList
  | _ => none

theorem stepT_ok {T : Tab P} {σ : List GV} {M : List GO} {r : SRes} (h : stepT T σ M o = some r) :
    OpS P o (rhoOf σ) M.length (getM M) r.1 r.2.1 r.2.2.1 r.2.2.2 ∧ ∀ x, x ∈ r.2.2.1 → x.1 < M.length := by
  have q : ∀ {g : GV}, OpS P o (rhoOf σ) M.length (getM M) [] g [] [] → r = qt g → OpS P o (rhoOf σ) M.length (getM M) r.1 r.2.1 r.2.2.1 r.2.2.2 ∧ ∀ x, x ∈ r.2.2.1 → x.1 < M.length := by
    rintro g hq rfl
    exact ⟨hq, fun x hx => by simp [qt] at hx⟩
  unfold stepT at h
  split at h
  · rename_i ho; exact q (os_move (.inl ho)) (Option.some.inj h).symm
  · rename_i ho; exact q (os_move (.inr ho)) (Option.some.inj h).symm
  · rename_i ho
    split at h
    · rename_i hc; exact q (os_pick ho hc) (Option.some.inj h).symm
    · cases h
  · rename_i ho
    obtain ⟨g, hg, rfl⟩ := Option.map_eq_some_iff.1 h
    exact q (binT_ok ho hg) rfl
  · rename_i ho
    split at h
    · rename_i hc; exact q (os_not ho hc) (Option.some.inj h).symm
    · cases h
  · rename_i ho
    split at h
    · rename_i hc; exact q (os_neg ho hc) (Option.some.inj h).symm
    · cases h
  · rename_i ho
    split at h
    · rename_i h1 h2 h3; exact q (os_conv ho (T.uok _ _ h1) (T.uok _ _ h2) h3) (Option.some.inj h).symm
    · cases h
  · rename_i x ho
    cases hx : isAddr (rhoOf σ x) with
    | true => rw [hx] at h; exact q (os_nil ho hx) (Option.some.inj h).symm
    | false => rw [hx] at h; cases h
  · rename_i ho
    split at h
    · rename_i hx
      obtain ⟨g, hg, rfl⟩ := Option.map_eq_some_iff.1 h
      exact q (os_extract ho hx (nthG_ok hg)) rfl
    · cases h
  · rename_i ho
    split at h
    · rename_i hx
      obtain ⟨cs, hc, h⟩ := Option.bind_eq_some_iff.1 h
      obtain ⟨g, hg, rfl⟩ := Option.map_eq_some_iff.1 h
      exact ⟨os_load ho hx hc (ldvT_ok hg), fun x hx => by simp at hx⟩
    · rename_i hx
      obtain ⟨g, hg, rfl⟩ := Option.map_eq_some_iff.1 h
      exact q (os_loadI ho hx (ldvT_ok hg)) rfl
    · cases h
  · rename_i ho
    split at h
    · rename_i hx hy hu hd
      split at h
      · rename_i hc
        obtain ⟨ob, hob, rfl⟩ := Option.map_eq_some_iff.1 h
        obtain ⟨h1, h2, h3⟩ := hc
        refine ⟨os_store ho hx hy (T.uok _ _ hu) ?_ hob, fun x hx => by simp at hx; subst hx; exact h3⟩
        rw [← h1] at h2 ⊢
        exact T.szok _ h2
      · cases h
    · cases h
  · rename_i ho
    split at h
    · rename_i hu hx
      obtain ⟨f, hf, h⟩ := Option.bind_eq_some_iff.1 h
      split at h
      · rename_i hne; exact q (os_field ho hx (T.uok _ _ hu) hf (by rw [T.szok _ hne]; exact hne)) (Option.some.inj h).symm
      · cases h
    · rename_i hu hx
      obtain ⟨f, hf, h⟩ := Option.bind_eq_some_iff.1 h
      split at h
      · rename_i hne; exact q (os_fieldI ho hx (T.uok _ _ hu) hf (by rw [T.szok _ hne]; exact hne)) (Option.some.inj h).symm
      · cases h
    · cases h
  · rename_i ho
    obtain ⟨cs, hc, rfl⟩ := Option.map_eq_some_iff.1 h
    exact ⟨os_box ho hc, fun x hx => by simp at hx⟩
  · rename_i ho
    obtain ⟨z, hz, h⟩ := Option.bind_eq_some_iff.1 h
    cases hf : flatAll z with
    | true => rw [hf] at h; cases h; exact ⟨os_alloc ho (T.zok _ _ hz) hf, fun x hx => by simp at hx⟩
    | false => rw [hf] at h; cases h
  · rename_i ho
    split at h
    · rename_i pl z hpl hz
      cases hf : flatAll z with
      | true =>
        rw [hf] at h
        obtain ⟨gs, hg, rfl⟩ := Option.map_eq_some_iff.1 h
        exact q (os_build ho (placesT_ok hpl) (T.zok _ _ hz) hf hg) rfl
      | false => rw [hf] at h; cases h
    · cases h
  · rename_i f first caps ho
    split at h
    · rename_i hf
      have : first = #[] := by rw [← Array.toList_inj]; exact hf
      subst this
      exact q (os_closure ho) (Option.some.inj h).symm
    · cases h
  · rename_i ho
    obtain ⟨h1, h2⟩ := callT_ok ho h
    exact ⟨h1, fun x hx => by rw [h2] at hx; simp at hx⟩
  · cases h

end

def updA (M : List GO) : List (Nat × GO) → List GO → List GO
  | [], news => M ++ news
  | (i, ob) :: r, news => updA (M.set i ob) r news

theorem updA_ok {news : List GO} : ∀ {ups : List (Nat × GO)} {M : List GO}, (ups.map (·.1)).Nodup → updL M ups news = updA M ups news
  | [], M, _ => rfl
  | (i, ob) :: r, M, h => by
    simp only [List.map_cons, List.nodup_cons] at h
    rw [updA, ← updA_ok h.2]
    have e : ∀ (M : List GO) (u : List (Nat × GO)), updL M u news = M.mapIdx (fun i o => ((u.find? (·.1 == i)).map (·.2)).getD o) ++ news := fun M u => by
      cases u with
      | nil =>
        rw [updL]
        congr 1
        apply List.ext_getElem?
        intro j
        rw [List.getElem?_mapIdx]
        cases M[j]? <;> rfl
      | cons x u => rfl
    rw [e, e]
    congr 1
    apply List.ext_getElem?
    intro j
    rw [List.getElem?_mapIdx, List.getElem?_mapIdx, List.getElem?_set]
    by_cases hij : i = j
    · subst hij
      have hn : r.find? (·.1 == i) = none := by
        rw [List.find?_eq_none]
        intro x hx hxi
        simp only [beq_iff_eq] at hxi
        exact h.1 (List.mem_map.2 ⟨x, hx, hxi⟩)
      rw [if_pos rfl]
      by_cases hl : i < M.length
      · rw [if_pos hl, List.getElem?_eq_getElem hl, hn]
        simp
      · rw [if_neg hl, List.getElem?_eq_none (by omega)]
        rfl
    · rw [if_neg hij]
      have : (i == j) = false := by simpa using hij
      simp only [List.find?_cons, this]

def ndB : List (Nat × GO) → Bool
  | [] => true
  | [_] => true
  | _ => false

theorem ndB_ok : ∀ {ups : List (Nat × GO)}, ndB ups = true → (ups.map (·.1)).Nodup
  | [], _ => by simp
  | [_], _ => by simp
  | _ :: _ :: _, h => by cases h

theorem TW.au (T : Tab P) {ds : List (Option Tmp)} {o : Oper} {rest : List Oper} {σ σ' : List GV} {M M' : List GO} {tr : List RI} {K : List GV → List GO → List RI → Prop}
    {ids : List Nat} {g : GV} {ups : List (Nat × GO)} {news : List GO} (hg : o.guard = none) (hs : stepT T σ M o = some (ids, g, ups, news)) (hp : putS σ o.dst g = σ') (hn : ndB ups = true) (hM : updA M ups news = M')
    (h : TW P ds rest σ' M' (tr ++ [⟨o.dst, ids, (ups).map (·.1), M.length, (news).length⟩]) K) : TW P ds (o :: rest) σ M tr K := by
  subst hp; subst hM
  obtain ⟨h1, h2⟩ := stepT_ok hs
  have hn : (ups.map (·.1)).Nodup := ndB_ok hn
  exact TW.step (by unfold gwantD; rw [hg]) h1 h2 (by rw [updA_ok hn]; exact h)

end Go.Gh
