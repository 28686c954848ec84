import Derived.Test.YtlchnpmfgblegaaGhZaZi

/-! How much room there is; a nil slice within an object. -/

namespace Go.Gh
variable {P : Program}

theorem os_igeLt {o : Oper} {ρ : Rho} {nb : Nat} {M0 : Nat → GO} {t yt : TypeId} {x y : Operand} {n m : Int} (ho : o.op = .binOp .lss t x y yt) (hx : ρ x = .ige n) (hy : ρ y = .lit (.int .i64 m)) (h : m ≤ n) : OpS P o ρ nb M0 [] (.lit (.bool false)) [] [] := by
  refine .quiet fun Γ D ι M w ac _ hV _ => ⟨_, .litv _, ?_⟩
  obtain ⟨k, h1, h3, _⟩ := (hx ▸ hV x (by simp [ho, Op.operands])).ige_inv
  have h2 := (hy ▸ hV y (by simp [ho, Op.operands])).lit_inv
  simp only [execOp, ho, h1, h2, Sem.run_bind]
  rw [run_eqGuard_int]
  simp only [Result.andThen_ok, Sem.run_pure]
  rw [run_gint (r := .bool false) (by simp) (by simp) (by simp only [gint]; rw [decide_eq_false (by omega)])]
  rfl

/-- A nil slice within an object is one that is read alone. -/
theorem GS.nilO {m : Nat} {σ : List GV} {M : List GO} {K : List GV → List GO → Prop} (id j sz : Nat) {cs : List GV} (hM : getM M id = .cells cs) (hc : nthG cs j = some (.lit (.slice none 0 0)))
    (h : GS m σ (M.set id (.cells (cs.set j (.sl false sz [] [])))) K) : GS m σ M K := by
  intro Γ ι w a hm hS hL
  have hid : id < M.length := hS.liv id (by rw [hM]; simp)
  have hob := hS.obj id
  rw [hM] at hob
  obtain ⟨h0, b, arr, t, h1, h2, h3, hf, h4⟩ := hob
  have hjl : j < cs.length := (List.getElem?_eq_some_iff.1 (nthG_ok hc)).1
  have hput := hS.put (id := id) (o := .cells (cs.set j (.sl false sz [] []))) (w' := w) (by rw [hM]; simp) (Nat.le_refl _) (fun _ _ _ => rfl)
    ⟨h0, b, arr, t, h1, h2, by rw [List.length_set]; exact h3, hf, fun j' g hg => by
      by_cases e' : j = j'
      · subst e'
        rw [List.getElem?_set_self hjl] at hg
        cases hg
        have hv := (h4 j _ (nthG_ok hc)).lit_inv
        rw [hv]
        exact GLe.nilS false sz _ _ _ _ _ _ (.imm (.lit _))
      · rw [List.getElem?_set_ne e'] at hg
        exact h4 j' g hg⟩
  have hMe : setF (getM M) id (.cells (cs.set j (.sl false sz [] []))) = getM (M.set id (.cells (cs.set j (.sl false sz [] [])))) := by
    funext i
    unfold setF getM
    rw [List.getD_eq_getElem?_getD, List.getD_eq_getElem?_getD]
    by_cases e1 : i = id
    · subst e1; rw [if_pos rfl, List.getElem?_set_self hid]; rfl
    · rw [if_neg e1, List.getElem?_set_ne (Ne.symm e1)]
  rw [hMe] at hput
  obtain ⟨σ1, M1, Im1, ι1, k1, k2, k3, k4, k5, k6⟩ := h Γ ι w a (by rw [List.length_set]; exact hm) (by rw [List.length_set]; exact hput) (by rw [List.length_set]; exact hL)
  exact ⟨σ1, M1, Im1, ι1, k1, k2, k3, k4, k5, k6⟩

theorem os_idxW {o : Oper} {ρ : Rho} {nb : Nat} {M0 : Nat → GO} {t e e' : TypeId} {x y : Operand} {sz id lo hi : Nat} {xs : List (List GV)} {k : IntKind} {n : Int} (ho : o.op = .indexAddr t x y) (ht : P.underlying t = some (.slice e)) (hsz : P.cellsOf e = sz) (hpos : sz ≠ 0)
    (hx : ρ x = .win id lo hi) (hM : M0 id = .row e' sz xs) (hy : ρ y = .lit (.int k n)) (h0 : 0 ≤ n) (h1 : n < (hi - lo : Nat)) : OpS P o ρ nb M0 [id] (.adr id (lo + n.toNat) 0) [] [] := by
  refine .quiet fun Γ D ι M w ac hS hV hMM => ?_
  obtain ⟨hD, hle, hhi, A, c, e1, hc, hA, hs, hb⟩ := (hx ▸ hV x (by simp [ho, Op.operands])).win_sub.sub_inv
  have e2 := (hy ▸ hV y (by simp [ho, Op.operands])).lit_inv
  obtain ⟨ti, hti⟩ := cellsOf_info (P := P) (t := e) (by omega)
  have hob := hS.obj id
  rw [hMM id (by simp), hM] at hob
  obtain ⟨⟨hz, _⟩, hn, _, cs, hown, _⟩ := hob
  obtain ⟨b, hb, hAb⟩ := hb (by omega)
  refine ⟨_, .adr id (lo + n.toNat) 0 b hD hb, ?_⟩
  simp [execOp, ho, e1, e2, hAb, Instr.indexAt, run_asIntOf, run_und ht, h0, h1, run_sz hti, hsz, add_lit, hz, Nat.add_mul]

/-! Arrays of numbers, held against each other. -/
def geqI : List GV → List GV → Option Bool
  | [], [] => some true
  | x :: l, y :: r => match x, y with
    | .lit (.int k a), .lit (.int k' b) => if k = k' then (geqI l r).map fun t => (a == b) && t else none
    | _, _ => none
  | _, _ => none

theorem eqItems_sound {w : World} {d : Nat} {e : TypeId} {k0 : IntKind} {us vs : Array Value} (ha : aggT P e = some false) (hu : P.underlying e = some (.int k0)) :
    ∀ (xs ys : List GV) (off : Nat) (r : Bool), geqI xs ys = some r → (∀ (i : Nat) v, xs[i]? = some (.lit v) → us[off + i]? = some v) → (∀ (i : Nat) v, ys[i]? = some (.lit v) → vs[off + i]? = some v) →
      (Op.eqItems (d + 1) e 1 us vs (List.range' off xs.length)).run P w = .ok r w
  | [], [], off, r, h, _, _ => by
    simp only [geqI, Option.some.injEq] at h
    subst h; rfl
  | [], _ :: _, _, _, h, _, _ => by simp [geqI] at h
  | _ :: _, [], _, _, h, _, _ => by simp [geqI] at h
  | x :: l, y :: r', off, r, h, hx, hy => by
    simp only [geqI] at h
    split at h
    · rename_i k a k' b
      split at h
      · rename_i hk
        subst hk
        obtain ⟨t, ht, hr⟩ := Option.map_eq_some_iff.1 h
        have ih := eqItems_sound (w := w) (d := d) (us := us) (vs := vs) ha hu l r' (off + 1) t ht
          (fun i v hv => by have := hx (i + 1) v (by simpa using hv); rwa [show off + 1 + i = off + (i + 1) by omega])
          (fun i v hv => by have := hy (i + 1) v (by simpa using hv); rwa [show off + 1 + i = off + (i + 1) by omega])
        have p1 : ∀ (us : Array Value) v, us[off + 0]? = some v → (part e us (off * 1)).run P w = .ok v w := fun us v hv => by
          rw [Nat.add_zero] at hv
          simp [part, run_isA ha, hv]
        rw [List.length_cons, List.range'_succ]
        simp only [Op.eqItems, Sem.run_bind, p1 us _ (hx 0 _ rfl), p1 vs _ (hy 0 _ rfl), Result.andThen_ok, run_equalIn_int hu]
        subst hr
        rw [Sem.run_ite]
        split
        · rename_i hb
          simp only [Bool.not_eq_true'] at hb
          rw [hb]; rfl
        · rename_i hb
          simp only [Bool.not_eq_true', Bool.not_eq_false] at hb
          rw [hb, ih]; rfl
      · cases h
    · cases h

theorem os_arrEq {o : Oper} {ρ : Rho} {nb : Nat} {M0 : Nat → GO} {t yt e : TypeId} {n : Nat} {k0 : IntKind} {x y : Operand} {op : BinOp} {r r' : Bool} {xs ys : List GV} (ho : o.op = .binOp op t x y yt) (hx : litCells (ρ x) = some xs) (hy : litCells (ρ y) = some ys)
    (hu : P.underlying t = some (.array n e)) (he : P.underlying e = some (.int k0)) (hc : P.cellsOf e = 1) (hg : P.eqGuardType P.depth t = false) (hl : xs.length = n) (hr : geqI xs ys = some r)
    (hop : (op = .eql ∧ r' = r) ∨ (op = .neq ∧ r' = !r)) : OpS P o ρ nb M0 [] (.lit (.bool r')) [] [] := by
  refine .quiet fun Γ D ι M w ac _ hV _ => ⟨.bool r', .litv _, ?_⟩
  obtain ⟨us, h1, hn1, hu1⟩ := litCells_sound hx (hV x (by simp [ho, Op.operands]))
  obtain ⟨vs, h2, hn2, hu2⟩ := litCells_sound hy (hV y (by simp [ho, Op.operands]))
  obtain ⟨ti, hti⟩ := cellsOf_info (P := P) (t := e) (by rw [hc]; decide)
  have he : (Op.equalIn 10000 t (.agg us) (.agg vs)).run P w = .ok r w := by
    rw [run_equalIn_array w 9999 us vs hu hti, hc, List.range_eq_range', ← hl]
    exact eqItems_sound (d := 9998) (by unfold aggT; rw [he]; rfl) he xs ys 0 r hr (fun i v hv => by rw [Nat.zero_add]; exact hu1 i v hv) (fun i v hv => by rw [Nat.zero_add]; exact hu2 i v hv)
  simp only [execOp, ho, h1, h2, Sem.run_bind, run_eqGuard_agg w op t x y us vs hg, Result.andThen_ok]
  rcases hop with ⟨rfl, rfl⟩ | ⟨rfl, rfl⟩
  · rw [run_eql_struct w t us vs, he]; rfl
  · rw [run_neq_struct w t us vs, he]; rfl

/-! Slices whose elements are all told. -/
def pt (sz : Nat) : Nat → List (Nat × GV) → Option (List (List GV))
  | _, [] => some []
  | k, (i, g) :: r => if i = k then match gcells g with
    | some cs => if cs.length = sz then (pt sz (k + 1) r).map (cs :: ·) else none
    | none => none
    else none

theorem setMany_mid (a b c vs : List GV) (h : vs.length = b.length) : setMany (a ++ b ++ c) a.length vs = a ++ vs ++ c := by
  apply List.ext_getElem?
  intro k
  rw [setMany_get _ _ _ _ (by simp; omega)]
  by_cases h1 : a.length ≤ k ∧ k < a.length + vs.length
  · rw [if_pos h1, List.append_assoc, List.getElem?_append_right h1.1, List.getElem?_append_left (by omega)]
  · rw [if_neg h1]
    by_cases h2 : k < a.length
    · rw [List.append_assoc, List.append_assoc, List.getElem?_append_left h2, List.getElem?_append_left h2]
    · rw [List.getElem?_append_right (by simp; omega), List.getElem?_append_right (by simp; omega)]
      simp [h]

theorem pt_fill {sz : Nat} : ∀ (parts : List (Nat × GV)) (k : Nat) (xs : List (List GV)), pt sz k parts = some xs → ∀ (a b : List GV), a.length = k * sz → b.length = xs.length * sz →
    gfill (fun i => some (i * sz, sz)) (a ++ b) parts = some (a ++ xs.flatten) ∧ ∀ x, x ∈ xs → x.length = sz
  | [], k, xs, h, a, b, ha, hb => by
    simp only [pt, Option.some.injEq] at h
    subst h
    have : b = [] := List.eq_nil_of_length_eq_zero (by simpa using hb)
    subst this
    exact ⟨by simp [gfill], fun x hx => by simp at hx⟩
  | (i, g) :: r, k, xs, h, a, b, ha, hb => by
    simp only [pt] at h
    split at h
    · rename_i hik
      subst hik
      split at h
      · rename_i cs hcs
        split at h
        · rename_i hl
          obtain ⟨ys, hys, rfl⟩ := Option.map_eq_some_iff.1 h
          rw [List.length_cons, Nat.add_mul, Nat.one_mul] at hb
          have hb1 : (b.take sz).length = sz := by rw [List.length_take]; omega
          have hset : setMany (a ++ b) (i * sz) cs = (a ++ cs) ++ b.drop sz := by
            have := setMany_mid a (b.take sz) (b.drop sz) cs (by omega)
            rwa [ha, List.append_assoc, List.take_append_drop] at this
          obtain ⟨ih, ih2⟩ := pt_fill r (i + 1) ys hys (a ++ cs) (b.drop sz) (by rw [List.length_append, ha, hl, Nat.add_mul, Nat.one_mul]) (by rw [List.length_drop]; omega)
          refine ⟨?_, fun x hx => ?_⟩
          · simp only [gfill, hcs]
            rw [if_pos ⟨hl, by rw [List.length_append, ha]; omega⟩, hset, ih, List.flatten_cons, List.append_assoc]
          · rcases List.mem_cons.1 hx with rfl | hx
            · exact hl
            · exact ih2 x hx
        · cases h
      · cases h
    · cases h

theorem chunks_flat {sz : Nat} : ∀ (xs : List (List GV)), (∀ x, x ∈ xs → x.length = sz) → chunks sz xs.length xs.flatten = xs
  | [], _ => rfl
  | x :: xs, h => by
    have hx := h x (List.mem_cons_self ..)
    rw [List.length_cons, chunks, List.flatten_cons, List.take_append_of_le_length (by omega), List.take_of_length_le (by omega), List.drop_append_of_le_length (by omega), List.drop_of_length_le (by omega), List.nil_append, chunks_flat xs fun y hy => h y (List.mem_cons_of_mem _ hy)]

theorem pureL_append : ∀ {a b : List GV}, pureL a = true → pureL b = true → pureL (a ++ b) = true
  | [], b, _, h => h
  | x :: a, b, h1, h2 => by
    simp only [pureL, Bool.and_eq_true, List.cons_append] at h1 ⊢
    exact ⟨h1.1, pureL_append h1.2 h2⟩
theorem pureL_flat : ∀ {xs : List (List GV)}, xs.all pureL = true → pureL xs.flatten = true
  | [], _ => rfl
  | x :: xs, h => by
    rw [List.all_cons, Bool.and_eq_true] at h
    rw [List.flatten_cons]
    exact pureL_append h.1 (pureL_flat h.2)

section
variable (T : Tab P) {ds : List (Option Tmp)} {o : Oper} {rest : List Oper} {σ σ' : List GV} {M M' : List GO} {tr : List RI} {K : List GV → List GO → List RI → Prop}

theorem TW.cp {t e : Nat} {x : Operand} {bw : Bool} {sz : Nat} {xs ex : List (List GV)} (ho : o.op = .call { callee := .builtin .cap, args := #[x], argTypes := #[t] }) (hg : o.guard = none) (ht : T.u t = some (.slice e)) (hx : rhoOf σ x = .sl bw sz xs ex)
    (hp : putS σ o.dst (.ige (xs.length + ex.length)) = σ') (h : TW P ds rest σ' M (tr ++ [⟨o.dst, [], [], M.length, 0⟩]) K) : TW P ds (o :: rest) σ M tr K := by
  subst hp
  exact TW.rd hg (os_cap ho (T.uok _ _ ht) hx) h

theorem TW.cg {t yt : TypeId} {x y : Operand} {n m : Int} (ho : o.op = .binOp .lss t x y yt) (hg : o.guard = none) (hx : rhoOf σ x = .ige n) (hy : rhoOf σ y = .lit (.int .i64 m)) (hb : m ≤ n)
    (hp : putS σ o.dst (.lit (.bool false)) = σ') (h : TW P ds rest σ' M (tr ++ [⟨o.dst, [], [], M.length, 0⟩]) K) : TW P ds (o :: rest) σ M tr K := by
  subst hp
  exact TW.rd hg (os_igeLt ho hx hy hb) h
theorem TW.ba {op : BinOp} {t yt e : TypeId} {n : Nat} {k0 : IntKind} {x y : Operand} {r r' : Bool} {xs ys : List GV} (ho : o.op = .binOp op t x y yt) (hg : o.guard = none) (hx : litCells (rhoOf σ x) = some xs) (hy : litCells (rhoOf σ y) = some ys)
    (ht : T.u t = some (.array n e)) (he : T.u e = some (.int k0)) (hc : T.sz e = 1) (heq : T.eq t = true) (hl : xs.length = n) (hr : geqI xs ys = some r) (hop : (op = .eql ∧ r' = r) ∨ (op = .neq ∧ r' = !r)) (hp : putS σ o.dst (.lit (.bool r')) = σ')
    (h : TW P ds rest σ' M (tr ++ [⟨o.dst, [], [], M.length, 0⟩]) K) : TW P ds (o :: rest) σ M tr K := by
  subst hp
  exact TW.rd hg (os_arrEq ho hx hy (T.uok t _ ht) (T.uok e _ he) (by rw [T.szok _ (by rw [hc]; decide)]; exact hc) (T.eqok t heq).1 hl hr hop) h

/-- A slice whose elements are all told. -/
theorem TW.bm {t e : TypeId} {len : Nat} {parts : Array (Nat × Operand)} {z : Value} {xs : List (List GV)} (ho : o.op = .buildSlice t len parts) (hg : o.guard = none) (ht : T.u t = some (.slice e)) (hz : T.z e = some z)
    (hzs : z.cells.size = T.sz e) (hc : T.sz e ≠ 0 ∧ 0 < len ∧ len * T.sz e ≤ 16777216) (hf : flatAll z = true)
    (hpt : pt (T.sz e) 0 (parts.toList.map fun x => (x.1, rhoOf σ x.2)) = some xs) (hlen : xs.length = len) (hpu : xs.all pureL = true) (hp : putS σ o.dst (.row M.length) = σ') (hM : M ++ [.row e (T.sz e) xs] = M')
    (h : TW P ds rest σ' M' (tr ++ [⟨o.dst, [], [], M.length, 1⟩]) K) : TW P ds (o :: rest) σ M tr K := by
  have hzl : (z.cells.toList.map GV.lit).length = T.sz e := by simpa using hzs
  obtain ⟨h1, h2⟩ := pt_fill _ 0 xs hpt [] ((List.replicate len (z.cells.toList.map .lit)).flatten) (by simp) (by rw [flatten_len (sz := T.sz e) (fun x hx => by rw [List.mem_replicate] at hx; rw [hx.2]; exact hzl), List.length_replicate, hlen])
  rw [List.nil_append, List.nil_append] at h1
  exact TW.bl T ho hg ht hz hzs hc hf h1 (by rw [flatten_len h2, hlen]) (pureL_flat hpu) (by rw [← hlen]; exact chunks_flat xs h2) hp hM h

/-- An element's address in a window. -/
theorem TW.iw {t e e' : TypeId} {x y : Operand} {sz id lo hi : Nat} {xs : List (List GV)} {k : IntKind} {n : Int} (ho : o.op = .indexAddr t x y) (hg : o.guard = none)
    (hx : rhoOf σ x = .win id lo hi) (hy : rhoOf σ y = .lit (.int k n)) (hM : getM M id = .row e' sz xs) (ht : T.u t = some (.slice e)) (hsz : T.sz e = sz) (hne : T.sz e ≠ 0) (h0 : 0 ≤ n) (h1 : n < (hi - lo : Nat)) (hp : putS σ o.dst (.adr id (lo + n.toNat) 0) = σ')
    (h : TW P ds rest σ' M (tr ++ [⟨o.dst, [id], [], M.length, 0⟩]) K) : TW P ds (o :: rest) σ M tr K := by
  subst hp
  exact TW.rd hg (os_idxW ho (T.uok _ _ ht) (by rw [T.szok _ hne]; exact hsz) (by omega) hx hM hy h0 h1) h

/-- A cell of an array that is read alone. -/
theorem TW.ij {t e : TypeId} {len : Nat} {x y : Operand} {bw : Bool} {cs cs' : List GV} {k : IntKind} {n : Int} (ho : o.op = .indexAddr t x y) (hg : o.guard = none)
    (hx : rhoOf σ x = .iadr bw cs) (hy : rhoOf σ y = .lit (.int k n)) (ht : T.u t = some (.array len e)) (hne : T.sz e ≠ 0) (h0 : 0 ≤ n) (h1 : n < len) (hc : cs.drop (n.toNat * T.sz e) = cs') (hp : putS σ o.dst (.iadr bw cs') = σ')
    (h : TW P ds rest σ' M (tr ++ [⟨o.dst, [], [], M.length, 0⟩]) K) : TW P ds (o :: rest) σ M tr K := by
  subst hp; subst hc
  refine TW.rd hg ?_ h
  have := os_idxAI (P := P) (ρ := rhoOf σ) (nb := M.length) (M0 := getM M) ho (T.uok _ _ ht) (by rw [T.szok _ hne]; exact hne) hx hy h0 h1
  rwa [T.szok _ hne] at this

/-- A whole element of a row is written. -/
theorem TW.sw {t e sz : Nat} {x y : Operand} {id i : Nat} {vs x0 : List GV} {xs xs' : List (List GV)} {d : TypeDesc} (ho : o.op = .store t x y) (hg : o.guard = none) (hx : rhoOf σ x = .adr id i 0) (hy : gcells (rhoOf σ y) = some vs)
    (hu : T.u t = some d) (hsz : T.sz t = vs.length) (hne : vs.length ≠ 0) (hM0 : getM M id = .row e sz xs) (hx0 : xs[i]? = some x0) (hxl : x0.length = vs.length) (hpu : pureL vs = true) (hs : xs.set i vs = xs') (hid : id < M.length) (hd : o.dst = none) (hM : updL M [(id, .row e sz xs')] [] = M')
    (h : TW P ds rest σ M' (tr ++ [⟨none, [id], [id], M.length, 0⟩]) K) : TW P ds (o :: rest) σ M tr K := by
  subst hs
  have hset : setMany x0 0 vs = vs := by
    apply List.ext_getElem?
    intro k
    by_cases hk : k < vs.length
    · rw [setMany_get _ _ _ _ (by omega)]; simp [hk]
    · rw [List.getElem?_eq_none (by rw [setMany_length]; omega), List.getElem?_eq_none (by omega)]
  exact TW.st T ho hg hx hy hu hsz hne (by rw [hM0]; unfold putAt; simp only [hx0]; rw [if_pos ⟨by omega, hpu⟩, hset]) hid hd hM h
end

theorem dg_dropc (d : Nat → Int) {k : Nat} (h : k < 16) : (dg d).drop ((k : Int).toNat * 1) = lu (d k) :: (dg d).drop (k + 1) := by
  rw [Int.toNat_natCast, Nat.mul_one]
  have h1 : k < (dg d).length := by rw [dg_len]; exact h
  have h2 := dg_at d h
  rw [List.getElem?_eq_getElem h1] at h2
  rw [List.drop_eq_getElem_cons h1, Option.some.inj h2]

theorem dg_setd (a b : Nat → Int) : setMany (dg a) 0 (dg b) = dg b := rfl
theorem dg_renl (f : Nat → Nat) (d : Nat → Int) : renL f (dg d) = dg d := rfl
theorem dg_tk (d : Nat → Int) : List.take 16 (dg d) = dg d := rfl
theorem dg_rena (f : Nat → Nat) (d : Nat → Int) : ren f (.agg (dg d)) = .agg (dg d) := rfl

/-- At a round's end, too, what is held may be told another way. -/
theorem CS.toG {m : Nat} {c : Code} {σ : List GV} {M : List GO} {R : Exit → List GV → List GO → Prop} (h : CS P m c σ M fun e σ' M' => GS m σ' M' (R e)) : CS P m c σ M R := CS.monoG h fun _ _ _ h => h

def d0 : Nat → Int := fun _ => 0
theorem dgz : GV.agg [GV.lit (.int .u32 0), GV.lit (.int .u32 0), GV.lit (.int .u32 0), GV.lit (.int .u32 0), GV.lit (.int .u32 0), GV.lit (.int .u32 0), GV.lit (.int .u32 0), GV.lit (.int .u32 0), GV.lit (.int .u32 0), GV.lit (.int .u32 0), GV.lit (.int .u32 0), GV.lit (.int .u32 0), GV.lit (.int .u32 0), GV.lit (.int .u32 0), GV.lit (.int .u32 0), GV.lit (.int .u32 0)] = GV.agg (dg d0) := rfl
theorem dgzc : GO.cells [GV.lit (.int .u32 0), GV.lit (.int .u32 0), GV.lit (.int .u32 0), GV.lit (.int .u32 0), GV.lit (.int .u32 0), GV.lit (.int .u32 0), GV.lit (.int .u32 0), GV.lit (.int .u32 0), GV.lit (.int .u32 0), GV.lit (.int .u32 0), GV.lit (.int .u32 0), GV.lit (.int .u32 0), GV.lit (.int .u32 0), GV.lit (.int .u32 0), GV.lit (.int .u32 0), GV.lit (.int .u32 0)] = GO.cells (dg d0) := rfl

def opk3 : Op → Nat
  | .binOp .lss .. => 31
  | .indexAddr .. => 32
  | .store .. => 33
  | .binOp .eql .. => 34
  | .binOp .neq .. => 34
  | _ => 0
theorem TW.kd3 {ds : List (Option Tmp)} {o : Oper} {rest : List Oper} {σ : List GV} {M : List GO} {tr : List RI} {K : List GV → List GO → List RI → Prop} (k : Nat) (_hk : opk3 o.op = k) (h : TW P ds (o :: rest) σ M tr K) : TW P ds (o :: rest) σ M tr K := h

/-! Two lists, held against each other one by one. -/
def samb {α : Type} (q : α → α → Bool) : List α → List α → Bool
  | [], [] => true
  | x :: l, y :: r => q x y && samb q l r
  | _, _ => false
theorem samb_nn {α : Type} (q : α → α → Bool) : samb q [] [] = true := rfl
theorem samb_cc {α : Type} (q : α → α → Bool) (x y : α) (l r : List α) : samb q (x :: l) (y :: r) = (q x y && samb q l r) := rfl
theorem samb_ne {α : Type} (q : α → α → Bool) : ∀ {l r : List α}, l.length ≠ r.length → samb q l r = false
  | [], [], h => absurd rfl h
  | [], _ :: _, _ => rfl
  | _ :: _, [], _ => rfl
  | x :: l, y :: r, h => by
    rw [samb_cc, samb_ne q (l := l) (r := r) (by simpa using h), Bool.and_false]
theorem samb_refl {α : Type} {q : α → α → Bool} (h : ∀ x, q x x = true) : ∀ l : List α, samb q l l = true
  | [] => rfl
  | x :: l => by rw [samb_cc, h, samb_refl h l]; rfl
theorem samb_eq {α : Type} {q : α → α → Bool} (h : ∀ x y, q x y = true ↔ x = y) : ∀ l r : List α, samb q l r = true ↔ l = r
  | [], [] => by simp [samb]
  | [], _ :: _ => by simp [samb]
  | _ :: _, [] => by simp [samb]
  | x :: l, y :: r => by rw [samb_cc, Bool.and_eq_true, h, samb_eq h l r, List.cons.injEq]

def eqi (x y : Int) : Bool := x == y
theorem eqi_refl (x : Int) : eqi x x = true := by simp [eqi]

/-- A copy's elements, and the room behind it, while it is filled. -/
def ownx (l : List (List GV)) (f z : List GV) (j : Nat) : List (List GV) := l ++ (List.replicate j f ++ List.replicate (3 - j) z)
theorem ownx_len (l : List (List GV)) (f z : List GV) {j : Nat} (h : j ≤ 3) : (ownx l f z j).length = l.length + 3 := by simp [ownx]; omega
theorem ownx_get (l : List (List GV)) (f z : List GV) {j : Nat} (h : j < 3) : (ownx l f z j)[l.length + j]? = some z := by
  have e : 3 - j = (3 - (j + 1)) + 1 := by omega
  rw [ownx, List.getElem?_append_right (by omega), e, List.replicate_succ, List.getElem?_append_right (by simp)]
  simp
theorem ownx_set (l : List (List GV)) (f z : List GV) {j : Nat} (h : j < 3) : (ownx l f z j).set (l.length + j) f = ownx l f z (j + 1) := by
  have e : 3 - j = (3 - (j + 1)) + 1 := by omega
  rw [ownx, ownx, List.set_append_right _ _ (by omega), e, List.replicate_succ (n := 3 - (j + 1)), List.set_append_right _ _ (by simp), List.length_replicate, show l.length + j - l.length - j = 0 by omega, List.set_cons_zero, List.replicate_succ']
  simp
theorem ownx_spl (l : List (List GV)) (f z : List GV) : spl (List.replicate (l.length + 3) z) 0 l = ownx l f z 0 := by
  simp [spl, ownx]
theorem ownx_spl3 (l : List (List GV)) (f z : List GV) : spl (z :: z :: z :: List.replicate l.length z) 0 l = ownx l f z 0 := by
  rw [← ownx_spl, ← List.replicate_succ, ← List.replicate_succ, ← List.replicate_succ]
theorem ownx_take (l : List (List GV)) (f z : List GV) : (ownx l f z 3).take l.length = l := by simp [ownx]
theorem ownx_drop (l : List (List GV)) (f z : List GV) : (ownx l f z 3).drop l.length = [f, f, f] := by simp [ownx, List.replicate_succ]
end Go.Gh
