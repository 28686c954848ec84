import Derived.Test.YtbkahcionjkgjaaGhZaZi
import Derived.Lib.AppendZerosOnto
import Derived.Lib.Overlaps
import Derived.MapKept

/-! How much room there is; a nil slice within an object. -/

namespace Go.Gh
variable {P : Program}

theorem os_igeLt {o : Oper} {ρ : Rho} {nb : Nat} {M0 : Nat → GO} {t yt : TypeId} {x y : Operand} {n m : Int} (ho : o.op = .binOp .lss t x y yt) (hx : ρ x = .ige n) (hy : ρ y = .lit (.int .i64 m)) (h : m ≤ n) : OpS P o ρ nb M0 [] (.lit (.bool false)) [] [] := by
  refine .quiet fun Γ D ι M w ac _ hV _ => ⟨_, .litv _, ?_⟩
  obtain ⟨k, h1, h3, _⟩ := (hx ▸ hV x (by simp [ho, Op.operands])).ige_inv
  have h2 := (hy ▸ hV y (by simp [ho, Op.operands])).lit_inv
  simp only [execOp, ho, h1, h2, Sem.run_bind]
  rw [run_eqGuard_int]
  simp only [Result.andThen_ok, Sem.run_pure]
  rw [run_gint (r := .bool false) (by simp) (by simp) (by simp only [gint]; rw [decide_eq_false (by omega)])]
  rfl

/-- A nil slice within an object is one that is read alone. -/
theorem GS.nilO {m : Nat} {σ : List GV} {M : List GO} {K : List GV → List GO → Prop} (id j sz : Nat) {cs : List GV} (hM : getM M id = .cells cs) (hc : nthG cs j = some (.lit (.slice none 0 0)))
    (h : GS m σ (M.set id (.cells (cs.set j (.sl false sz [] [])))) K) : GS m σ M K := by
  intro Γ ι w a hm hS hL
  have hid : id < M.length := hS.liv id (by rw [hM]; simp)
  have hob := hS.obj id
  rw [hM] at hob
  obtain ⟨h0, b, arr, t, h1, h2, h3, hf, h4⟩ := hob
  have hjl : j < cs.length := (List.getElem?_eq_some_iff.1 (nthG_ok hc)).1
  have hput := hS.put (id := id) (o := .cells (cs.set j (.sl false sz [] []))) (w' := w) (by rw [hM]; simp) (Nat.le_refl _) (fun _ _ _ => rfl)
    ⟨h0, b, arr, t, h1, h2, by rw [List.length_set]; exact h3, hf, fun j' g hg => by
      by_cases e' : j = j'
      · subst e'
        rw [List.getElem?_set_self hjl] at hg
        cases hg
        have hv := (h4 j _ (nthG_ok hc)).lit_inv
        rw [hv]
        exact GLe.nilS false sz _ _ _ _ _ _ (.imm (.lit _))
      · rw [List.getElem?_set_ne e'] at hg
        exact h4 j' g hg⟩
  have hMe : setF (getM M) id (.cells (cs.set j (.sl false sz [] []))) = getM (M.set id (.cells (cs.set j (.sl false sz [] [])))) := by
    funext i
    unfold setF getM
    rw [List.getD_eq_getElem?_getD, List.getD_eq_getElem?_getD]
    by_cases e1 : i = id
    · subst e1; rw [if_pos rfl, List.getElem?_set_self hid]; rfl
    · rw [if_neg e1, List.getElem?_set_ne (Ne.symm e1)]
  rw [hMe] at hput
  obtain ⟨σ1, M1, Im1, ι1, k1, k2, k3, k4, k5, k6⟩ := h Γ ι w a (by rw [List.length_set]; exact hm) (by rw [List.length_set]; exact hput) (by rw [List.length_set]; exact hL)
  exact ⟨σ1, M1, Im1, ι1, k1, k2, k3, k4, k5, k6⟩

theorem os_idxW {o : Oper} {ρ : Rho} {nb : Nat} {M0 : Nat → GO} {t e e' : TypeId} {x y : Operand} {sz id lo hi : Nat} {xs : List (List GV)} {k : IntKind} {n : Int} (ho : o.op = .indexAddr t x y) (ht : P.underlying t = some (.slice e)) (hsz : P.cellsOf e = sz) (hpos : sz ≠ 0)
    (hx : ρ x = .win id lo hi) (hM : M0 id = .row e' sz xs) (hy : ρ y = .lit (.int k n)) (h0 : 0 ≤ n) (h1 : n < (hi - lo : Nat)) : OpS P o ρ nb M0 [id] (.adr id (lo + n.toNat) 0) [] [] := by
  refine .quiet fun Γ D ι M w ac hS hV hMM => ?_
  obtain ⟨hD, hle, hhi, A, c, e1, hc, hA, hs, hb⟩ := (hx ▸ hV x (by simp [ho, Op.operands])).win_sub.sub_inv
  have e2 := (hy ▸ hV y (by simp [ho, Op.operands])).lit_inv
  obtain ⟨ti, hti⟩ := cellsOf_info (P := P) (t := e) (by omega)
  have hob := hS.obj id
  rw [hMM id (by simp), hM] at hob
  obtain ⟨⟨hz, _⟩, hn, _, cs, hown, _⟩ := hob
  obtain ⟨b, hb, hAb⟩ := hb (by omega)
  refine ⟨_, .adr id (lo + n.toNat) 0 b hD hb, ?_⟩
  simp [execOp, ho, e1, e2, hAb, Instr.indexAt, run_asIntOf, run_und ht, h0, h1, run_sz hti, hsz, add_lit, hz, Nat.add_mul]

/-! Arrays of numbers, held against each other. -/
def geqI : List GV → List GV → Option Bool
  | [], [] => some true
  | x :: l, y :: r => match x, y with
    | .lit (.int k a), .lit (.int k' b) => if k = k' then (geqI l r).map fun t => (a == b) && t else none
    | _, _ => none
  | _, _ => none

theorem eqItems_sound {w : World} {d : Nat} {e : TypeId} {k0 : IntKind} {us vs : Array Value} (ha : aggT P e = some false) (hu : P.underlying e = some (.int k0)) :
    ∀ (xs ys : List GV) (off : Nat) (r : Bool), geqI xs ys = some r → (∀ (i : Nat) v, xs[i]? = some (.lit v) → us[off + i]? = some v) → (∀ (i : Nat) v, ys[i]? = some (.lit v) → vs[off + i]? = some v) →
      (Op.eqItems (d + 1) e 1 us vs (List.range' off xs.length)).run P w = .ok r w
  | [], [], off, r, h, _, _ => by
    simp only [geqI, Option.some.injEq] at h
    subst h; rfl
  | [], _ :: _, _, _, h, _, _ => by simp [geqI] at h
  | _ :: _, [], _, _, h, _, _ => by simp [geqI] at h
  | x :: l, y :: r', off, r, h, hx, hy => by
    simp only [geqI] at h
    split at h
    · rename_i k a k' b
      split at h
      · rename_i hk
        subst hk
        obtain ⟨t, ht, hr⟩ := Option.map_eq_some_iff.1 h
        have ih := eqItems_sound (w := w) (d := d) (us := us) (vs := vs) ha hu l r' (off + 1) t ht
          (fun i v hv => by have := hx (i + 1) v (by simpa using hv); rwa [show off + 1 + i = off + (i + 1) by omega])
          (fun i v hv => by have := hy (i + 1) v (by simpa using hv); rwa [show off + 1 + i = off + (i + 1) by omega])
        have p1 : ∀ (us : Array Value) v, us[off + 0]? = some v → (part e us (off * 1)).run P w = .ok v w := fun us v hv => by
          rw [Nat.add_zero] at hv
          simp [part, run_isA ha, hv]
        rw [List.length_cons, List.range'_succ]
        simp only [Op.eqItems, Sem.run_bind, p1 us _ (hx 0 _ rfl), p1 vs _ (hy 0 _ rfl), Result.andThen_ok, run_equalIn_int hu]
        subst hr
        rw [Sem.run_ite]
        split
        · rename_i hb
          simp only [Bool.not_eq_true'] at hb
          rw [hb]; rfl
        · rename_i hb
          simp only [Bool.not_eq_true', Bool.not_eq_false] at hb
          rw [hb, ih]; rfl
      · cases h
    · cases h

theorem os_arrEq {o : Oper} {ρ : Rho} {nb : Nat} {M0 : Nat → GO} {t yt e : TypeId} {n : Nat} {k0 : IntKind} {x y : Operand} {op : BinOp} {r r' : Bool} {xs ys : List GV} (ho : o.op = .binOp op t x y yt) (hx : litCells (ρ x) = some xs) (hy : litCells (ρ y) = some ys)
    (hu : P.underlying t = some (.array n e)) (he : P.underlying e = some (.int k0)) (hc : P.cellsOf e = 1) (hg : P.eqGuardType P.depth t = false) (hl : xs.length = n) (hr : geqI xs ys = some r)
    (hop : (op = .eql ∧ r' = r) ∨ (op = .neq ∧ r' = !r)) : OpS P o ρ nb M0 [] (.lit (.bool r')) [] [] := by
  refine .quiet fun Γ D ι M w ac _ hV _ => ⟨.bool r', .litv _, ?_⟩
  obtain ⟨us, h1, hn1, hu1⟩ := litCells_sound hx (hV x (by simp [ho, Op.operands]))
  obtain ⟨vs, h2, hn2, hu2⟩ := litCells_sound hy (hV y (by simp [ho, Op.operands]))
  obtain ⟨ti, hti⟩ := cellsOf_info (P := P) (t := e) (by rw [hc]; decide)
  have he : (Op.equalIn 10000 t (.agg us) (.agg vs)).run P w = .ok r w := by
    rw [run_equalIn_array w 9999 us vs hu hti, hc, List.range_eq_range', ← hl]
    exact eqItems_sound (d := 9998) (by unfold aggT; rw [he]; rfl) he xs ys 0 r hr (fun i v hv => by rw [Nat.zero_add]; exact hu1 i v hv) (fun i v hv => by rw [Nat.zero_add]; exact hu2 i v hv)
  simp only [execOp, ho, h1, h2, Sem.run_bind, run_eqGuard_agg w op t x y us vs hg, Result.andThen_ok]
  rcases hop with ⟨rfl, rfl⟩ | ⟨rfl, rfl⟩
  · rw [run_eql_struct w t us vs, he]; rfl
  · rw [run_neq_struct w t us vs, he]; rfl

/-! Slices whose elements are all told. -/
def pt (sz : Nat) : Nat → List (Nat × GV) → Option (List (List GV))
  | _, [] => some []
  | k, (i, g) :: r => if i = k then match gcells g with
    | some cs => if cs.length = sz then (pt sz (k + 1) r).map (cs :: ·) else none
    | none => none
    else none

theorem setMany_mid (a b c vs : List GV) (h : vs.length = b.length) : setMany (a ++ b ++ c) a.length vs = a ++ vs ++ c := by
  apply List.ext_getElem?
  intro k
  rw [setMany_get _ _ _ _ (by simp; omega)]
  by_cases h1 : a.length ≤ k ∧ k < a.length + vs.length
  · rw [if_pos h1, List.append_assoc, List.getElem?_append_right h1.1, List.getElem?_append_left (by omega)]
  · rw [if_neg h1]
    by_cases h2 : k < a.length
    · rw [List.append_assoc, List.append_assoc, List.getElem?_append_left h2, List.getElem?_append_left h2]
    · rw [List.getElem?_append_right (by simp; omega), List.getElem?_append_right (by simp; omega)]
      simp [h]

theorem pt_fill {sz : Nat} : ∀ (parts : List (Nat × GV)) (k : Nat) (xs : List (List GV)), pt sz k parts = some xs → ∀ (a b : List GV), a.length = k * sz → b.length = xs.length * sz →
    gfill (fun i => some (i * sz, sz)) (a ++ b) parts = some (a ++ xs.flatten) ∧ ∀ x, x ∈ xs → x.length = sz
  | [], k, xs, h, a, b, ha, hb => by
    simp only [pt, Option.some.injEq] at h
    subst h
    have : b = [] := List.eq_nil_of_length_eq_zero (by simpa using hb)
    subst this
    exact ⟨by simp [gfill], fun x hx => by simp at hx⟩
  | (i, g) :: r, k, xs, h, a, b, ha, hb => by
    simp only [pt] at h
    split at h
    · rename_i hik
      subst hik
      split at h
      · rename_i cs hcs
        split at h
        · rename_i hl
          obtain ⟨ys, hys, rfl⟩ := Option.map_eq_some_iff.1 h
          rw [List.length_cons, Nat.add_mul, Nat.one_mul] at hb
          have hb1 : (b.take sz).length = sz := by rw [List.length_take]; omega
          have hset : setMany (a ++ b) (i * sz) cs = (a ++ cs) ++ b.drop sz := by
            have := setMany_mid a (b.take sz) (b.drop sz) cs (by omega)
            rwa [ha, List.append_assoc, List.take_append_drop] at this
          obtain ⟨ih, ih2⟩ := pt_fill r (i + 1) ys hys (a ++ cs) (b.drop sz) (by rw [List.length_append, ha, hl, Nat.add_mul, Nat.one_mul]) (by rw [List.length_drop]; omega)
          refine ⟨?_, fun x hx => ?_⟩
          · simp only [gfill, hcs]
            rw [if_pos ⟨hl, by rw [List.length_append, ha]; omega⟩, hset, ih, List.flatten_cons, List.append_assoc]
          · rcases List.mem_cons.1 hx with rfl | hx
            · exact hl
            · exact ih2 x hx
        · cases h
      · cases h
    · cases h

theorem chunks_flat {sz : Nat} : ∀ (xs : List (List GV)), (∀ x, x ∈ xs → x.length = sz) → chunks sz xs.length xs.flatten = xs
  | [], _ => rfl
  | x :: xs, h => by
    have hx := h x (List.mem_cons_self ..)
    rw [List.length_cons, chunks, List.flatten_cons, List.take_append_of_le_length (by omega), List.take_of_length_le (by omega), List.drop_append_of_le_length (by omega), List.drop_of_length_le (by omega), List.nil_append, chunks_flat xs fun y hy => h y (List.mem_cons_of_mem _ hy)]

theorem pureL_append : ∀ {a b : List GV}, pureL a = true → pureL b = true → pureL (a ++ b) = true
  | [], b, _, h => h
  | x :: a, b, h1, h2 => by
    simp only [pureL, Bool.and_eq_true, List.cons_append] at h1 ⊢
    exact ⟨h1.1, pureL_append h1.2 h2⟩
theorem pureL_flat : ∀ {xs : List (List GV)}, xs.all pureL = true → pureL xs.flatten = true
  | [], _ => rfl
  | x :: xs, h => by
    rw [List.all_cons, Bool.and_eq_true] at h
    rw [List.flatten_cons]
    exact pureL_append h.1 (pureL_flat h.2)

section
variable (T : Tab P) {ds : List (Option Tmp)} {o : Oper} {rest : List Oper} {σ σ' : List GV} {M M' : List GO} {tr : List RI} {K : List GV → List GO → List RI → Prop}

theorem TW.cp {t e : Nat} {x : Operand} {bw : Bool} {sz : Nat} {xs ex : List (List GV)} (ho : o.op = .call { callee := .builtin .cap, args := #[x], argTypes := #[t] }) (hg : o.guard = none) (ht : T.u t = some (.slice e)) (hx : rhoOf σ x = .sl bw sz xs ex)
    (hp : putS σ o.dst (.ige (xs.length + ex.length)) = σ') (h : TW P ds rest σ' M (tr ++ [⟨o.dst, [], [], M.length, 0⟩]) K) : TW P ds (o :: rest) σ M tr K := by
  subst hp
  exact TW.rd hg (os_cap ho (T.uok _ _ ht) hx) h

theorem TW.cg {t yt : TypeId} {x y : Operand} {n m : Int} (ho : o.op = .binOp .lss t x y yt) (hg : o.guard = none) (hx : rhoOf σ x = .ige n) (hy : rhoOf σ y = .lit (.int .i64 m)) (hb : m ≤ n)
    (hp : putS σ o.dst (.lit (.bool false)) = σ') (h : TW P ds rest σ' M (tr ++ [⟨o.dst, [], [], M.length, 0⟩]) K) : TW P ds (o :: rest) σ M tr K := by
  subst hp
  exact TW.rd hg (os_igeLt ho hx hy hb) h
theorem TW.ba {op : BinOp} {t yt e : TypeId} {n : Nat} {k0 : IntKind} {x y : Operand} {r r' : Bool} {xs ys : List GV} (ho : o.op = .binOp op t x y yt) (hg : o.guard = none) (hx : litCells (rhoOf σ x) = some xs) (hy : litCells (rhoOf σ y) = some ys)
    (ht : T.u t = some (.array n e)) (he : T.u e = some (.int k0)) (hc : T.sz e = 1) (heq : T.eq t = true) (hl : xs.length = n) (hr : geqI xs ys = some r) (hop : (op = .eql ∧ r' = r) ∨ (op = .neq ∧ r' = !r)) (hp : putS σ o.dst (.lit (.bool r')) = σ')
    (h : TW P ds rest σ' M (tr ++ [⟨o.dst, [], [], M.length, 0⟩]) K) : TW P ds (o :: rest) σ M tr K := by
  subst hp
  exact TW.rd hg (os_arrEq ho hx hy (T.uok t _ ht) (T.uok e _ he) (by rw [T.szok _ (by rw [hc]; decide)]; exact hc) (T.eqok t heq).1 hl hr hop) h

/-- A slice whose elements are all told. -/
theorem TW.bm {t e : TypeId} {len : Nat} {parts : Array (Nat × Operand)} {z : Value} {xs : List (List GV)} (ho : o.op = .buildSlice t len parts) (hg : o.guard = none) (ht : T.u t = some (.slice e)) (hz : T.z e = some z)
    (hzs : z.cells.size = T.sz e) (hc : T.sz e ≠ 0 ∧ 0 < len ∧ len * T.sz e ≤ 16777216) (hf : flatAll z = true)
    (hpt : pt (T.sz e) 0 (parts.toList.map fun x => (x.1, rhoOf σ x.2)) = some xs) (hlen : xs.length = len) (hpu : xs.all pureL = true) (hp : putS σ o.dst (.row M.length) = σ') (hM : M ++ [.row e (T.sz e) xs] = M')
    (h : TW P ds rest σ' M' (tr ++ [⟨o.dst, [], [], M.length, 1⟩]) K) : TW P ds (o :: rest) σ M tr K := by
  have hzl : (z.cells.toList.map GV.lit).length = T.sz e := by simpa using hzs
  obtain ⟨h1, h2⟩ := pt_fill _ 0 xs hpt [] ((List.replicate len (z.cells.toList.map .lit)).flatten) (by simp) (by rw [flatten_len (sz := T.sz e) (fun x hx => by rw [List.mem_replicate] at hx; rw [hx.2]; exact hzl), List.length_replicate, hlen])
  rw [List.nil_append, List.nil_append] at h1
  exact TW.bl T ho hg ht hz hzs hc hf h1 (by rw [flatten_len h2, hlen]) (pureL_flat hpu) (by rw [← hlen]; exact chunks_flat xs h2) hp hM h

/-- An element's address in a window. -/
theorem TW.iw {t e e' : TypeId} {x y : Operand} {sz id lo hi : Nat} {xs : List (List GV)} {k : IntKind} {n : Int} (ho : o.op = .indexAddr t x y) (hg : o.guard = none)
    (hx : rhoOf σ x = .win id lo hi) (hy : rhoOf σ y = .lit (.int k n)) (hM : getM M id = .row e' sz xs) (ht : T.u t = some (.slice e)) (hsz : T.sz e = sz) (hne : T.sz e ≠ 0) (h0 : 0 ≤ n) (h1 : n < (hi - lo : Nat)) (hp : putS σ o.dst (.adr id (lo + n.toNat) 0) = σ')
    (h : TW P ds rest σ' M (tr ++ [⟨o.dst, [id], [], M.length, 0⟩]) K) : TW P ds (o :: rest) σ M tr K := by
  subst hp
  exact TW.rd hg (os_idxW ho (T.uok _ _ ht) (by rw [T.szok _ hne]; exact hsz) (by omega) hx hM hy h0 h1) h

/-- A cell of an array that is read alone. -/
theorem TW.ij {t e : TypeId} {len : Nat} {x y : Operand} {bw : Bool} {cs cs' : List GV} {k : IntKind} {n : Int} (ho : o.op = .indexAddr t x y) (hg : o.guard = none)
    (hx : rhoOf σ x = .iadr bw cs) (hy : rhoOf σ y = .lit (.int k n)) (ht : T.u t = some (.array len e)) (hne : T.sz e ≠ 0) (h0 : 0 ≤ n) (h1 : n < len) (hc : cs.drop (n.toNat * T.sz e) = cs') (hp : putS σ o.dst (.iadr bw cs') = σ')
    (h : TW P ds rest σ' M (tr ++ [⟨o.dst, [], [], M.length, 0⟩]) K) : TW P ds (o :: rest) σ M tr K := by
  subst hp; subst hc
  refine TW.rd hg ?_ h
  have := os_idxAI (P := P) (ρ := rhoOf σ) (nb := M.length) (M0 := getM M) ho (T.uok _ _ ht) (by rw [T.szok _ hne]; exact hne) hx hy h0 h1
  rwa [T.szok _ hne] at this

/-- A whole element of a row is written. -/
theorem TW.sw {t e sz : Nat} {x y : Operand} {id i : Nat} {vs x0 : List GV} {xs xs' : List (List GV)} {d : TypeDesc} (ho : o.op = .store t x y) (hg : o.guard = none) (hx : rhoOf σ x = .adr id i 0) (hy : gcells (rhoOf σ y) = some vs)
    (hu : T.u t = some d) (hsz : T.sz t = vs.length) (hne : vs.length ≠ 0) (hM0 : getM M id = .row e sz xs) (hx0 : xs[i]? = some x0) (hxl : x0.length = vs.length) (hpu : pureL vs = true) (hs : xs.set i vs = xs') (hid : id < M.length) (hd : o.dst = none) (hM : updL M [(id, .row e sz xs')] [] = M')
    (h : TW P ds rest σ M' (tr ++ [⟨none, [id], [id], M.length, 0⟩]) K) : TW P ds (o :: rest) σ M tr K := by
  subst hs
  have hset : setMany x0 0 vs = vs := by
    apply List.ext_getElem?
    intro k
    by_cases hk : k < vs.length
    · rw [setMany_get _ _ _ _ (by omega)]; simp [hk]
    · rw [List.getElem?_eq_none (by rw [setMany_length]; omega), List.getElem?_eq_none (by omega)]
  exact TW.st T ho hg hx hy hu hsz hne (by rw [hM0]; unfold putAt; simp only [hx0]; rw [if_pos ⟨by omega, hpu⟩, hset]) hid hd hM h
end

theorem dg_dropc (d : Nat → Int) {k : Nat} (h : k < 16) : (dg d).drop ((k : Int).toNat * 1) = lu (d k) :: (dg d).drop (k + 1) := by
  rw [Int.toNat_natCast, Nat.mul_one]
  have h1 : k < (dg d).length := by rw [dg_len]; exact h
  have h2 := dg_at d h
  rw [List.getElem?_eq_getElem h1] at h2
  rw [List.drop_eq_getElem_cons h1, Option.some.inj h2]

theorem dg_setd (a b : Nat → Int) : setMany (dg a) 0 (dg b) = dg b := rfl
theorem dg_renl (f : Nat → Nat) (d : Nat → Int) : renL f (dg d) = dg d := rfl
theorem dg_tk (d : Nat → Int) : List.take 16 (dg d) = dg d := rfl
theorem dg_rena (f : Nat → Nat) (d : Nat → Int) : ren f (.agg (dg d)) = .agg (dg d) := rfl

/-- At a round's end, too, what is held may be told another way. -/
theorem CS.toG {m : Nat} {c : Code} {σ : List GV} {M : List GO} {R : Exit → List GV → List GO → Prop} (h : CS P m c σ M fun e σ' M' => GS m σ' M' (R e)) : CS P m c σ M R := CS.monoG h fun _ _ _ h => h

def d0 : Nat → Int := fun _ => 0
theorem dgz : GV.agg [GV.lit (.int .u32 0), GV.lit (.int .u32 0), GV.lit (.int .u32 0), GV.lit (.int .u32 0), GV.lit (.int .u32 0), GV.lit (.int .u32 0), GV.lit (.int .u32 0), GV.lit (.int .u32 0), GV.lit (.int .u32 0), GV.lit (.int .u32 0), GV.lit (.int .u32 0), GV.lit (.int .u32 0), GV.lit (.int .u32 0), GV.lit (.int .u32 0), GV.lit (.int .u32 0), GV.lit (.int .u32 0)] = GV.agg (dg d0) := rfl
theorem dgzc : GO.cells [GV.lit (.int .u32 0), GV.lit (.int .u32 0), GV.lit (.int .u32 0), GV.lit (.int .u32 0), GV.lit (.int .u32 0), GV.lit (.int .u32 0), GV.lit (.int .u32 0), GV.lit (.int .u32 0), GV.lit (.int .u32 0), GV.lit (.int .u32 0), GV.lit (.int .u32 0), GV.lit (.int .u32 0), GV.lit (.int .u32 0), GV.lit (.int .u32 0), GV.lit (.int .u32 0), GV.lit (.int .u32 0)] = GO.cells (dg d0) := rfl

def opk3 : Op → Nat
  | .binOp .lss .. => 31
  | .indexAddr .. => 32
  | .store .. => 33
  | .binOp .eql .. => 34
  | .binOp .neq .. => 34
  | _ => 0
theorem TW.kd3 {ds : List (Option Tmp)} {o : Oper} {rest : List Oper} {σ : List GV} {M : List GO} {tr : List RI} {K : List GV → List GO → List RI → Prop} (k : Nat) (_hk : opk3 o.op = k) (h : TW P ds (o :: rest) σ M tr K) : TW P ds (o :: rest) σ M tr K := h

/-! Two lists, held against each other one by one. -/
def samb {α : Type} (q : α → α → Bool) : List α → List α → Bool
  | [], [] => true
  | x :: l, y :: r => q x y && samb q l r
  | _, _ => false
theorem samb_nn {α : Type} (q : α → α → Bool) : samb q [] [] = true := rfl
theorem samb_cc {α : Type} (q : α → α → Bool) (x y : α) (l r : List α) : samb q (x :: l) (y :: r) = (q x y && samb q l r) := rfl
theorem samb_ne {α : Type} (q : α → α → Bool) : ∀ {l r : List α}, l.length ≠ r.length → samb q l r = false
  | [], [], h => absurd rfl h
  | [], _ :: _, _ => rfl
  | _ :: _, [], _ => rfl
  | x :: l, y :: r, h => by
    rw [samb_cc, samb_ne q (l := l) (r := r) (by simpa using h), Bool.and_false]
theorem samb_refl {α : Type} {q : α → α → Bool} (h : ∀ x, q x x = true) : ∀ l : List α, samb q l l = true
  | [] => rfl
  | x :: l => by rw [samb_cc, h, samb_refl h l]; rfl
theorem samb_eq {α : Type} {q : α → α → Bool} (h : ∀ x y, q x y = true ↔ x = y) : ∀ l r : List α, samb q l r = true ↔ l = r
  | [], [] => by simp [samb]
  | [], _ :: _ => by simp [samb]
  | _ :: _, [] => by simp [samb]
  | x :: l, y :: r => by rw [samb_cc, Bool.and_eq_true, h, samb_eq h l r, List.cons.injEq]

def eqi (x y : Int) : Bool := x == y
theorem eqi_refl (x : Int) : eqi x x = true := by simp [eqi]

/-- A copy's elements, and the room behind it, while it is filled. -/
def ownx (l : List (List GV)) (f z : List GV) (j : Nat) : List (List GV) := l ++ (List.replicate j f ++ List.replicate (3 - j) z)
theorem ownx_len (l : List (List GV)) (f z : List GV) {j : Nat} (h : j ≤ 3) : (ownx l f z j).length = l.length + 3 := by simp [ownx]; omega
theorem ownx_get (l : List (List GV)) (f z : List GV) {j : Nat} (h : j < 3) : (ownx l f z j)[l.length + j]? = some z := by
  have e : 3 - j = (3 - (j + 1)) + 1 := by omega
  rw [ownx, List.getElem?_append_right (by omega), e, List.replicate_succ, List.getElem?_append_right (by simp)]
  simp
theorem ownx_set (l : List (List GV)) (f z : List GV) {j : Nat} (h : j < 3) : (ownx l f z j).set (l.length + j) f = ownx l f z (j + 1) := by
  have e : 3 - j = (3 - (j + 1)) + 1 := by omega
  rw [ownx, ownx, List.set_append_right _ _ (by omega), e, List.replicate_succ (n := 3 - (j + 1)), List.set_append_right _ _ (by simp), List.length_replicate, show l.length + j - l.length - j = 0 by omega, List.set_cons_zero, List.replicate_succ']
  simp
theorem ownx_spl (l : List (List GV)) (f z : List GV) : spl (List.replicate (l.length + 3) z) 0 l = ownx l f z 0 := by
  simp [spl, ownx]
theorem ownx_spl3 (l : List (List GV)) (f z : List GV) : spl (z :: z :: z :: List.replicate l.length z) 0 l = ownx l f z 0 := by
  rw [← ownx_spl, ← List.replicate_succ, ← List.replicate_succ, ← List.replicate_succ]
theorem ownx_take (l : List (List GV)) (f z : List GV) : (ownx l f z 3).take l.length = l := by simp [ownx]
theorem ownx_drop (l : List (List GV)) (f z : List GV) : (ownx l f z 3).drop l.length = [f, f, f] := by simp [ownx, List.replicate_succ]
end Go.Gh


/-! A row with the room behind it; copies; what is cleared. -/

namespace Go.Gh
variable {P : Program}

section
variable {m : Nat} {σ : List GV} {M : List GO} {K : List GV → List GO → Prop}

theorem getM_moved (M : List GO) (id : Nat) (hid : id < M.length) (o : GO) (i : Nat) : getM (M.set id .dead ++ [o]) i = if i = M.length then o else if i = id then .dead else getM M i := by
  rw [getM_append, List.length_set]
  split
  · rfl
  · exact getM_set M id hid i

/-- An object gives way to another one over the same block. -/
theorem moved_SR {Γ : Ctx} {ι : Nat → Hd} {M : List GO} {w : World} (hS : SR Γ (· < M.length) ι (getM M) w) {id : Nat} (hid : id < M.length) (hl : getM M id ≠ .dead) (hd : Hd) (o : GO)
    (hA : ∀ b, hd.A = some b → (ι id).A = some b)
    (ho : ∀ ι' : Nat → Hd, (∀ i, i < M.length → ι' i = ι i) → OR (VR Γ.Im Γ.Bw (· < M.length + 1) ι' w) (VP Γ.Im w) w hd o) :
    SR Γ (· < (M.set id .dead ++ [o]).length) (fun i => if i = M.length then hd else ι i) (getM (M.set id .dead ++ [o])) w := by
  have hlen : (M.set id GO.dead ++ [o]).length = M.length + 1 := by simp
  rw [hlen]
  refine hS.new (nb := M.length) (o := o) (by omega) (fun i => by omega) (fun i hi => if_neg (by omega)) (fun i hi => ?_) ?_ (Nat.le_refl _) (fun _ _ _ _ => rfl) (fun b hb => ?_) ?_
  · rw [getM_moved M id hid, if_neg hi]
    split
    · exact .inl rfl
    · exact .inr rfl
  · rw [getM_moved M id hid, if_pos rfl]
  · simp only [if_true] at hb
    exact .inr ⟨id, hl, by rw [getM_moved M id hid, if_neg (by omega), if_pos rfl], hA b hb⟩
  · simp only [if_true]
    exact ho _ fun i hi => if_neg (by omega)

theorem moved_SL {Γ : Ctx} {ι : Nat → Hd} {M : List GO} {w : World} {σ : List GV} {a : Act} (hL : SL Γ (· < M.length) ι w σ a) (id : Nat) (hd : Hd) (o : GO) :
    SL Γ (· < (M.set id .dead ++ [o]).length) (fun i => if i = M.length then hd else ι i) w σ a :=
  hL.mono (Γ' := Γ) (fun _ h => h) (fun _ h => h) (fun i hi => by show i < _; simp only [List.length_append, List.length_set, List.length_singleton]; have : i < M.length := hi; omega)
    (fun i hi => if_neg (by have : i < M.length := hi; omega)) (fun _ _ => rfl)

theorem nil_OR {V Vp : GV → Value → Prop} (w : World) (e sz : Nat) : OR V Vp w ⟨none, sz, 0, 0⟩ (.row e sz []) :=
  ⟨⟨rfl, fun b arr t hb => by simp at hb⟩, rfl, fun x h => by simp at h, [], World.ownsRow_nil w 0 e sz, fun v h => by simp at h, fun i j x g h => by simp at h⟩

/-- How many elements' room there is behind a row, it's a part of the row from now on: what is in it isn't known. -/
theorem GS.open (t : Nat) {id e sz : Nat} {xs : List (List GV)} (hσ : nthG σ t = some (.row id)) (hM : getM M id = .row e sz xs) (hpos : sz ≠ 0)
    (h : ∀ k : Nat, xs.length + k ≤ maxLen → GS m (σ.set t (.win M.length 0 xs.length)) (M.set id .dead ++ [.row e sz (xs ++ List.replicate k (List.replicate sz GV.any))]) K) : GS m σ M K := by
  intro Γ ι w a hm hS hL
  have hid : id < M.length := hS.liv id (by rw [hM]; simp)
  have hob := hS.obj id
  rw [hM] at hob
  obtain ⟨⟨e0, hsp⟩, e1, hz, cs, hown, hf, hrel⟩ := hob
  obtain ⟨hD, hv⟩ := (hL.2 t _ (nthG_ok hσ)).row_inv
  have hzk : ∀ k x, x ∈ xs ++ List.replicate k (List.replicate sz GV.any) → x.length = sz := fun k x hx => by
    rcases List.mem_append.1 hx with h | h
    · exact hz x h
    · rw [(List.mem_replicate.1 h).2, List.length_replicate]
  have hany : ∀ k, ∀ (i j : Nat) x g, (xs ++ List.replicate k (List.replicate sz GV.any))[i]? = some x → x[j]? = some g → xs.length ≤ i → g = .any := fun k i j x g hx hg hi => by
    rw [List.getElem?_append_right hi, List.getElem?_replicate] at hx
    split at hx
    · cases hx
      rw [List.getElem?_replicate] at hg
      split at hg
      · cases hg; rfl
      · cases hg
    · cases hx
  rcases hown.2 with ⟨hval, hn⟩ | ⟨b, cap, cur, hval, _, hg, hnc, hcm, hcs, htake⟩
  · have hAn : (ι id).A = none ∧ (ι id).n = 0 ∧ (ι id).c = 0 := by
      unfold Hd.val at hval
      cases hA : (ι id).A with
      | none => simp [hA] at hval; exact ⟨rfl, hval⟩
      | some b => simp [hA] at hval
    have hx0 : xs = [] := List.eq_nil_of_length_eq_zero hn
    subst hx0
    have h0 := h 0 (by simp [maxLen])
    simp only [List.replicate_zero, List.append_nil] at h0
    have hS' := moved_SR hS hid (by rw [hM]; simp) (⟨none, sz, 0, 0⟩ : Hd) (.row e sz []) (fun b hb => by simp at hb) fun ι' hι => nil_OR w e sz
    have hL' := (moved_SL hL id (⟨none, sz, 0, 0⟩ : Hd) (.row e sz [])).set t (g := .win M.length 0 0) (by
      rw [hv]
      have := VR.win (Im := Γ.Im) (Bw := Γ.Bw) (D := (· < (M.set id .dead ++ [GO.row e sz []]).length)) (ι := fun i => if i = M.length then (⟨none, sz, 0, 0⟩ : Hd) else ι i) (w := w) M.length 0 0 (by simp) none (Nat.le_refl _) (Nat.zero_le _) (by simp [maxLen]) (fun _ => by simp) (fun _ h => by cases h) (fun h => by simp at h)
      unfold Hd.val
      simpa [hAn] using this)
    obtain ⟨σ1, M1, Im1, ι1, h1, h2, h3, h4, h5, h6⟩ := h0 Γ _ w a (by simp; omega) hS' hL'
    exact ⟨σ1, M1, Im1, ι1, h1, h2, fun i hi => by rw [h3 i hi, if_neg (by omega)], h4, h5, h6⟩
  · have hAs : (ι id).A = some b ∧ (ι id).n = xs.length ∧ (ι id).c = cap := by
      unfold Hd.val at hval
      cases hA : (ι id).A with
      | none => simp [hA] at hval
      | some b' => simp [hA] at hval; exact ⟨by rw [hval.1], hval.2⟩
    obtain ⟨hA, hn1, hc1⟩ := hAs
    obtain ⟨k, rfl⟩ : ∃ k, cap = xs.length + k := ⟨cap - xs.length, by omega⟩
    have hlenk : (xs ++ List.replicate k (List.replicate sz GV.any)).length = xs.length + k := by simp
    have hcl : cur.toList.length = (xs.length + k) * sz := by simpa using hcs
    have hS' := moved_SR hS hid (by rw [hM]; simp) (⟨some b, sz, xs.length + k, xs.length + k⟩ : Hd) (.row e sz (xs ++ List.replicate k (List.replicate sz GV.any))) (fun b' hb => by rw [hA]; exact hb) fun ι' hι =>
      ⟨⟨rfl, fun b' arr t hb hg' => hsp b' arr t (by rw [hA]; exact hb) hg'⟩, hlenk.symm, hzk k, cur.toList,
        ⟨by rw [hlenk]; exact hcl, .inr ⟨b, xs.length + k, cur, by simp [Hd.val], Nat.zero_le _, hg, by rw [hlenk]; exact Nat.le_refl _, hcm, hcs, by rw [hlenk]; exact List.take_of_length_le (by omega)⟩⟩,
        fun v hv => hsp b cur e hA hg v hv, fun i j x g hx hj => by
          by_cases hi : i < xs.length
          · rw [List.getElem?_append_left hi] at hx
            have := hrel i j x g hx hj
            have hjl : j < sz := by rw [← hz x (List.mem_of_getElem? hx)]; exact (List.getElem?_eq_some_iff.1 hj).1
            have e2 : cs.getD (i * sz + j) undef = cur.toList.getD (i * sz + j) undef := by
              rw [← htake, List.getD_eq_getElem?_getD, List.getD_eq_getElem?_getD, List.getElem?_take, if_pos (grid_lt hi hjl)]
            rw [← e2]; exact this
          · rw [hany k i j x g hx hj (by omega)]
            exact .any _⟩
    have hL' := (moved_SL hL id (⟨some b, sz, xs.length + k, xs.length + k⟩ : Hd) (.row e sz (xs ++ List.replicate k (List.replicate sz GV.any)))).set t (g := .win M.length 0 xs.length) (by
      rw [hv]
      have := VR.win (Im := Γ.Im) (Bw := Γ.Bw) (D := (· < (M.set id .dead ++ [GO.row e sz (xs ++ List.replicate k (List.replicate sz GV.any))]).length)) (ι := fun i => if i = M.length then (⟨some b, sz, xs.length + k, xs.length + k⟩ : Hd) else ι i) (w := w) M.length 0 xs.length (by simp) (some ⟨b, 0, none⟩) (Nat.zero_le _) (by simp) (by simp; exact hcm) (fun h => by cases h) (fun _ h => by cases h; rfl) (fun h => ⟨b, by simp, by simp⟩)
      unfold Hd.val
      simpa [hA, hn1, hc1] using this)
    obtain ⟨σ1, M1, Im1, ι1, h1, h2, h3, h4, h5, h6⟩ := h k hcm Γ _ w a (by simp; omega) hS' hL'
    exact ⟨σ1, M1, Im1, ι1, h1, h2, fun i hi => by rw [h3 i hi, if_neg (by omega)], h4, h5, h6⟩

/-- .. and back: what stands behind is room again. -/
theorem GS.close (t : Nat) {id e sz hi : Nat} {xs : List (List GV)} (hσ : nthG σ t = some (.win id 0 hi)) (hM : getM M id = .row e sz xs) (hne : 0 < xs.length) (hh : hi ≤ xs.length)
    (h : GS m (σ.set t (.row M.length)) (M.set id .dead ++ [.row e sz (xs.take hi)]) K) : GS m σ M K := by
  intro Γ ι w a hm hS hL
  have hid : id < M.length := hS.liv id (by rw [hM]; simp)
  have hob := hS.obj id
  rw [hM] at hob
  obtain ⟨⟨e0, hsp⟩, e1, hz, cs, hown, hf, hrel⟩ := hob
  obtain ⟨hD, _, hhn, hcn, A, hv, hA, hsp2, hb⟩ := (hL.2 t _ (nthG_ok hσ)).win_inv
  obtain ⟨b, hb1, hb2⟩ := hb (by omega)
  rcases hown.2 with ⟨hval, hn⟩ | ⟨b', cap, cur, hval, _, hg, hnc, hcm, hcs, htake⟩
  · omega
  · have hAs : b' = b ∧ (ι id).n = xs.length ∧ (ι id).c = cap := by
      unfold Hd.val at hval
      simp [hb1] at hval; exact ⟨hval.1.symm, hval.2⟩
    obtain ⟨rfl, hn1, hc1⟩ := hAs
    have hcap : cap = xs.length := by omega
    subst hcap
    have hlenk : (xs.take hi).length = hi := by simp; omega
    have hmul : hi * sz ≤ xs.length * sz := Nat.mul_le_mul_right _ hh
    have hS' := moved_SR hS hid (by rw [hM]; simp) (⟨some b', sz, hi, xs.length⟩ : Hd) (.row e sz (xs.take hi)) (fun b2 hb => by rw [hb1]; exact hb) fun ι' hι =>
      ⟨⟨rfl, fun b2 arr t hb hg' => hsp b2 arr t (by rw [hb1]; exact hb) hg'⟩, hlenk.symm, fun x hx => hz x (List.mem_of_mem_take hx), cs.take (hi * sz),
        ⟨by rw [hlenk, List.length_take, hown.1]; omega, .inr ⟨b', xs.length, cur, by simp [Hd.val, hlenk], Nat.zero_le _, hg, by omega, hcm, hcs, by rw [hlenk, ← htake, List.take_take]; congr 1; omega⟩⟩,
        fun v hv => hf v (List.mem_of_mem_take hv), fun i j x g hx hj => by
          have hi2 : i < hi := by have := (List.getElem?_eq_some_iff.1 hx).1; omega
          rw [List.getElem?_take, if_pos hi2] at hx
          have := hrel i j x g hx hj
          have hjl : j < sz := by rw [← hz x (List.mem_of_getElem? hx)]; exact (List.getElem?_eq_some_iff.1 hj).1
          have e2 : (cs.take (hi * sz)).getD (i * sz + j) undef = cs.getD (i * sz + j) undef := by
            rw [List.getD_eq_getElem?_getD, List.getD_eq_getElem?_getD, List.getElem?_take, if_pos (grid_lt hi2 hjl)]
          rw [e2]; exact this⟩
    have hL' := (moved_SL hL id (⟨some b', sz, hi, xs.length⟩ : Hd) (.row e sz (xs.take hi))).set t (g := .row M.length) (by
      rw [hv, hb2]
      have := VR.row (Im := Γ.Im) (Bw := Γ.Bw) (D := (· < (M.set id .dead ++ [GO.row e sz (xs.take hi)]).length)) (ι := fun i => if i = M.length then (⟨some b', sz, hi, xs.length⟩ : Hd) else ι i) (w := w) M.length (by simp)
      simpa [hn1] using this)
    obtain ⟨σ1, M1, Im1, ι1, h1, h2, h3, h4, h5, h6⟩ := h Γ _ w a (by simp; omega) hS' hL'
    exact ⟨σ1, M1, Im1, ι1, h1, h2, fun i hi => by rw [h3 i hi, if_neg (by omega)], h4, h5, h6⟩
end

/-! What is asked of a window, and done with it. -/
section
variable {o : Oper} {ρ : Rho} {nb : Nat} {M0 : Nat → GO} {Im Bw D : Nat → Prop} {ι : Nat → Hd} {w : World}

theorem os_capW {t e : Nat} {x : Operand} {id lo hi e' sz : Nat} {xs : List (List GV)} (ho : o.op = .call { callee := .builtin .cap, args := #[x], argTypes := #[t] }) (ht : P.underlying t = some (.slice e))
    (hx : ρ x = .win id lo hi) (hM0 : M0 id = .row e' sz xs) : OpS P o ρ nb M0 [id] (.lit (.int .i64 ((xs.length - lo : Nat) : Int))) [] [] := by
  refine .quiet fun Γ D ι M w ac hS hV hM => ?_
  have hob := hS.obj id
  rw [hM id (by simp), hM0] at hob
  obtain ⟨_, e1, _⟩ := row_cases hob
  obtain ⟨hD, _, hhn, hcn, A, hv, _⟩ := (hx ▸ hV x (by simp [ho, Op.operands, Call.operands])).win_inv
  obtain ⟨cc, hrun⟩ := run_call_builtin (P := P) (w := w) (a := ac) ho
  refine ⟨_, .litv _, ?_⟩
  rw [hrun]
  simp [builtin, Builtin.cap_, hv, run_und ht, goInt, e1]

/-- A part with a bound of its own: that it may be. -/
theorem os_cut3 {t e sz id a b : Nat} {x : Operand} {lo hi mx : Option Operand} {e' sz' : Nat} {xs : List (List GV)} {l h : Int} (ho : o.op = .slice t x lo hi mx) (ht : P.underlying t = some (.slice e)) (hsz : P.cellsOf e = sz') (hsz' : sz' = sz) (hpos : sz ≠ 0)
    (hx : ρ x = .win id a b) (hM0 : M0 id = .row e' sz xs) (hl : bndG ρ 0 lo = some l) (hh : bndG ρ ((b - a : Nat) : Int) hi = some h) (hm : mxG ρ h (xs.length - a) mx) (hhm : hi = none → mx = none) (h0 : 0 ≤ l) (h1 : l ≤ h) (h2 : h ≤ (xs.length - a : Nat)) :
    OpS P o ρ nb M0 [id] .any [] [] := by
  subst hsz'
  refine .quiet fun Γ D ι M w ac hS hV hM => ?_
  have hob := hS.obj id
  rw [hM id (by simp), hM0] at hob
  obtain ⟨e0, e1, hz, cs, hown, hf, h3, h4⟩ := row_cases hob
  obtain ⟨hD, hab, hbn, hcn, A, hv, hA, hs, hb⟩ := (hx ▸ hV x (slice_ops ho).1).win_inv
  rw [e1] at hv
  obtain ⟨m, m1, m2, m3, _, hr⟩ := run_cut ho ht hsz hpos hV hv (n := xs.length - a) (Nat.le_refl _) hl hh hm hhm h0 h1 h2
  exact ⟨_, .imm (.any _), hr⟩

/-- What stands ahead in a window. -/
theorem win_olds {id e sz hi : Nat} {xs : List (List GV)} {u : Value} (h : VR Im Bw D ι w (.win id 0 hi) u) (ho : OR (VR Im Bw D ι w) (VP Im w) w (ι id) (.row e sz xs)) (hh : hi ≤ xs.length) :
    ∃ (A : Option Addr) (olds : List Value), u = .slice A hi xs.length ∧ olds.length = hi * sz ∧ (∀ v, v ∈ olds → flat v = true) ∧ (Builtin.firstCells sz hi (.slice A hi xs.length)).run P w.drew = .ok olds.toArray w.drew ∧
      (∀ x, x ∈ xs → x.length = sz) ∧ ∀ (i j : Nat) x g, (xs.take hi)[i]? = some x → x[j]? = some g → VP Im w g (olds.getD (i * sz + j) undef) := by
  obtain ⟨e0, e1, hz, cs, hown, hf, hrel, h4⟩ := row_cases ho
  obtain ⟨hD, _, hhn, hcn, A, hv, hA, hs, hb⟩ := h.win_inv
  rw [e1, Nat.sub_zero, Nat.sub_zero] at hv
  have hmul : hi * sz ≤ xs.length * sz := Nat.mul_le_mul_right _ hh
  have hlen : (cs.take (hi * sz)).length = hi * sz := by rw [List.length_take, hown.1]; omega
  refine ⟨A, cs.take (hi * sz), hv, hlen, fun v hv => hf v (List.mem_of_mem_take hv), ?_, hz, fun i j x g hx hj => ?_⟩
  · rcases Nat.eq_zero_or_pos xs.length with h0 | h0
    · have hi0 : hi = 0 := by omega
      subst hi0
      rw [Nat.zero_mul, List.take_zero]
      cases A with
      | none => exact run_firstCells_none w.drew sz 0 0 _
      | some a => exact run_firstCells_some w.drew sz 0 a 0 _ [] (by simp) (fun j v hj => by simp at hj)
    · obtain ⟨b, hb1, hb2⟩ := hb (by omega)
      rw [hb2]
      rcases h4 with ⟨h5, h6, h7⟩ | ⟨b', h5, _, h6⟩
      · rw [h5] at hb1; cases hb1
      · obtain rfl : b' = b := Option.some.inj (h5.symm.trans hb1)
        refine run_firstCells_some w.drew sz hi _ hi _ (cs.take (hi * sz)) hlen (fun j v hj => ?_)
        rw [List.getElem?_take] at hj
        split at hj
        · have := h6 j v hj
          rw [Nat.zero_mul, add_lit, Nat.zero_add]
          exact this
        · cases hj
  · have hi2 : i < hi := by have := (List.getElem?_eq_some_iff.1 hx).1; rw [List.length_take] at this; omega
    rw [List.getElem?_take, if_pos hi2] at hx
    have hjl : j < sz := by rw [← hz x (List.mem_of_getElem? hx)]; exact (List.getElem?_eq_some_iff.1 hj).1
    have e2 : (cs.take (hi * sz)).getD (i * sz + j) undef = cs.getD (i * sz + j) undef := by
      rw [List.getD_eq_getElem?_getD, List.getD_eq_getElem?_getD, List.getElem?_take, if_pos (grid_lt hi2 hjl)]
    rw [e2]
    exact hrel i j x g hx hj

/-- A row that has grown. -/
theorem grown_OR {V Vp : GV → Value → Prop} {z : Value} {e sz n G : Nat} {xs ys : List (List GV)} {olds news : List Value} (hzf : flatAll z = true) (hzs : z.cells.size = sz) (hG : n ≤ G ∧ G ≤ maxLen) (hn : xs.length + ys.length = n)
    (hxl : ∀ x, x ∈ xs → x.length = sz) (hyl : ∀ x, x ∈ ys → x.length = sz) (ho : olds.length = xs.length * sz) (hl : news.length = ys.length * sz) (hof : ∀ v, v ∈ olds → flat v = true) (hnf : ∀ v, v ∈ news → flat v = true)
    (h1 : ∀ (i j : Nat) x g, xs[i]? = some x → x[j]? = some g → Vp g (olds.getD (i * sz + j) undef)) (h2 : ∀ (i j : Nat) y g, ys[i]? = some y → y[j]? = some g → Vp g (news.getD (i * sz + j) undef)) :
    OR V Vp (w.drew.alloc (.cells ((olds ++ news).toArray ++ Builtin.zeroCells z.cells (G - n)) e)) ⟨some w.heap.size, sz, n, G⟩ (.row e sz (xs ++ ys)) := by
  have hln : (xs ++ ys).length = n := by rw [List.length_append]; exact hn
  have hlc : (olds ++ news).length = n * sz := by rw [List.length_append, ho, hl, ← Nat.add_mul, hn]
  refine ⟨⟨rfl, fun b arr t hb hg v hv => ?_⟩, hln.symm, fun x hx => (List.mem_append.1 hx).elim (hxl x) (hyl x), olds ++ news, ⟨by rw [hlc, hln], .inr ⟨w.heap.size, G, _, by simp [Hd.val, hn], Nat.zero_le _, heap_alloc_new w.drew _, by omega, hG.2, ?_, ?_⟩⟩, fun v hv => (List.mem_append.1 hv).elim (hof v) (hnf v), fun i j x g hx hj => ?_⟩
  · cases hb
    have hg3 := (heap_alloc_new w.drew (.cells ((olds ++ news).toArray ++ Builtin.zeroCells z.cells (G - n)) e)).symm.trans hg
    cases hg3
    simp only [Array.toList_append, List.mem_append] at hv
    rcases hv with hv | hv
    · exact hv.elim (hof v) (hnf v)
    · exact zeroCells_flat hzf hv
  · simp only [Array.size_append, List.size_toArray, size_zeroCells, hzs, hlc, ← Nat.add_mul]
    congr 1; omega
  · simp only [Array.toList_append]
    rw [hln, ← hlc]
    exact List.take_left
  · rw [List.getElem?_append] at hx
    split at hx
    · rename_i hi'
      have hjl : j < sz := by rw [← hxl x (List.mem_of_getElem? hx)]; exact (List.getElem?_eq_some_iff.1 hj).1
      have e : (olds ++ news).getD (i * sz + j) undef = olds.getD (i * sz + j) undef := by
        simp only [List.getD_eq_getElem?_getD]
        rw [List.getElem?_append_left (by rw [ho]; exact grid_lt hi' hjl)]
      rw [e]
      exact h1 i j x g hx hj
    · rename_i hi'
      have hge : xs.length * sz ≤ i * sz := Nat.mul_le_mul_right _ (by omega)
      have e : (olds ++ news).getD (i * sz + j) undef = news.getD ((i - xs.length) * sz + j) undef := by
        simp only [List.getD_eq_getElem?_getD]
        rw [List.getElem?_append_right (by rw [ho]; omega), ho]
        congr 2
        rw [Nat.sub_mul]; omega
      rw [e]
      exact h2 _ j x g hx hj

/-- 'append' onto a window, where there is no room. -/
theorem os_appW {t e sz bytes : Nat} (hT : ElemT P t e sz bytes) {x y : Operand} {id hi : Nat} {xs ys : List (List GV)}
    (ho : o.op = .call { callee := .builtin .append, args := #[x, y], argTypes := #[t, t] }) (hx : ρ x = .win id 0 hi) (hM0 : M0 id = .row e sz xs) (hy : srcOf M0 sz (ρ y) = some ys)
    (hh : hi ≤ xs.length) (hgrow : xs.length < hi + ys.length) (hb : (hi + ys.length) * bytes ≤ 140737488355328) (h63 : hi + ys.length ≤ 140737488355328) :
    OpS P o ρ nb M0 (id :: gid (ρ y)) (.row nb) [] [.row e sz (xs.take hi ++ ys)] := by
  obtain ⟨i, z, hi1, hi2, hi3, hi4, hi5⟩ := hT.info
  refine .make fun Γ D ι M w ac hS hV hM hn => ?_
  have hob := hS.obj id
  rw [hM id (by simp), hM0] at hob
  obtain ⟨A, olds, hv, hol, hof, hold, hxl, hor⟩ := win_olds (P := P) (hx ▸ hV x (by simp [ho, Op.operands, Call.operands])) hob hh
  obtain ⟨A', c', news, hsr⟩ := srcOf_sound hT.pos hy Γ D ι M w _ hS (hV y (by simp [ho, Op.operands, Call.operands])) (fun i hi => hM i (by simp [hi]))
  have hlh : (xs.take hi).length = hi := by rw [List.length_take]; omega
  cases A' with
  | none => have := (hsr.nil rfl).1; omega
  | some a =>
    have hnews : ∀ j u, news[j]? = some u → w.cell? (a.add j) = some u := fun j u hu => by
      obtain ⟨a', ha, h⟩ := hsr.cell j u hu
      cases ha; exact h
    have hks := Src.ofSlice (P := P) w (size := i.size) hT.und a ys.length c' news (by rw [hi3]; exact hsr.len) hnews (fun u hu => flat_oneCell (hsr.flt u hu))
    have hrun := run_append_grow_src (P := P) w t t o.type e i z hT.und hi1 hi2 A hi xs.length olds (by rw [hi3]; exact hold) _ ys.length news hks hgrow (by omega) (growslice_fits (by omega) (by rw [hi4]; exact hb))
    obtain ⟨cc, hrc⟩ := run_call_builtin (P := P) (w := w) (a := ac) ho
    refine ⟨⟨some w.heap.size, sz, hi + ys.length, grownCap w (hi + ys.length) xs.length e⟩, .slice (some ⟨w.heap.size, 0, none⟩) (hi + ys.length) (grownCap w (hi + ys.length) xs.length e), w.drew.alloc (.cells ((olds ++ news).toArray ++ Builtin.zeroCells z.cells (grownCap w (hi + ys.length) xs.length e - (hi + ys.length))) e), ?_, rfl, rfl, rfl, by simp, fun b hb => heap_alloc_old w.drew _ hb, fun b hb => by simp at hb; omega, fun D' ι' hD hDn hι hιn => ⟨?_, ?_⟩⟩
    · rw [hrc]
      simp only [List.map_toArray, List.map_cons, List.map_nil, hv, hsr.val, builtin, Sem.run_bind, hrun, Result.andThen_ok, Sem.run_pure]
    · have hkeep : ∀ b, Γ.Im b → (w.drew.alloc (.cells ((olds ++ news).toArray ++ Builtin.zeroCells z.cells (grownCap w (hi + ys.length) xs.length e - (hi + ys.length))) e)).heap[b]? = w.heap[b]? := fun b hb => heap_alloc_old w.drew _ (hS.lt b (.inl hb))
      exact grown_OR (w := w) (hT.flt hi1 hi2) hi5 ⟨grownCap_ge w _ _ e, grownCap_le_maxLen w _ _ e (by simp only [maxLen]; omega)⟩ (by rw [hlh]) (fun x hx => hxl x (List.mem_of_mem_take hx)) hsr.esz (by rw [hlh]; exact hol) hsr.len hof hsr.flt
        (fun i j x g hx hj => (hor i j x g hx hj).mono (fun _ h => h) hkeep) (fun i j x g hx hj => (hsr.rel i j x g hx hj).mono (fun _ h => h) hkeep)
    · have := VR.row (Im := Γ.Im) (Bw := Γ.Bw) (D := D') (ι := ι') (w := w.drew.alloc (.cells ((olds ++ news).toArray ++ Builtin.zeroCells z.cells (grownCap w (hi + ys.length) xs.length e - (hi + ys.length))) e)) nb hDn
      rw [hιn] at this
      simpa using this

theorem zeroCells_toList {z : Array Value} {sz : Nat} (hz : z.size = sz) (hp : 0 < sz) (n : Nat) : (Builtin.zeroCells z n).toList = (List.replicate n z.toList).flatten := by
  have := range_mod (fun k => z[k]!) sz hp n
  rw [Builtin.zeroCells, Array.toList_map, Array.toList_range, hz, this]
  congr 2
  apply List.ext_getElem?
  intro k
  by_cases hk : k < sz
  · simp [hk, hz]
  · simp [hk, hz]

theorem zeros_rel {V : GV → Value → Prop} (hlit : ∀ v, V (.lit v) v) {z : Value} {sz : Nat} (hzs : z.cells.size = sz) (hpos : 0 < sz) (n : Nat) :
    ∀ (i j : Nat) x g, (List.replicate n (z.cells.toList.map GV.lit))[i]? = some x → x[j]? = some g → V g ((Builtin.zeroCells z.cells n).toList.getD (i * sz + j) undef) := fun i j x g hx hg => by
  rw [List.getElem?_replicate] at hx
  split at hx
  · rename_i hi
    cases hx
    rw [List.getElem?_map, Option.map_eq_some_iff] at hg
    obtain ⟨u, hu, rfl⟩ := hg
    have h2 : (List.replicate n z.cells.toList).flatten[i * sz + j]? = some u :=
      flatten_get (x := z.cells.toList) (fun y hy => by rw [List.mem_replicate] at hy; rw [hy.2]; simpa using hzs) (by rw [List.getElem?_replicate, if_pos hi]) hu
    rw [zeroCells_toList hzs hpos n, List.getD_eq_getElem?_getD, h2]
    exact hlit u
  · cases hx

/-- 'append' of zeros onto a window, where there is no room. -/
theorem os_appZ {t tn e sz bytes : Nat} (hT : ElemT P t e sz bytes) {kn kq : IntKind} (htn : P.underlying tn = some (.int kn)) {z : Value} (hz : zeroOf P e = some z) {x y : Operand} {id hi : Nat} {xs : List (List GV)} {q : Int}
    (ho : o.op = .call { callee := .builtin .append, args := #[x, y], argTypes := #[t, tn] }) (hx : ρ x = .win id 0 hi) (hM0 : M0 id = .row e sz xs) (hy : ρ y = .lit (.int kq q)) (hq : 0 < q)
    (hh : hi ≤ xs.length) (hgrow : xs.length < hi + q.toNat) (hb : (hi + q.toNat) * bytes ≤ 140737488355328) (h63 : hi + q.toNat ≤ 140737488355328) :
    OpS P o ρ nb M0 [id] (.row nb) [] [.row e sz (xs.take hi ++ List.replicate q.toNat (z.cells.toList.map .lit))] := by
  obtain ⟨i, zv, hi1, hi2, hi3, hi4, hi5⟩ := hT.info
  have hzz : zv = z := by unfold zeroOf at hz; simp [hi1, hi2] at hz; exact hz
  subst hzz
  refine .make fun Γ D ι M w ac hS hV hM hn => ?_
  have hob := hS.obj id
  rw [hM id (by simp), hM0] at hob
  obtain ⟨A, olds, hv, hol, hof, hold, hxl, hor⟩ := win_olds (P := P) (hx ▸ hV x (by simp [ho, Op.operands, Call.operands])) hob hh
  have hyv := (hy ▸ hV y (by simp [ho, Op.operands, Call.operands])).lit_inv
  obtain ⟨k, rfl⟩ : ∃ k : Nat, q = (k : Int) := ⟨q.toNat, by omega⟩
  rw [Int.toNat_natCast] at *
  have hlh : (xs.take hi).length = hi := by rw [List.length_take]; omega
  have hbk : k * bytes ≤ (hi + k) * bytes := Nat.mul_le_mul_right _ (by omega)
  have hrun := Lib.run_append_grow_zeros (P := P) w t tn o.type e i zv kq kn hT.und htn hi1 hi2 A hi xs.length olds (by rw [hi3]; exact hold) k (by omega) (by rw [hi3]; exact hT.pos) hgrow (by omega) (by rw [hi4]; omega) (growslice_fits (by omega) (by rw [hi4]; exact hb))
  have hzl : (Builtin.zeroCells zv.cells k).toList.length = k * sz := by rw [Array.length_toList, size_zeroCells, hi5]
  have hws : olds.toArray ++ Builtin.zeroCells zv.cells k = (olds ++ (Builtin.zeroCells zv.cells k).toList).toArray := by simp
  rw [hws] at hrun
  obtain ⟨cc, hrc⟩ := run_call_builtin (P := P) (w := w) (a := ac) ho
  refine ⟨⟨some w.heap.size, sz, hi + k, grownCap w (hi + k) xs.length e⟩, .slice (some ⟨w.heap.size, 0, none⟩) (hi + k) (grownCap w (hi + k) xs.length e), w.drew.alloc (.cells ((olds ++ (Builtin.zeroCells zv.cells k).toList).toArray ++ Builtin.zeroCells zv.cells (grownCap w (hi + k) xs.length e - (hi + k))) e), ?_, rfl, rfl, rfl, by simp, fun b hb => heap_alloc_old w.drew _ hb, fun b hb => by simp at hb; omega, fun D' ι' hD hDn hι hιn => ⟨?_, ?_⟩⟩
  · rw [hrc]
    simp only [List.map_toArray, List.map_cons, List.map_nil, hv, hyv, builtin, Sem.run_bind, hrun, Result.andThen_ok, Sem.run_pure]
  · have hkeep : ∀ b, Γ.Im b → (w.drew.alloc (.cells ((olds ++ (Builtin.zeroCells zv.cells k).toList).toArray ++ Builtin.zeroCells zv.cells (grownCap w (hi + k) xs.length e - (hi + k))) e)).heap[b]? = w.heap[b]? := fun b hb => heap_alloc_old w.drew _ (hS.lt b (.inl hb))
    exact grown_OR (w := w) (hT.flt hi1 hi2) hi5 ⟨grownCap_ge w _ _ e, grownCap_le_maxLen w _ _ e (by simp only [maxLen]; omega)⟩ (by rw [hlh, List.length_replicate]) (fun x hx => hxl x (List.mem_of_mem_take hx)) (fun x hx => by rw [(List.mem_replicate.1 hx).2]; simpa using hi5) (by rw [hlh]; exact hol) (by rw [hzl, List.length_replicate]) hof (fun v hv => zeroCells_flat (hT.flt hi1 hi2) hv)
      (fun i j x g hx hj => (hor i j x g hx hj).mono (fun _ h => h) hkeep) (zeros_rel (fun v => .lit v) hi5 hT.pos k)
  · have := VR.row (Im := Γ.Im) (Bw := Γ.Bw) (D := D') (ι := ι') (w := w.drew.alloc (.cells ((olds ++ (Builtin.zeroCells zv.cells k).toList).toArray ++ Builtin.zeroCells zv.cells (grownCap w (hi + k) xs.length e - (hi + k))) e)) nb hDn
    rw [hιn] at this
    simpa using this

/-- A row, of which a part is written anew. -/
theorem row_spl {V Vp V' Vp' : GV → Value → Prop} {hd : Hd} {e sz : Nat} {xs : List (List GV)} (h : OR V Vp w hd (.row e sz xs)) {b : Nat} (hb : hd.A = some b) {lo : Nat} {ws : List (List GV)} {us : List Value}
    (hfit : lo + ws.length ≤ xs.length) (hesz : ∀ y, y ∈ ws → y.length = sz) (hlen : us.length = ws.length * sz) (hflt : ∀ v, v ∈ us → flat v = true)
    (hrel : ∀ (i j : Nat) y g, ws[i]? = some y → y[j]? = some g → Vp' g (us.getD (i * sz + j) undef)) (hVp : ∀ g v, Vp g v → Vp' g v) :
    ∃ cur, w.heap[b]? = some (.cells cur e (0, 0)) ∧ lo * sz + us.length ≤ cur.size ∧ OR V' Vp' (w.setRow b (spl cur.toList (lo * sz) us).toArray) hd (.row e sz (spl xs lo ws)) := by
  obtain ⟨⟨e0, hspf⟩, e1, hz, cs, hown, hcf, hr⟩ := h
  rcases hown.2 with ⟨hh, _⟩ | ⟨g, cap, cur, hh, _, hg, hnc, hcm, hcs, htake⟩
  · simp [Hd.val, hb] at hh
  · have hgb : g = b := by simp [Hd.val, hb] at hh; exact hh.1.symm
    subst hgb
    have hcsl : cs.length = xs.length * sz := hown.1
    have hm1 : lo * sz + us.length ≤ xs.length * sz := by rw [hlen, ← Nat.add_mul]; exact Nat.mul_le_mul_right _ hfit
    have hm2 : xs.length * sz ≤ cur.size := by rw [hcs]; exact Nat.mul_le_mul_right _ hnc
    have hsplL : (spl xs lo ws).length = xs.length := spl_length xs lo ws hfit
    have hsplC : (spl cs (lo * sz) us).length = cs.length := spl_length cs _ _ (by omega)
    have hsplU : (spl cur.toList (lo * sz) us).length = cur.size := by rw [spl_length _ _ _ (by simp; omega)]; simp
    refine ⟨cur, hg, by omega, ⟨e0, fun b2 arr2 t2 hb2 hg2 v2 hv2 => ?_⟩, by rw [hsplL]; exact e1, fun x hx => (spl_mem hx).elim (hz x) (hesz x), spl cs (lo * sz) us, ⟨by rw [hsplC, hsplL]; exact hcsl, .inr ⟨g, cap, _, ?_, Nat.zero_le _, setRow_heap w g cur _ e _ hg, by rw [hsplL]; exact hnc, hcm, by simp [hsplU, hcs], ?_⟩⟩, fun v hv => (spl_mem hv).elim (hcf v) (hflt v), ?_⟩
    · obtain rfl : g = b2 := Option.some.inj (hb.symm.trans hb2)
      have hgw := setRow_heap w g cur (spl cur.toList (lo * sz) us).toArray e (0, 0) hg
      rw [hgw] at hg2
      cases hg2
      rcases spl_mem (by simpa using hv2) with h | h
      · exact hspf g cur e hb hg v2 h
      · exact hflt v2 h
    · rw [hsplL]; exact hh
    · rw [hsplL]
      show (spl cur.toList (lo * sz) us).take (xs.length * sz) = _
      rw [spl_take cur.toList _ us (xs.length * sz) (by simpa using hm2) hm1, htake]
    · exact spl_rel hz hesz hcsl hlen hfit (fun i j x g hx hg => hVp _ _ (hr i j x g hx hg)) hrel

theorem win_or_sub {d : GV} {id lo hi : Nat} {u : Value} (h : d = .win id lo hi ∨ d = .sub id lo hi) (hV : VR Im Bw D ι w d u) :
    D id ∧ lo ≤ hi ∧ hi ≤ (ι id).n ∧ ∃ A c, u = .slice A (hi - lo) c ∧ (lo < hi → ∃ b, (ι id).A = some b ∧ A = some ⟨b, lo * (ι id).sz, none⟩) := by
  have hV2 : VR Im Bw D ι w (.sub id lo hi) u := by
    rcases h with rfl | rfl
    · exact hV.win_sub
    · exact hV
  obtain ⟨hD, h1, h2, A, c, hv, _, _, _, hb⟩ := hV2.sub_inv
  exact ⟨hD, h1, h2, A, c, hv, hb⟩

theorem setRow_frame {w : World} {b : Nat} {X : Array Value} : (w.setRow b X).os = w.os ∧ (w.setRow b X).tape = w.tape ∧ (w.setRow b X).output = w.output ∧ w.heap.size ≤ (w.setRow b X).heap.size ∧ ∀ k, some b ≠ some k → (w.setRow b X).heap[k]? = w.heap[k]? :=
  ⟨rfl, rfl, rfl, by simp [World.setRow], fun k hk => setRow_other w b k _ fun h => hk (by rw [h])⟩

/-- 'copy' into a row. -/
theorem os_copy {t t' e sz bytes : Nat} (hT : ElemT P t e sz bytes) {d s : Operand} {id lo hi : Nat} {xs ys : List (List GV)} (ho : o.op = .call { callee := .builtin .copy, args := #[d, s], argTypes := #[t, t'] })
    (hd : ρ d = .win id lo hi ∨ ρ d = .sub id lo hi) (hM0 : M0 id = .row e sz xs) (hy : srcOf M0 sz (ρ s) = some ys) :
    OpS P o ρ nb M0 (id :: gid (ρ s)) (.lit (.int .i64 ((ys.take (hi - lo)).length : Nat))) [(id, .row e sz (spl xs lo (ys.take (hi - lo))))] [] := by
  obtain ⟨i, z, hi1, hi2, hi3, hi4, hi5⟩ := hT.info
  refine OpS.wr (by rw [hM0]; simp) (by simp) fun Γ D ι M w ac hS hV hM => ?_
  have hMi := hM id (by simp)
  have hob := hS.obj id
  rw [hMi, hM0] at hob
  obtain ⟨hD, hlo, hhn, A, c, hv, hb⟩ := win_or_sub hd (hV d (by simp [ho, Op.operands, Call.operands]))
  obtain ⟨A', c', news, hsr⟩ := srcOf_sound hT.pos hy Γ D ι M w _ hS (hV s (by simp [ho, Op.operands, Call.operands])) (fun i hi => hM i (by simp [hi]))
  obtain ⟨e0, e1, hz, _⟩ := row_cases hob
  obtain ⟨cc, hrc⟩ := run_call_builtin (P := P) (w := w) (a := ac) ho
  have hwl : (ys.take (hi - lo)).length = Nat.min ys.length (hi - lo) := by rw [List.length_take]; exact Nat.min_comm _ _
  generalize hws : ys.take (hi - lo) = ws at *
  rcases Nat.eq_zero_or_pos ws.length with h0 | h0
  · have hw0 : ws = [] := List.eq_nil_of_length_eq_zero h0
    subst hw0
    have hspl : spl xs lo [] = xs := by unfold spl; simp
    refine ⟨goInt 0, w, ?_, rfl, rfl, rfl, Nat.le_refl _, fun _ _ => rfl, fun _ _ => ⟨by rw [hspl]; exact hob, .litv _⟩⟩
    rw [hrc]
    simp only [List.length_nil] at hwl
    have hfc : (Builtin.firstCells i.size 0 (.slice A' ys.length c')).run P w = .ok #[] w := by
      cases A' with
      | none => exact run_firstCells_none w i.size 0 _ _
      | some a => exact run_firstCells_some w i.size 0 a _ _ [] (by simp) (fun j v hj => by simp at hj)
    cases A with
    | none => simp [builtin, hv, hsr.val, Builtin.copy_, run_underlying hT.und, Builtin.lenOf, sizeOf, typeInfo, hi1, ← hwl, hfc, goInt]
    | some a => simp [builtin, hv, hsr.val, Builtin.copy_, run_underlying hT.und, Builtin.lenOf, sizeOf, typeInfo, hi1, ← hwl, hfc, goInt, storeCells]
  · have hlt : lo < hi := by
      rcases Nat.lt_or_ge lo hi with h | h
      · exact h
      · have : hi - lo = 0 := by omega
        rw [hwl, this] at h0; simp at h0
    have hyp : 0 < ys.length := by
      rcases Nat.eq_zero_or_pos ys.length with h | h
      · rw [hwl, h] at h0; simp at h0
      · exact h
    have hn1 : ws.length ≤ ys.length := by rw [hwl]; exact Nat.min_le_left _ _
    have hn2 : ws.length ≤ hi - lo := by rw [hwl]; exact Nat.min_le_right _ _
    obtain ⟨b, hb1, hb2⟩ := hb hlt
    cases A' with
    | none => have := (hsr.nil rfl).1; omega
    | some a =>
      have hul : (news.take (ws.length * sz)).length = ws.length * sz := by
        rw [List.length_take, hsr.len]
        have := Nat.mul_le_mul_right sz hn1
        omega
      have hfc : (Builtin.firstCells i.size ws.length (.slice (some a) ys.length c')).run P w = .ok (news.take (ws.length * sz)).toArray w := by
        rw [hi3]
        refine run_firstCells_some w sz ws.length a _ _ _ hul (fun j v hj => ?_)
        rw [List.getElem?_take] at hj
        split at hj
        · obtain ⟨a', ha, h⟩ := hsr.cell j v hj
          cases ha; exact h
        · cases hj
      have hflt : ∀ v, v ∈ news.take (ws.length * sz) → flat v = true := fun v hv => hsr.flt v (List.mem_of_mem_take hv)
      have hesz : ∀ y, y ∈ ws → y.length = sz := fun y hy => hsr.esz y (by rw [← hws] at hy; exact List.mem_of_mem_take hy)
      have hrl : ∀ (i j : Nat) y g, ws[i]? = some y → y[j]? = some g → VP Γ.Im w g ((news.take (ws.length * sz)).getD (i * sz + j) undef) := fun i j y g hy hg => by
        have hi' : i < ws.length := (List.getElem?_eq_some_iff.1 hy).1
        have hjl : j < sz := by rw [← hesz y (List.mem_of_getElem? hy)]; exact (List.getElem?_eq_some_iff.1 hg).1
        rw [List.getD_eq_getElem?_getD, List.getElem?_take, if_pos (grid_lt hi' hjl), ← List.getD_eq_getElem?_getD]
        refine hsr.rel i j y g ?_ hg
        rw [← hws, List.getElem?_take] at hy
        split at hy
        · exact hy
        · cases hy
      have hfit : lo + ws.length ≤ xs.length := by omega
      obtain ⟨cur, hg, hfc2, _⟩ := row_spl (V' := fun _ _ => True) (Vp' := VP Γ.Im w) hob hb1 hfit hesz hul hflt hrl (fun _ _ h => h)
      have hst := storeCells_run (P := P) (news.take (ws.length * sz)) hg hfc2 hflt
      refine ⟨goInt ws.length, w.setRow b (spl cur.toList (lo * sz) (news.take (ws.length * sz))).toArray, ?_, rfl, rfl, rfl, setRow_frame.2.2.2.1, fun k hk => setRow_frame.2.2.2.2 k (by rw [← hb1]; exact hk), fun hVR hVP => ⟨?_, .litv _⟩⟩
      · rw [hrc]
        rw [e0] at hb2
        simp [builtin, hv, hsr.val, hb2, Builtin.copy_, run_underlying hT.und, Builtin.lenOf, sizeOf, typeInfo, hi1, ← hwl, hfc, hst]
      · obtain ⟨cur', hg', _, hor⟩ := row_spl (V' := VR Γ.Im Γ.Bw D ι (w.setRow b (spl cur.toList (lo * sz) (news.take (ws.length * sz))).toArray)) (Vp' := VP Γ.Im (w.setRow b (spl cur.toList (lo * sz) (news.take (ws.length * sz))).toArray)) hob hb1 hfit hesz hul hflt (fun i j y g hy hg => hVP _ _ (hrl i j y g hy hg)) hVP
        rw [hg] at hg'
        cases hg'
        exact hor

/-- 'clear' of a part of a row. -/
theorem os_clear {t e sz bytes : Nat} (hT : ElemT P t e sz bytes) {z : Value} (hz : zeroOf P e = some z) {d : Operand} {id lo hi : Nat} {xs : List (List GV)} (ho : o.op = .call { callee := .builtin .clear, args := #[d], argTypes := #[t] })
    (hd : ρ d = .win id lo hi ∨ ρ d = .sub id lo hi) (hM0 : M0 id = .row e sz xs) :
    OpS P o ρ nb M0 [id] .any [(id, .row e sz (spl xs lo (List.replicate (hi - lo) (z.cells.toList.map .lit))))] [] := by
  obtain ⟨i, zv, hi1, hi2, hi3, hi4, hi5⟩ := hT.info
  have hzz : zv = z := by unfold zeroOf at hz; simp [hi1, hi2] at hz; exact hz
  subst hzz
  refine OpS.wr (by rw [hM0]; simp) (by simp) fun Γ D ι M w ac hS hV hM => ?_
  have hMi := hM id (by simp)
  have hob := hS.obj id
  rw [hMi, hM0] at hob
  obtain ⟨hD, hlo, hhn, A, c, hv, hb⟩ := win_or_sub hd (hV d (by simp [ho, Op.operands, Call.operands]))
  obtain ⟨e0, e1, hz, _⟩ := row_cases hob
  obtain ⟨cc, hrc⟩ := run_call_builtin (P := P) (w := w) (a := ac) ho
  rcases Nat.eq_zero_or_pos (hi - lo) with h0 | h0
  · rw [h0] at hv
    have hspl : spl xs lo (List.replicate (hi - lo) (zv.cells.toList.map GV.lit)) = xs := by rw [h0]; unfold spl; simp
    refine ⟨.tuple #[], w, ?_, rfl, rfl, rfl, Nat.le_refl _, fun _ _ => rfl, fun _ _ => ⟨by rw [hspl]; exact hob, .imm (.any _)⟩⟩
    rw [hrc]
    cases A <;> simp [builtin, hv, Builtin.clear_, run_underlying hT.und]
  · obtain ⟨b, hb1, hb2⟩ := hb (by omega)
    obtain ⟨n, hn⟩ : ∃ n, hi - lo = n + 1 := ⟨hi - lo - 1, by omega⟩
    have hul : (Builtin.zeroCells zv.cells (hi - lo)).toList.length = (List.replicate (hi - lo) (zv.cells.toList.map GV.lit)).length * sz := by rw [Array.length_toList, size_zeroCells, hi5, List.length_replicate]
    have hflt : ∀ v, v ∈ (Builtin.zeroCells zv.cells (hi - lo)).toList → flat v = true := fun v hv => zeroCells_flat (hT.flt hi1 hi2) hv
    have hesz : ∀ y, y ∈ List.replicate (hi - lo) (zv.cells.toList.map GV.lit) → y.length = sz := fun y hy => by rw [(List.mem_replicate.1 hy).2]; simpa using hi5
    have hfit : lo + (List.replicate (hi - lo) (zv.cells.toList.map GV.lit)).length ≤ xs.length := by rw [List.length_replicate]; omega
    obtain ⟨cur, hg, hfc2, _⟩ := row_spl (V' := fun _ _ => True) (Vp' := fun _ _ => True) hob hb1 hfit hesz hul hflt (fun _ _ _ _ _ _ => trivial) (fun _ _ _ => trivial)
    have hst := storeCells_run (P := P) (Builtin.zeroCells zv.cells (hi - lo)).toList hg hfc2 hflt
    refine ⟨.tuple #[], w.setRow b (spl cur.toList (lo * sz) (Builtin.zeroCells zv.cells (hi - lo)).toList).toArray, ?_, rfl, rfl, rfl, setRow_frame.2.2.2.1, fun k hk => setRow_frame.2.2.2.2 k (by rw [← hb1]; exact hk), fun hVR hVP => ⟨?_, .imm (.any _)⟩⟩
    · rw [hrc]
      rw [e0] at hb2
      rw [hn] at hv hst ⊢
      simp [builtin, hv, hb2, Builtin.clear_, run_underlying hT.und, zeroValue, typeInfo, hi1, hi2, hst]
    · obtain ⟨cur', hg', _, hor⟩ := row_spl (V' := VR Γ.Im Γ.Bw D ι (w.setRow b (spl cur.toList (lo * sz) (Builtin.zeroCells zv.cells (hi - lo)).toList).toArray)) (Vp' := VP Γ.Im (w.setRow b (spl cur.toList (lo * sz) (Builtin.zeroCells zv.cells (hi - lo)).toList).toArray)) hob hb1 hfit hesz hul hflt (zeros_rel (fun v => .lit v) hi5 hT.pos _) hVP
      rw [hg] at hg'
      cases hg'
      exact hor
end
end Go.Gh


/-! Whether two rows overlap; whether a slice is nil. -/

namespace Go.Gh
variable {P : Program}
section
variable {o : Oper} {ρ : Rho} {nb : Nat} {M0 : Nat → GO} {Im Bw D : Nat → Prop} {ι : Nat → Hd} {w : World}

theorem run_ov_none {t tb e sz : Nat} (ht : P.underlying t = some (.slice e)) (hz : ∀ w, (sizeOf e).run P w = .ok sz w) {a b : Option Addr} {la ca lb cb : Nat} (h : a = none ∨ b = none ∨ lb = 0) :
    (Extern.SlicesOverlaps.overlaps #[t, t] #[tb] #[.slice a la ca, .slice b lb cb]).run P w = .ok (.bool false) w := by
  change Sem.run P (α := Value) (do
    let some t := (#[t, t] : Array TypeId)[0]? | stuck "slices.overlaps: no parameter types"
    let .slice elem ← underlying t | stuck "slices.overlaps: slice type expected"
    let size ← sizeOf elem
    match (a : Option Addr), (b : Option Addr) with
    | some a, some b =>
      if la = 0 ∨ lb = 0 ∨ size = 0 then pure (Value.bool false)
      else if a.block != b.block && (← frozen a) && (← frozen b) then unsupported .addressObserved
      else do
        if a.block != b.block then do
          noView a; noView b
          if ← mayBeOne a b then return Value.bool ((← choose (.extern "sameAddr.stringBytes" 2)) == 1)
        pure (Value.bool (a.block == b.block && a.off < b.off + lb * size && b.off < a.off + la * size))
    | _, _ => pure (Value.bool false)) w = _
  rcases a with _ | a
  · simp [run_underlying ht, hz]
  · rcases b with _ | b
    · simp [run_underlying ht, hz]
    · have h : lb = 0 := by simpa using h
      simp [run_underlying ht, hz, h]

/-- Two rows are apart. -/
theorem os_ov {t tb e sz f : Nat} {fn : Func} (hf : P.funcs[f]? = some fn) (hname : (fn.name == "runtime.NumGoroutine") = false) (hb : fn.body.isNone = true) (hn : Extern.findNext fn = none) (he : Extern.find fn = some (Extern.SlicesOverlaps.overlaps #[t, t] #[tb]))
    (ht : P.underlying t = some (.slice e)) (hsz : P.cellsOf e = sz) (hpos : sz ≠ 0) {c x y : Operand} {ts : Array TypeId} {a b lo hi ea eb : Nat} {va xs : List (List GV)}
    (ho : o.op = .call { callee := .value c, args := #[x, y], argTypes := ts }) (hc : ρ c = .lit (.func (.func f) #[] #[])) (hx : ρ x = .row a) (hMa : M0 a = .row ea sz va) (hy : ρ y = .win b lo hi) (hMb : M0 b = .row eb sz xs) (hab : a ≠ b) :
    OpS P o ρ nb M0 [a, b] (.lit (.bool false)) [] [] := by
  refine .quiet fun Γ D ι M w ac hS hV hM => ⟨_, .litv _, ?_⟩
  have hoa := hS.obj a
  rw [hM a (by simp), hMa] at hoa
  have hob := hS.obj b
  rw [hM b (by simp), hMb] at hob
  have hla : M a ≠ .dead := by rw [hM a (by simp), hMa]; simp
  have hlb : M b ≠ .dead := by rw [hM b (by simp), hMb]; simp
  have hcv := (hc ▸ hV c (by simp [ho, Op.operands, Call.operands])).lit_inv
  obtain ⟨_, hxv⟩ := (hx ▸ hV x (by simp [ho, Op.operands, Call.operands])).row_inv
  obtain ⟨_, hlh, hhn, hcn, A, hyv, hA, hs, hbb⟩ := (hy ▸ hV y (by simp [ho, Op.operands, Call.operands])).win_inv
  obtain ⟨⟨ea0, _⟩, ea1, _, csa, howa, _⟩ := hoa
  obtain ⟨⟨eb0, _⟩, eb1, _, csb, howb, _⟩ := hob
  have hzr : ∀ w, (sizeOf e).run P w = .ok sz w := fun w => run_szC hsz hpos
  have key : (Extern.SlicesOverlaps.overlaps #[t, t] #[tb] #[ac.eval x, ac.eval y]).run P w = .ok (.bool false) w := by
    rw [hxv, hyv]
    unfold Hd.val
    cases hAa : (ι a).A with
    | none => exact run_ov_none ht hzr (.inl rfl)
    | some ba =>
      cases hAA : A with
      | none => exact run_ov_none ht hzr (.inr (.inl rfl))
      | some ad =>
        rcases Nat.lt_or_ge lo hi with hlt | hge
        · obtain ⟨bb, hb1, hb2⟩ := hbb (by omega)
          rw [hAA] at hb2
          cases hb2
          have hne : ba ≠ bb := fun e => hab (hS.inj a b ba hla hlb hAa (by rw [e]; exact hb1))
          rcases howa.2 with ⟨hv, _⟩ | ⟨ga, capa, cura, hva, _, hga, hnca, hcma, hcsa, _⟩
          · simp [Hd.val, hAa] at hv
          · rcases howb.2 with ⟨hv, _⟩ | ⟨gb, capb, curb, hvb, _, hgb, hncb, hcmb, hcsb, _⟩
            · simp [Hd.val, hb1] at hv
            · have e1 : ba = ga := by simp [Hd.val, hAa] at hva; exact hva.1
              have e2 : bb = gb := by simp [Hd.val, hb1] at hvb; exact hvb.1
              subst e1; subst e2
              have hk : curb.size ≠ 0 := by rw [hcsb]; exact Nat.mul_ne_zero (by omega) hpos
              exact Lib.run_overlaps_apart w t tb e ht sz hzr ⟨ba, 0, none⟩ ⟨bb, lo * (ι b).sz, none⟩ _ _ _ _ hne ea eb cura.size curb.size (by simp [World.shape?, hga]) (by simp [World.shape?, hgb]) hk (by simp [World.frozen?, hga]) (by simp [World.frozen?, hga])
        · exact run_ov_none ht hzr (.inr (.inr (by omega)))
  have hcall : (callFunc f #[ac.eval x, ac.eval y]).run P w = .ok (.value (.bool false)) w := by
    rw [run_callFunc_extern hf hname hb hn he, key]; rfl
  simp [execOp, ho, hcv, resolve, invoke, Deferred.ofValue, hcall]


/-- Whether a slice is nil, where that is known. -/
def slN (M : Nat → GO) : GV → Option Bool
  | .lit (.slice none _ _) => some true
  | .lit (.slice (some _) _ _) => some false
  | .sl _ _ (_ :: _) _ => some false
  | .row id => match M id with | .row _ _ (_ :: _) => some false | _ => none
  | _ => none

theorem run_equal_sl {t e : TypeId} (hu : P.underlying t = some (.slice e)) (A : Option Addr) (n c : Nat) : (Op.equal t (.slice A n c) (.slice none 0 0)).run P w = .ok A.isNone w := by
  have h := fun d => (by
    rw [Op.equalIn]
    cases A <;> simp only [Sem.run_bind, run_und hu, Result.andThen_ok, Sem.run_pure] <;> rfl : (Op.equalIn (d + 1) t (.slice A n c) (.slice none 0 0)).run P w = .ok A.isNone w)
  exact h 9999

theorem os_sln {t yt e : TypeId} {x y : Operand} {op : BinOp} {b r : Bool} (ho : o.op = .binOp op t x y yt) (hx : slN M0 (ρ x) = some b) (hy : ρ y = .lit (.slice none 0 0))
    (hu : P.underlying t = some (.slice e)) (hr : (op = .eql ∧ r = b) ∨ (op = .neq ∧ r = !b)) : OpS P o ρ nb M0 (gid (ρ x)) (.lit (.bool r)) [] [] := by
  refine .quiet fun Γ D ι M w ac hS hV hM => ⟨.bool r, .litv _, ?_⟩
  have hVx := hV x (by simp [ho, Op.operands])
  have h2 := (hy ▸ hV y (by simp [ho, Op.operands])).lit_inv
  have h1 : ∃ A n c, ac.eval x = .slice A n c ∧ A.isNone = b := by
    generalize ρ x = g at hx hVx hM
    cases g <;> try (cases hx; done)
    case lit v =>
      have := hVx.lit_inv
      cases v <;> try (cases hx; done)
      rename_i A n c
      cases A <;> (simp only [slN, Option.some.injEq] at hx; exact ⟨_, _, _, this, by rw [← hx]; rfl⟩)
    case sl bw sz xs ex =>
      cases xs with
      | nil => cases hx
      | cons x0 xs =>
        simp only [slN, Option.some.injEq] at hx
        obtain ⟨A, c, V, h3, hc, hA, _⟩ := hVx.sl_inv
        refine ⟨A, _, c, h3, ?_⟩
        rw [← hx]
        cases A with
        | none => have := hA rfl; simp at hc; omega
        | some a => rfl
    case row id =>
      have hob := hS.obj id
      rw [hM id (by simp [gid])] at hob
      simp only [slN] at hx
      split at hx
      · rename_i heq
        rw [heq] at hob
        simp only [Option.some.injEq] at hx
        obtain ⟨_, h3⟩ := hVx.row_inv
        obtain ⟨_, h5, _, cs, _, _, _, h4⟩ := row_cases hob
        refine ⟨_, _, _, h3, ?_⟩
        rw [← hx]
        rcases h4 with ⟨_, h6, _⟩ | ⟨b', h6, _⟩
        · rw [h6] at h5; simp at h5
        · rw [h6]; rfl
      · cases hx
  obtain ⟨A, n, c, h1, hA⟩ := h1
  simp only [execOp, ho, h1, h2, Sem.run_bind]
  rw [run_eqGuard_lit (by simp) (by simp)]
  rcases hr with ⟨rfl, rfl⟩ | ⟨rfl, rfl⟩ <;>
  simp only [binOp, Sem.run_bind, run_equal_sl hu, Result.andThen_ok, Sem.run_pure, hA]

end

/-- What tells whether two slices overlap. -/
def OvF (P : Program) (f t : Nat) : Prop := ∃ fn tb, P.funcs[f]? = some fn ∧ (fn.name == "runtime.NumGoroutine") = false ∧ fn.body.isNone = true ∧ Extern.findNext fn = none ∧ Extern.find fn = some (Extern.SlicesOverlaps.overlaps #[t, t] #[tb])

section
variable (T : Tab P) {ds : List (Option Tmp)} {o : Oper} {rest : List Oper} {σ σ' : List GV} {M M' : List GO} {tr : List RI} {K : List GV → List GO → List RI → Prop}

theorem TW.wc {t e : Nat} {x : Operand} {id lo hi e' sz : Nat} {xs : List (List GV)} (ho : o.op = .call { callee := .builtin .cap, args := #[x], argTypes := #[t] }) (hg : o.guard = none) (ht : T.u t = some (.slice e))
    (hx : rhoOf σ x = .win id lo hi) (hM : getM M id = .row e' sz xs) (hp : putS σ o.dst (.lit (.int .i64 ((xs.length - lo : Nat) : Int))) = σ')
    (h : TW P ds rest σ' M (tr ++ [⟨o.dst, [id], [], M.length, 0⟩]) K) : TW P ds (o :: rest) σ M tr K := by
  subst hp
  exact TW.rd hg (os_capW ho (T.uok _ _ ht) hx hM) h

/-- A whole element of a row is read. -/
theorem TW.lr {t e sz : Nat} {x : Operand} {id i j : Nat} {x0 : List GV} {xs : List (List GV)} {g : GV} (ho : o.op = .load t x) (hg : o.guard = none) (hx : rhoOf σ x = .adr id i j) (hM : getM M id = .row e sz xs) (hx0 : xs[i]? = some x0) (hl : ldvT T t (x0.drop j) = some g)
    (hp : putS σ o.dst g = σ') (h : TW P ds rest σ' M (tr ++ [⟨o.dst, [id], [], M.length, 0⟩]) K) : TW P ds (o :: rest) σ M tr K := by
  subst hp
  exact TW.rd hg (os_load ho hx (by rw [hM]; exact hx0) (ldvT_ok hl)) h

theorem TW.c3 {t e sz id e' a b : Nat} {x : Operand} {lo hi mx : Option Operand} {xs : List (List GV)} {l h : Int} (ho : o.op = .slice t x lo hi mx) (hg : o.guard = none) (hx : rhoOf σ x = .win id a b) (hM : getM M id = .row e' sz xs) (ht : T.u t = some (.slice e)) (hsz : T.sz e = sz) (hpos : T.sz e ≠ 0)
    (hl : bndG (rhoOf σ) 0 lo = some l) (hh : bndG (rhoOf σ) ((b - a : Nat) : Int) hi = some h) (hhm : (hi.isSome || mx.isNone) = true) (hm : mxG (rhoOf σ) h (xs.length - a) mx) (h0 : 0 ≤ l) (h1 : l ≤ h) (h2 : h ≤ (xs.length - a : Nat)) (hp : putS σ o.dst .any = σ')
    (hk : TW P ds rest σ' M (tr ++ [⟨o.dst, [id], [], M.length, 0⟩]) K) : TW P ds (o :: rest) σ M tr K := by
  subst hp
  exact TW.rd hg (os_cut3 ho (T.uok _ _ ht) (T.szok _ hpos) hsz (by omega) hx hM hl hh hm (fun h => by subst h; simpa using hhm) h0 h1 h2) hk

theorem TW.gw {t e sz bytes id hi : Nat} {x y : Operand} {xs ys : List (List GV)} (ho : o.op = .call { callee := .builtin .append, args := #[x, y], argTypes := #[t, t] }) (hg : o.guard = none) (hT : elemTT T t = some (e, sz, bytes)) (hB : Nat.ble bytes 1024 = true)
    (hx : rhoOf σ x = .win id 0 hi) (hMi : getM M id = .row e sz xs) (hy : srcOf (getM M) sz (rhoOf σ y) = some ys) (hh : hi ≤ xs.length) (hgr : xs.length < hi + ys.length) (hb : hi + ys.length ≤ 137438953472)
    (hp : putS σ o.dst (.row M.length) = σ') (hM : M ++ [.row e sz (xs.take hi ++ ys)] = M')
    (h : TW P ds rest σ' M' (tr ++ [⟨o.dst, id :: gid (rhoOf σ y), [], M.length, 1⟩]) K) : TW P ds (o :: rest) σ M tr K := by
  subst hp; subst hM
  have hB := Nat.le_of_ble_eq_true hB
  have hbb : (hi + ys.length) * bytes ≤ 140737488355328 := by
    calc (hi + ys.length) * bytes ≤ 137438953472 * 1024 := Nat.mul_le_mul hb hB
      _ ≤ 140737488355328 := by decide
  refine TW.step (by unfold gwantD; rw [hg]) (os_appW (elemTT_ok T hT) ho hx hMi hy hh hgr hbb (by omega)) (by simp) ?_
  simpa [updL] using h

theorem TW.gz {t tn e sz bytes id hi : Nat} {kn kq : IntKind} {z : Value} {x y : Operand} {xs : List (List GV)} {q : Int} (ho : o.op = .call { callee := .builtin .append, args := #[x, y], argTypes := #[t, tn] }) (hg : o.guard = none) (hT : elemTT T t = some (e, sz, bytes)) (hB : Nat.ble bytes 1024 = true) (htn : T.u tn = some (.int kn)) (hz : T.z e = some z)
    (hx : rhoOf σ x = .win id 0 hi) (hMi : getM M id = .row e sz xs) (hy : rhoOf σ y = .lit (.int kq q)) (hq : 0 < q) (hh : hi ≤ xs.length) (hgr : xs.length < hi + q.toNat) (hb : hi + q.toNat ≤ 137438953472)
    (hp : putS σ o.dst (.row M.length) = σ') (hM : M ++ [.row e sz (xs.take hi ++ List.replicate q.toNat (z.cells.toList.map .lit))] = M')
    (h : TW P ds rest σ' M' (tr ++ [⟨o.dst, [id], [], M.length, 1⟩]) K) : TW P ds (o :: rest) σ M tr K := by
  subst hp; subst hM
  have hB := Nat.le_of_ble_eq_true hB
  have hbb : (hi + q.toNat) * bytes ≤ 140737488355328 := by
    calc (hi + q.toNat) * bytes ≤ 137438953472 * 1024 := Nat.mul_le_mul hb hB
      _ ≤ 140737488355328 := by decide
  refine TW.step (by unfold gwantD; rw [hg]) (os_appZ (elemTT_ok T hT) (T.uok _ _ htn) (T.zok _ _ hz) ho hx hMi hy hq hh hgr hbb (by omega)) (by simp) ?_
  simpa [updL] using h

def wosB : GV → Option (Nat × Nat × Nat)
  | .win id lo hi => some (id, lo, hi)
  | .sub id lo hi => some (id, lo, hi)
  | _ => none
theorem wosB_ok {g : GV} {id lo hi : Nat} (h : wosB g = some (id, lo, hi)) : g = .win id lo hi ∨ g = .sub id lo hi := by
  cases g <;> simp only [wosB, Option.some.injEq, Prod.mk.injEq, reduceCtorEq] at h
  · obtain ⟨rfl, rfl, rfl⟩ := h; exact .inr rfl
  · obtain ⟨rfl, rfl, rfl⟩ := h; exact .inl rfl

theorem TW.cy {t t' e sz bytes id lo hi : Nat} {d s : Operand} {xs ys ws : List (List GV)} (ho : o.op = .call { callee := .builtin .copy, args := #[d, s], argTypes := #[t, t'] }) (hg : o.guard = none) (hT : elemTT T t = some (e, sz, bytes))
    (hd : wosB (rhoOf σ d) = some (id, lo, hi)) (hid : id < M.length) (hMi : getM M id = .row e sz xs) (hy : srcOf (getM M) sz (rhoOf σ s) = some ys) (hw : ys.take (hi - lo) = ws)
    (hp : putS σ o.dst (.lit (.int .i64 (ws.length : Nat))) = σ') (hM : M.set id (.row e sz (spl xs lo ws)) = M')
    (hk : TW P ds rest σ' M' (tr ++ [⟨o.dst, id :: gid (rhoOf σ s), [id], M.length, 0⟩]) K) : TW P ds (o :: rest) σ M tr K := by
  subst hw; subst hp; subst hM
  refine TW.step (by unfold gwantD; rw [hg]) (os_copy (elemTT_ok T hT) ho (wosB_ok hd) hMi hy) (fun x hx => by simp at hx; subst hx; exact hid) ?_
  rw [updA_ok (nd1 _ _)]
  simpa [updA] using hk

theorem TW.cz {t e sz bytes id lo hi : Nat} {z : Value} {d : Operand} {xs : List (List GV)} (ho : o.op = .call { callee := .builtin .clear, args := #[d], argTypes := #[t] }) (hg : o.guard = none) (hT : elemTT T t = some (e, sz, bytes)) (hz : T.z e = some z)
    (hd : wosB (rhoOf σ d) = some (id, lo, hi)) (hid : id < M.length) (hMi : getM M id = .row e sz xs)
    (hp : putS σ o.dst .any = σ') (hM : M.set id (.row e sz (spl xs lo (List.replicate (hi - lo) (z.cells.toList.map .lit)))) = M')
    (hk : TW P ds rest σ' M' (tr ++ [⟨o.dst, [id], [id], M.length, 0⟩]) K) : TW P ds (o :: rest) σ M tr K := by
  subst hp; subst hM
  refine TW.step (by unfold gwantD; rw [hg]) (os_clear (elemTT_ok T hT) (T.zok _ _ hz) ho (wosB_ok hd) hMi) (fun x hx => by simp at hx; subst hx; exact hid) ?_
  rw [updA_ok (nd1 _ _)]
  simpa [updA] using hk

theorem TW.ov {t e sz f : Nat} {c x y : Operand} {ts : Array TypeId} {a b lo hi ea eb : Nat} {va xs : List (List GV)} (hF : OvF P f t) (ht : T.u t = some (.slice e)) (hsz : T.sz e = sz) (hpos : T.sz e ≠ 0)
    (ho : o.op = .call { callee := .value c, args := #[x, y], argTypes := ts }) (hg : o.guard = none) (hc : rhoOf σ c = .lit (.func (.func f) #[] #[])) (hx : rhoOf σ x = .row a) (hMa : getM M a = .row ea sz va) (hy : rhoOf σ y = .win b lo hi) (hMb : getM M b = .row eb sz xs) (hab : Nat.beq a b = false)
    (hp : putS σ o.dst (.lit (.bool false)) = σ') (h : TW P ds rest σ' M (tr ++ [⟨o.dst, [a, b], [], M.length, 0⟩]) K) : TW P ds (o :: rest) σ M tr K := by
  subst hp
  obtain ⟨fn, tb, h1, h2, h3, h4, h5⟩ := hF
  exact TW.rd hg (os_ov h1 h2 h3 h4 h5 (T.uok _ _ ht) (by rw [T.szok _ hpos]; exact hsz) (by omega) ho hc hx hMa hy hMb (fun e => by subst e; simp at hab)) h

theorem TW.sn {op : BinOp} {t yt e : TypeId} {x y : Operand} {b r : Bool} (ho : o.op = .binOp op t x y yt) (hg : o.guard = none) (hy : rhoOf σ y = .lit (.slice none 0 0)) (hu : T.u t = some (.slice e)) (hx : slN (getM M) (rhoOf σ x) = some b)
    (hr : eqOp op b = some r) (hp : putS σ o.dst (.lit (.bool r)) = σ') (h : TW P ds rest σ' M (tr ++ [⟨o.dst, gid (rhoOf σ x), [], M.length, 0⟩]) K) : TW P ds (o :: rest) σ M tr K := by
  subst hp
  exact TW.rd hg (os_sln ho hx hy (T.uok _ _ hu) (eqOp_ok hr)) h

def opk4 : Op → Nat
  | .call { callee := .builtin .cap, .. } => 41
  | .load .. => 42
  | .buildSlice _ 0 _ => 40
  | .slice .. => 43
  | .call { callee := .builtin .append, .. } => 44
  | .call { callee := .builtin .copy, .. } => 46
  | .call { callee := .builtin .clear, .. } => 47
  | .call { callee := .value _, .. } => 48
  | .binOp .eql .. => 49
  | .binOp .neq .. => 49
  | _ => 0
theorem TW.kd4 {ds : List (Option Tmp)} {o : Oper} {rest : List Oper} {σ : List GV} {M : List GO} {tr : List RI} {K : List GV → List GO → List RI → Prop} (k : Nat) (_hk : opk4 o.op = k) (h : TW P ds (o :: rest) σ M tr K) : TW P ds (o :: rest) σ M tr K := h
end

/-- The walk up to a region. -/
theorem CS.regX {m : Nat} {σ : List GV} {M : List GO} {R : Exit → List GV → List GO → Prop} {id : Nat} {ops : List Oper} (n : Nat) (_hn : Nat.beq id n = false) (mk : List Bool) (h : ∀ K0 : List GV → List GO → Prop, (∀ σ' M', R .normal (msk mk σ') M' → K0 σ' M') → TW P (ops.map (·.dst)) ops σ M [] (fun σ' M' _ => K0 σ' M')) :
    CS P m (.region id ops.toArray false) σ M R := CS.regl mk h
theorem CS.drawX (T : Tab P) {m : Nat} {σ : List GV} {M : List GO} {R : Exit → List GV → List GO → Prop} {id : Nat} {ops : List Oper} (n : Nat) (_hn : Nat.beq id n = false) (mk : List Bool) (h : ∀ K1 : List GV → List GO → List RI → Prop, (∀ σ' M' tr, indepI ops.toArray tr = true → R .normal (msk mk σ') M' → K1 σ' M' tr) → TW P (ops.map (·.dst)) ops σ M [] K1) :
    CS P m (.region id ops.toArray true) σ M R := CS.drawl T mk h

/-- A slice of no length: nil, or not. -/
theorem FS.slNil {f : FuncId} {bw : Bool} {sz : Nat} {ex : List (List GV)} {r : GV} {M' : List GO} (h1 : FS P f [.lit (.slice none 0 0)] [] r M') (h2 : ∀ a c, c ≤ maxLen → FS P f [.lit (.slice (some a) 0 c)] [] r M') : FS P f [.sl bw sz [] ex] [] r M' := by
  constructor
  intro Γ ι w as hS hsz hV
  obtain ⟨A, c, V, h3, hc, hA, _⟩ := (hV 0 _ rfl).sl_inv
  have hV' : ∀ v, as.getD 0 undef = v → ∀ (i : Nat) g, [GV.lit v][i]? = some g → VR Γ.Im Γ.Bw (· < ([] : List GO).length) ι w g (as.getD i undef) := fun v hv i g hg => by
    cases i with
    | zero => simp at hg; subst hg; rw [hv]; exact .litv _
    | succ i => simp at hg
  cases A with
  | none =>
    have := hA rfl
    subst this
    exact h1.run Γ ι w as hS hsz (hV' _ h3)
  | some a => exact (h2 a c hc.2).run Γ ι w as hS hsz (hV' _ h3)

theorem GS.slE {m : Nat} {σ : List GV} {M : List GO} {K : List GV → List GO → Prop} (t sz : Nat) {a : Addr} {c : Nat} (hσ : nthG σ t = some (.lit (.slice (some a) 0 c))) (hc : c ≤ maxLen) (h : GS m (σ.set t (.sl false sz [] [])) M K) : GS m σ M K := by
  intro Γ ι w ac hm hS hL
  have hv := (hL.2 t _ (nthG_ok hσ)).lit_inv
  refine h Γ ι w ac hm hS (hL.set t ?_)
  rw [hv]
  exact .imm (.sl false sz [] [] (some a) c (fun _ _ => undef) (by simp; exact hc) (fun h => by cases h) (fun _ _ => .inr rfl) (fun x h => by simp at h) (fun i j x g h => by simp at h) (fun i j x g h => by simp at h) (fun i j x g h => by simp at h))

/-! A slice of no element, that isn't nil. -/
theorem os_build0 {o : Oper} {ρ : Rho} {nb : Nat} {M0 : Nat → GO} {t e sz : Nat} (ho : o.op = .buildSlice t 0 #[]) (ht : P.underlying t = some (.slice e)) (hsz : P.cellsOf e = sz) (hpos : sz ≠ 0) : OpS P o ρ nb M0 [] (.row nb) [] [.row e sz []] := by
  refine .make fun Γ D ι M w ac hS hV _ hn => ?_
  have hr : (Instr.buildSlice t 0 #[]).run P w = .ok (.slice (some ⟨w.heap.size, 0, none⟩) 0 0) (w.alloc (.cells #[] e)) := by
    have hz := run_szC (P := P) (w := w) hsz hpos
    simp [Instr.buildSlice, run_underlying ht, hz, Instr.fill, newRow]
    congr 2
    apply Array.ext' <;> simp
  refine ⟨⟨some w.heap.size, sz, 0, 0⟩, .slice (some ⟨w.heap.size, 0, none⟩) 0 0, w.alloc (.cells #[] e), ?_, rfl, rfl, rfl, by simp, fun b hb => heap_alloc_old w _ hb, fun b hb => by simp at hb; omega, fun D' ι' hD hDn hι hιn => ⟨?_, ?_⟩⟩
  · simp only [execOp, ho, Sem.run_bind]
    simp only [Array.map_empty, hr, Result.andThen_ok, Sem.run_pure]
  · refine ⟨⟨rfl, fun b arr t hb hg v hv => ?_⟩, rfl, fun x h => by simp at h, [], ⟨by simp, .inr ⟨w.heap.size, 0, #[], rfl, Nat.zero_le _, heap_alloc_new w _, Nat.le_refl _, Nat.zero_le _, by simp, by simp⟩⟩, fun v h => by simp at h, fun i j x g h => by simp at h⟩
    cases hb
    have hg3 := (heap_alloc_new w (.cells #[] e)).symm.trans hg
    cases hg3
    simp at hv
  · have := VR.row (Im := Γ.Im) (Bw := Γ.Bw) (D := D') (ι := ι') (w := w.alloc (.cells #[] e)) nb hDn
    rw [hιn] at this
    simpa using this

theorem TW.b0 (T : Tab P) {ds : List (Option Tmp)} {o : Oper} {rest : List Oper} {σ σ' : List GV} {M M' : List GO} {tr : List RI} {K : List GV → List GO → List RI → Prop} {t e : Nat} (ho : o.op = .buildSlice t 0 #[]) (hg : o.guard = none) (ht : T.u t = some (.slice e)) (hsz : T.sz e ≠ 0)
    (hp : putS σ o.dst (.row M.length) = σ') (hM : M ++ [.row e (T.sz e) []] = M') (h : TW P ds rest σ' M' (tr ++ [⟨o.dst, [], [], M.length, 1⟩]) K) : TW P ds (o :: rest) σ M tr K := by
  subst hp; subst hM
  refine TW.step (by unfold gwantD; rw [hg]) (os_build0 ho (T.uok _ _ ht) (T.szok _ hsz) hsz) (by simp) ?_
  simpa [updL] using h
end Go.Gh


/-! Looking into a nil map. -/
namespace Go.Gh
variable {P : Program}

theorem os_lookN {o : Oper} {ρ : Rho} {nb : Nat} {M0 : Nat → GO} {t key elem : TypeId} {x y : Operand} {k kk : IntKind} {n : Int} {z : Value} (ho : o.op = .lookup t x y false) (ht : P.underlying t = some (.map key elem)) (hk : P.underlying key = some (.int kk)) (hz : zeroOf P elem = some z)
    (hx : ρ x = .lit (.map none)) (hy : ρ y = .lit (.int k n)) : OpS P o ρ nb M0 [] (.lit z) [] [] := by
  refine .quiet fun Γ D ι M w ac hS hV _ => ⟨z, .litv _, ?_⟩
  have h1 := (hx ▸ hV x (by simp [ho, Op.operands])).lit_inv
  have h2 := (hy ▸ hV y (by simp [ho, Op.operands])).lit_inv
  have hc : (Instr.checkKey true 10000 key (.int k n)).run P w = .ok () w := by
    rw [show (10000 : Nat) = 9999 + 1 from rfl, Instr.checkKey]
    simp [run_underlying hk]
  have hzv : (zeroValue elem).run P w = .ok z w := by
    unfold zeroOf at hz
    cases hi : P.info? elem with
    | none => simp [hi] at hz
    | some i => simp [hi] at hz; simp [zeroValue, typeInfo, hi, hz]
  simp [execOp, ho, h1, h2, Instr.lookup, run_underlying ht, hc, Instr.findKey, run_underlying hk, Instr.findNow, hzv]

theorem TW.ml (T : Tab P) {ds : List (Option Tmp)} {o : Oper} {rest : List Oper} {σ σ' : List GV} {M : List GO} {tr : List RI} {K : List GV → List GO → List RI → Prop} {t key elem : Nat} {x y : Operand} {k kk : IntKind} {n : Int} {z : Value} (ho : o.op = .lookup t x y false) (hg : o.guard = none)
    (ht : T.u t = some (.map key elem)) (hk : T.u key = some (.int kk)) (hz : T.z elem = some z) (hx : rhoOf σ x = .lit (.map none)) (hy : rhoOf σ y = .lit (.int k n)) (hp : putS σ o.dst (.lit z) = σ')
    (h : TW P ds rest σ' M (tr ++ [⟨o.dst, [], [], M.length, 0⟩]) K) : TW P ds (o :: rest) σ M tr K := by
  subst hp
  exact TW.rd hg (os_lookN ho (T.uok _ _ ht) (T.uok _ _ hk) (T.zok _ _ hz) hx hy) h

def opk5 : Op → Nat
  | .lookup .. => 61
  | _ => 0
theorem TW.kd5 {ds : List (Option Tmp)} {o : Oper} {rest : List Oper} {σ : List GV} {M : List GO} {tr : List RI} {K : List GV → List GO → List RI → Prop} (k : Nat) (_hk : opk5 o.op = k) (h : TW P ds (o :: rest) σ M tr K) : TW P ds (o :: rest) σ M tr K := h
end Go.Gh


/-! Maps from numbers to what is pure. -/
namespace Go.Gh
variable {P : Program}

theorem VR.mref_inv {Im Bw D : Nat → Prop} {ι : Nat → Hd} {w : World} {id : Nat} {v : Value} (h : VR Im Bw D ι w (.mref id) v) : D id ∧ ∃ b, (ι id).A = some b ∧ v = .map (some b) := by
  cases h with
  | imm h => cases h
  | mref id b hD hb => exact ⟨hD, b, hb, rfl⟩

theorem fnow_none {kk k : IntKind} {n : Int} : ∀ (es : List MapEntry) (l : List (Int × GV)) (j : Nat), es.length = l.length →
    (∀ (i : Nat) e, l[i]? = some e → ∃ m, es[i]? = some m ∧ m.key = .int k e.1) → l.find? (fun e => e.1 == n) = none → Instr.findNow (.int kk) (.int k n) es j = some none
  | [], [], _, _, _, _ => rfl
  | [], _ :: _, _, h, _, _ => by simp at h
  | _ :: _, [], _, h, _, _ => by simp at h
  | m :: es, e :: l, j, hn, hk, hf => by
    obtain ⟨m', h1, h2⟩ := hk 0 e rfl
    simp at h1
    subst h1
    have ih := fnow_none (kk := kk) (k := k) (n := n) es l (j + 1) (by simpa using hn) (fun i e he => hk (i + 1) e (by simpa using he))
    simp only [List.find?_cons] at hf
    split at hf
    · cases hf
    · rename_i hne
      have hne' : (n == e.1) = false := by
        simp at hne ⊢; exact fun h => hne h.symm
      simp [Instr.findNow, Instr.sameNow, h2, hne', ih hf]

theorem fnow_some {kk k : IntKind} {n : Int} {x : Int × GV} : ∀ (es : List MapEntry) (l : List (Int × GV)) (j : Nat), es.length = l.length →
    (∀ (i : Nat) e, l[i]? = some e → ∃ m, es[i]? = some m ∧ m.key = .int k e.1) → l.find? (fun e => e.1 == n) = some x →
    ∃ (i : Nat) (m : MapEntry), es[i]? = some m ∧ l[i]? = some x ∧ Instr.findNow (.int kk) (.int k n) es j = some (some (j + i, m.val))
  | [], [], _, _, _, h => by simp at h
  | [], _ :: _, _, h, _, _ => by simp at h
  | _ :: _, [], _, h, _, _ => by simp at h
  | m :: es, e :: l, j, hn, hk, hf => by
    obtain ⟨m', h1, h2⟩ := hk 0 e rfl
    simp at h1
    subst h1
    have ih := fnow_some (kk := kk) (k := k) (n := n) (x := x) es l (j + 1) (by simpa using hn) (fun i e he => hk (i + 1) e (by simpa using he))
    simp only [List.find?_cons] at hf
    split at hf
    · rename_i heq
      simp only [Option.some.injEq] at hf
      subst hf
      have : n = e.1 := by simp at heq; exact heq.symm
      subst this
      exact ⟨0, m, rfl, rfl, by simp [Instr.findNow, Instr.sameNow, h2]⟩
    · rename_i hne
      have hne' : (n == e.1) = false := by
        simp at hne ⊢; exact fun h => hne h.symm
      obtain ⟨i, m', a, b, c⟩ := ih hf
      refine ⟨i + 1, m', by simpa using a, by simpa using b, ?_⟩
      simp only [Instr.findNow, Instr.sameNow, h2, if_true, hne']
      rw [c]; congr 3; omega

theorem run_ckey {b : Bool} {key : TypeId} {kk k : IntKind} {n : Int} {w : World} (hk : P.underlying key = some (.int kk)) : (Instr.checkKey b 10000 key (.int k n)).run P w = .ok () w := by
  rw [show (10000 : Nat) = 9999 + 1 from rfl, Instr.checkKey]
  simp [run_underlying hk]

theorem os_mkmap {o : Oper} {ρ : Rho} {nb : Nat} {M0 : Nat → GO} {t : TypeId} (k : IntKind) (ho : o.op = .makeMap t none) : OpS P o ρ nb M0 [] (.mref nb) [] [.mp k []] := by
  refine .make fun Γ D ι M w ac hS hV hM hn => ⟨⟨some w.heap.size, 0, 0, 0⟩, .map (some w.heap.size), { w with heap := w.heap.push (.map #[] 0) }, ?_, rfl, rfl, rfl, ?_, ?_, ?_, fun D' ι' h1 h2 h3 h4 => ⟨⟨w.heap.size, #[], 0, rfl, ?_, rfl, fun i e h => by simp at h⟩, .mref nb _ h2 (by rw [h4])⟩⟩
  · have : (newObj (.map #[] 0)).run P w = .ok w.heap.size { w with heap := w.heap.push (.map #[] 0) } := rfl
    simp only [execOp, ho, Instr.makeMap, Option.map_none]
    rfl
  · show w.heap.size ≤ (w.heap.push _).size
    rw [Array.size_push]; omega
  · intro b hb
    show (w.heap.push _)[b]? = _
    rw [Array.getElem?_push, if_neg (Nat.ne_of_lt hb)]
  · intro b hb
    have := Option.some.inj hb
    omega
  · show (w.heap.push _)[w.heap.size]? = _
    rw [Array.getElem?_push, if_pos rfl]

theorem os_mapup {o : Oper} {ρ : Rho} {nb : Nat} {M0 : Nat → GO} {t key elem : TypeId} {x y z : Operand} {id : Nat} {k kk : IntKind} {n : Int} {l : List (Int × GV)} (ho : o.op = .mapUpdate t x y z) (ht : P.underlying t = some (.map key elem)) (hk : P.underlying key = some (.int kk))
    (hx : ρ x = .mref id) (hy : ρ y = .lit (.int k n)) (hM0 : M0 id = .mp k l) (hf : l.find? (fun e => e.1 == n) = none) (hp : noid (ρ z) = true ∧ nobw (ρ z) = true) :
    OpS P o ρ nb M0 [id] .any [(id, .mp k (l ++ [(n, ρ z)]))] [] := by
  refine .write (fun h => by rw [hM0] at h; cases h) fun Γ D ι M w ac hS hV hM => ?_
  obtain ⟨hD, b, hb, h1⟩ := (hx ▸ hV x (by simp [ho, Op.operands])).mref_inv
  have h2 := (hy ▸ hV y (by simp [ho, Op.operands])).lit_inv
  have h3 := (hV z (by simp [ho, Op.operands])).toVP hp.1 hp.2
  have hO := hS.obj id
  rw [hM, hM0] at hO
  obtain ⟨b', es, cl, a1, a2, a3, a4⟩ := hO
  obtain rfl : b' = b := Option.some.inj (a1.symm.trans hb)
  have hfn := fnow_none (kk := kk) (k := k) (n := n) es.toList l 0 (by simpa using a3) (fun i e he => by obtain ⟨m, c1, c2, _⟩ := a4 i e he; exact ⟨m, by simpa using c1, c2⟩) hf
  have hlt : b' < w.heap.size := (Array.getElem?_eq_some_iff.1 a2).1
  refine ⟨{ w with heap := w.heap.setIfInBounds b' (.map (es.push { key := .int k n, val := ac.eval z, born := cl }) (cl + 1)) }, ?_, rfl, rfl, rfl, by simp, fun c hc => ?_, fun hVR hVP => ⟨b', es.push { key := .int k n, val := ac.eval z, born := cl }, cl + 1, a1, by simp [hlt], by simp [a3], fun i e he => ?_⟩⟩
  · simp [execOp, ho, h1, h2, Instr.mapUpdate, run_underlying ht, run_ckey hk, MapKept.run_getObj_map a2, MapKept.run_setObj_map _ a2, Instr.findKey, run_underlying hk, hfn]
  · have : b' ≠ c := fun e => hc (by rw [a1, e])
    simp [Array.getElem?_setIfInBounds, this]
  · rw [List.getElem?_append] at he
    split at he
    · rename_i hi
      obtain ⟨m, c1, c2, c3⟩ := a4 i e he
      refine ⟨m, ?_, c2, hVP _ _ c3⟩
      rw [Array.getElem?_push, if_neg (by omega)]; exact c1
    · rename_i hi
      have hi0 : i - l.length = 0 := by
        have := (List.getElem?_eq_some_iff.1 he).1
        simp at this; omega
      rw [hi0] at he
      simp at he
      subst he
      refine ⟨_, by rw [Array.getElem?_push, if_pos (by omega)], rfl, hVP _ _ h3⟩

theorem os_look {o : Oper} {ρ : Rho} {nb : Nat} {M0 : Nat → GO} {t key elem : TypeId} {x y : Operand} {id : Nat} {k kk : IntKind} {n : Int} {l : List (Int × GV)} {e : Int × GV} (ho : o.op = .lookup t x y false) (ht : P.underlying t = some (.map key elem)) (hk : P.underlying key = some (.int kk))
    (hx : ρ x = .mref id) (hy : ρ y = .lit (.int k n)) (hM0 : M0 id = .mp k l) (hf : l.find? (fun e => e.1 == n) = some e) : OpS P o ρ nb M0 [id] e.2 [] [] := by
  refine .quiet fun Γ D ι M w ac hS hV hM => ?_
  obtain ⟨hD, b, hb, h1⟩ := (hx ▸ hV x (by simp [ho, Op.operands])).mref_inv
  have h2 := (hy ▸ hV y (by simp [ho, Op.operands])).lit_inv
  have hO := hS.obj id
  rw [hM id (by simp), hM0] at hO
  obtain ⟨b', es, cl, a1, a2, a3, a4⟩ := hO
  obtain rfl : b' = b := Option.some.inj (a1.symm.trans hb)
  obtain ⟨i, m, c1, c2, c3⟩ := fnow_some (kk := kk) (k := k) (n := n) es.toList l 0 (by simpa using a3) (fun i e he => by obtain ⟨m, c1, c2, _⟩ := a4 i e he; exact ⟨m, by simpa using c1, c2⟩) hf
  obtain ⟨m', d1, d2, d3⟩ := a4 i e c2
  have : m' = m := by simpa [d1] using c1
  subst this
  refine ⟨m'.val, .imm d3.toVI, ?_⟩
  simp [execOp, ho, h1, h2, Instr.lookup, run_underlying ht, run_ckey hk, MapKept.run_getObj_map a2, Instr.findKey, run_underlying hk, c3]

theorem os_look0 {o : Oper} {ρ : Rho} {nb : Nat} {M0 : Nat → GO} {t key elem : TypeId} {x y : Operand} {id : Nat} {k kk : IntKind} {n : Int} {l : List (Int × GV)} {z : Value} (ho : o.op = .lookup t x y false) (ht : P.underlying t = some (.map key elem)) (hk : P.underlying key = some (.int kk)) (hz : zeroOf P elem = some z)
    (hx : ρ x = .mref id) (hy : ρ y = .lit (.int k n)) (hM0 : M0 id = .mp k l) (hf : l.find? (fun e => e.1 == n) = none) : OpS P o ρ nb M0 [id] (.lit z) [] [] := by
  refine .quiet fun Γ D ι M w ac hS hV hM => ?_
  obtain ⟨hD, b, hb, h1⟩ := (hx ▸ hV x (by simp [ho, Op.operands])).mref_inv
  have h2 := (hy ▸ hV y (by simp [ho, Op.operands])).lit_inv
  have hO := hS.obj id
  rw [hM id (by simp), hM0] at hO
  obtain ⟨b', es, cl, a1, a2, a3, a4⟩ := hO
  obtain rfl : b' = b := Option.some.inj (a1.symm.trans hb)
  have hfn := fnow_none (kk := kk) (k := k) (n := n) es.toList l 0 (by simpa using a3) (fun i e he => by obtain ⟨m, c1, c2, _⟩ := a4 i e he; exact ⟨m, by simpa using c1, c2⟩) hf
  have hzv : (zeroValue elem).run P w = .ok z w := by
    unfold zeroOf at hz
    cases hi : P.info? elem with
    | none => simp [hi] at hz
    | some i => simp [hi] at hz; simp [zeroValue, typeInfo, hi, hz]
  refine ⟨z, .litv _, ?_⟩
  simp [execOp, ho, h1, h2, Instr.lookup, run_underlying ht, run_ckey hk, MapKept.run_getObj_map a2, Instr.findKey, run_underlying hk, hfn, hzv]

section
variable {ds : List (Option Tmp)} {o : Oper} {rest : List Oper} {σ σ' : List GV} {M M' : List GO} {tr : List RI} {K : List GV → List GO → List RI → Prop}
theorem TW.mm (T : Tab P) {t key elem : Nat} {kk : IntKind} (ho : o.op = .makeMap t none) (hg : o.guard = none) (_ht : T.u t = some (.map key elem)) (_hk : T.u key = some (.int kk)) (hp : putS σ o.dst (.mref M.length) = σ') (hM : M ++ [.mp kk []] = M')
    (h : TW P ds rest σ' M' (tr ++ [⟨o.dst, [], [], M.length, 1⟩]) K) : TW P ds (o :: rest) σ M tr K := by
  subst hp; subst hM
  exact TW.step (by unfold gwantD; rw [hg]) (os_mkmap kk ho) (by simp) h
theorem TW.mu (T : Tab P) {t key elem : Nat} {x y z : Operand} {id : Nat} {k kk : IntKind} {n : Int} {l : List (Int × GV)} {g : GV} (ho : o.op = .mapUpdate t x y z) (hg : o.guard = none) (ht : T.u t = some (.map key elem)) (hk : T.u key = some (.int kk))
    (hx : rhoOf σ x = .mref id) (hy : rhoOf σ y = .lit (.int k n)) (hz : rhoOf σ z = g) (hM0 : getM M id = .mp k l) (hf : l.find? (fun e => e.1 == n) = none) (hp1 : noid g = true) (hp2 : nobw g = true) (hid : id < M.length) (hd : o.dst = none)
    (hM : updL M [(id, .mp k (l ++ [(n, g)]))] [] = M') (h : TW P ds rest σ M' (tr ++ [⟨none, [id], [id], M.length, 0⟩]) K) : TW P ds (o :: rest) σ M tr K := by
  subst hM; subst hz
  refine TW.step (by unfold gwantD; rw [hg]) (os_mapup ho (T.uok _ _ ht) (T.uok _ _ hk) hx hy hM0 hf ⟨hp1, hp2⟩) (fun x hx => by simp at hx; subst hx; exact hid) ?_
  rw [hd]; exact h
theorem TW.mk (T : Tab P) {t key elem : Nat} {x y : Operand} {id : Nat} {k kk : IntKind} {n m : Int} {l : List (Int × GV)} {g : GV} (ho : o.op = .lookup t x y false) (hg : o.guard = none)
    (ht : T.u t = some (.map key elem)) (hk : T.u key = some (.int kk)) (hx : rhoOf σ x = .mref id) (hy : rhoOf σ y = .lit (.int k n)) (hM0 : getM M id = .mp k l) (hf : l.find? (fun e => e.1 == n) = some (m, g)) (hp : putS σ o.dst g = σ')
    (h : TW P ds rest σ' M (tr ++ [⟨o.dst, [id], [], M.length, 0⟩]) K) : TW P ds (o :: rest) σ M tr K := by
  subst hp
  exact TW.rd hg (os_look ho (T.uok _ _ ht) (T.uok _ _ hk) hx hy hM0 hf) h
theorem TW.mz (T : Tab P) {t key elem : Nat} {x y : Operand} {id : Nat} {k kk : IntKind} {n : Int} {l : List (Int × GV)} {z : Value} (ho : o.op = .lookup t x y false) (hg : o.guard = none)
    (ht : T.u t = some (.map key elem)) (hk : T.u key = some (.int kk)) (hz : T.z elem = some z) (hx : rhoOf σ x = .mref id) (hy : rhoOf σ y = .lit (.int k n)) (hM0 : getM M id = .mp k l) (hf : l.find? (fun e => e.1 == n) = none) (hp : putS σ o.dst (.lit z) = σ')
    (h : TW P ds rest σ' M (tr ++ [⟨o.dst, [id], [], M.length, 0⟩]) K) : TW P ds (o :: rest) σ M tr K := by
  subst hp
  exact TW.rd hg (os_look0 ho (T.uok _ _ ht) (T.uok _ _ hk) (T.zok _ _ hz) hx hy hM0 hf) h
end

def opk6 : Op → Nat
  | .makeMap .. => 71
  | .mapUpdate .. => 72
  | .lookup .. => 73
  | _ => 0
theorem TW.kd6 {ds : List (Option Tmp)} {o : Oper} {rest : List Oper} {σ : List GV} {M : List GO} {tr : List RI} {K : List GV → List GO → List RI → Prop} (k : Nat) (_hk : opk6 o.op = k) (h : TW P ds (o :: rest) σ M tr K) : TW P ds (o :: rest) σ M tr K := h
end Go.Gh
