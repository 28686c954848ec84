import Derived.Test.YtoamjccphppdmaaGhZa

/-! Loops, and calls to which objects are handed. -/

namespace Go.Gh
variable {P : Program}

/-! Which slots are kept, told by a mask. -/

def keepG (keep : List Nat) (g : GV) : GV := bif gin keep g then ren (keep.idxOf ·) g else .any

def nslM (keep : List Nat) : List Bool → List GV → List GV
  | _, [] => []
  | [], _ :: σ => .any :: nslM keep [] σ
  | true :: m, g :: σ => keepG keep g :: nslM keep m σ
  | false :: m, _ :: σ => .any :: nslM keep m σ

theorem nslM_get (keep : List Nat) : ∀ (m : List Bool) (σ : List GV) (t : Nat), (nslM keep m σ)[t]? = σ[t]?.map fun g => bif m.getD t false then keepG keep g else .any
  | m, [], t => by cases m <;> simp [nslM]
  | [], g :: σ, 0 => by simp [nslM]
  | [], g :: σ, t + 1 => by
    rw [nslM, List.getElem?_cons_succ, List.getElem?_cons_succ, nslM_get keep [] σ t]
    simp
  | true :: m, g :: σ, 0 => by simp [nslM]
  | true :: m, g :: σ, t + 1 => by
    rw [nslM, List.getElem?_cons_succ, List.getElem?_cons_succ, nslM_get keep m σ t]
    simp
  | false :: m, g :: σ, 0 => by simp [nslM]
  | false :: m, g :: σ, t + 1 => by
    rw [nslM, List.getElem?_cons_succ, List.getElem?_cons_succ, nslM_get keep m σ t]
    simp

def liveOf (m : List Bool) : List Nat := (List.range m.length).filter fun t => m.getD t false

theorem nslM_ok (keep : List Nat) (m : List Bool) (σ : List GV) : nslots keep (liveOf m) σ = nslM keep m σ := by
  apply List.ext_getElem?
  intro t
  rw [nslM_get, nslots, List.getElem?_mapIdx]
  have hc : (liveOf m).contains t = m.getD t false := by
    rw [Bool.eq_iff_iff]
    simp only [liveOf, List.contains_iff_mem, List.mem_filter, List.mem_range, List.getD_eq_getElem?_getD]
    constructor
    · exact fun h => h.2
    · intro h
      refine ⟨?_, h⟩
      by_cases ht : t < m.length
      · exact ht
      · rw [List.getElem?_eq_none (by omega)] at h; simp at h
  cases σ[t]? with
  | none => rfl
  | some g =>
    simp only [Option.map_some, hc, keepG]
    cases m.getD t false <;> cases gin keep g <;> rfl

def loopR {X : Type} (m : Nat) (I : X → Prop) (inv : X → List GV) (obs : X → List GO) (μ : X → Nat) (x : X) (R : Exit → List GV → List GO → Prop) : Exit → List GV → List GO → Prop := fun e σ' M' =>
  match e with
  | .normal => ∃ x' keep mask, I x' ∧ μ x' < μ x ∧ keep.Nodup ∧ pins m keep = true ∧ nslM keep mask σ' = inv x' ∧ nobjs keep M' = obs x'
  | e => R e σ' M'

theorem CS.lp {m : Nat} {c : Code} {σ : List GV} {M : List GO} {R : Exit → List GV → List GO → Prop} {X : Type} (I : X → Prop) (inv : X → List GV) (obs : X → List GO) (μ : X → Nat) (x0 : X) (keep : List Nat) (mask : List Bool)
    (hn : keep.Nodup) (hp : pins m keep = true) (h0 : I x0) (hσ : nslM keep mask σ = inv x0) (hM : nobjs keep M = obs x0)
    (round : ∀ x, I x → CS P m c (inv x) (obs x) (loopR m I inv obs μ x R)) : CS P m (.loop c) σ M R := by
  refine CS_norm keep (liveOf mask) hn hp ?_
  rw [nslM_ok, hσ, hM]
  refine CS_loop (X := { x : X // I x }) (fun x => inv x.1) (fun x => obs x.1) (fun x => μ x.1) (fun x => ?_) ⟨x0, h0⟩
  refine CS.mono (round x.1 x.2) fun e σ M h => ?_
  cases e with
  | normal =>
    obtain ⟨x', keep, mask, h1, h2, h3, h4, h5, h6⟩ := h
    exact ⟨⟨x', h1⟩, keep, liveOf mask, h2, h3, h4, (nslM_ok keep mask σ).trans h5, h6⟩
  | _ => exact h

theorem zip_fst {α β : Type} : ∀ (l : List α) (l' : List β), ((l.zip l').map (·.1)).Sublist l
  | [], _ => by simp
  | x :: l, [] => by simp
  | x :: l, y :: l' => by
    rw [List.zip_cons_cons, List.map_cons]
    exact (zip_fst l l').cons_cons x

/-- A call to which objects are handed. -/
theorem TW.cn (T : Tab P) {ds : List (Option Tmp)} {o : Oper} {rest : List Oper} {σ σ' : List GV} {M M' : List GO} {tr : List RI} {K : List GV → List GO → List RI → Prop}
    {f : FuncId} {c : Operand} {xs : Array Operand} {ts : Array TypeId} {caps args : List GV} {r : GV} {N Mc : List GO} (ids : List Nat) (ho : o.op = .call { callee := .value c, args := xs, argTypes := ts }) (hg : o.guard = none)
    (hc : calleeG (rhoOf σ c) = some (f, caps)) (hf : T.fn f = true) (hnd : ids.Nodup) (hlv : ids.all (fun id => decide (id < M.length) && (match getM M id with | .dead => false | _ => true) && ginO ids (getM M id)) = true)
    (ha : lendAll (getM M) ids (xs.toList.map (rhoOf σ) ++ caps) = some args) (hMc : (ids.map fun id => renO (ids.idxOf ·) (getM M id)) = Mc) (hF : FS P f args Mc r N) (hlen : ids.length ≤ N.length) (hnb : nobw r = true) (hnN : N.all nobwO = true)
    (hp : putS σ o.dst (ren (upN ids M.length) r) = σ') (hM : updA M (ids.zip ((N.take ids.length).map (renO (upN ids M.length)))) ((N.drop ids.length).map (renO (upN ids M.length))) = M')
    (h : TW P ds rest σ' M' (tr ++ [⟨o.dst, ids ++ borAll ids (xs.toList.map (rhoOf σ) ++ caps), (ids.zip ((N.take ids.length).map (renO (upN ids M.length)))).map (·.1), M.length, ((N.drop ids.length).map (renO (upN ids M.length))).length⟩]) K) : TW P ds (o :: rest) σ M tr K :=
  TW.cm T ids ho hg hc hf hnd hlv ha hMc hF hlen hnb hnN hp (by rw [updA_ok ((zip_fst _ _).nodup hnd)]; exact hM) h

theorem TW.tw {ds : List (Option Tmp)} {l : List Oper} {σ : List GV} {M : List GO} {tr : List RI} {K : List GV → List GO → List RI → Prop} (h : TW P ds l σ M tr K) : TW P ds l σ M tr K := h

theorem nd0 : (([] : List (Nat × GO)).map (·.1)).Nodup := by simp
theorem nd1 (i : Nat) (ob : GO) : ([(i, ob)].map (·.1)).Nodup := by simp

theorem zp_s {α β : Type} (x : α) (y : β) (l : List α) (l' : List β) : (x :: l).zip (y :: l') = (x, y) :: l.zip l' := rfl
theorem zp_z {α β : Type} (l : List β) : ([] : List α).zip l = [] := rfl
theorem ln_s {α : Type} (x : α) (l : List α) : (x :: l).length = l.length + 1 := rfl
theorem ln_z {α : Type} : ([] : List α).length = 0 := rfl
theorem up_0 (nb j : Nat) : upN [] nb j = nb + j := rfl
theorem up_1z (a nb : Nat) : upN [a] nb 0 = a := rfl
theorem up_1s (a nb n : Nat) : upN [a] nb (n + 1) = nb + n := rfl
theorem up_2z (a b nb : Nat) : upN [a, b] nb 0 = a := rfl
theorem up_2o (a b nb : Nat) : upN [a, b] nb 1 = b := rfl
theorem up_2s (a b nb n : Nat) : upN [a, b] nb (n + 2) = nb + n := rfl

theorem wrap_nat {n : Nat} (h : n < 9223372036854775807) : IntKind.i64.wrap ((n : Int) + 1) = ((n + 1 : Nat) : Int) := by
  rw [wrap_i64 _ (by omega) (by omega)]; omega

end Go.Gh
