import Derived.Test.YtoamjccphppdmaaGhZg

/-! Contracts told from another state; calls whose objects are found by themselves. -/

namespace Go.Gh
variable {P : Program}

theorem FS.ghost {f : FuncId} {args : List GV} {M N : List GO} {r : GV} (h : GS M.length args M fun σ' M' => FS P f σ' M' r N ∧ σ'.length = args.length) : FS P f args M r N := by
  constructor
  intro Γ ι w as hS hsz hV
  obtain ⟨σ', M', Im', ι', ⟨h1, hl⟩, h2, h3, h4, h5, h6⟩ := h Γ ι w ⟨as, []⟩ (Nat.le_refl _) hS ⟨hsz, hV⟩
  refine (h1.run ⟨Im', Γ.Bw, Γ.Fz⟩ ι' w as h5 (by rw [hl]; exact hsz) h6.2).mono fun e w' hw => ?_
  obtain ⟨v, Im2, ι2, he, k1, k2, k3, k4, k5⟩ := hw
  exact ⟨v, Im2, ι2, he, keep_frz h2 k1, fun b hb => k2 b (h2 b hb), fun i hi => (k3 i (by omega)).trans (h3 i hi), k4, k5⟩

/-- What is read cell by cell, as a list of one's own. -/
theorem exMap {α : Type} {enc : α → List GV} {p : α → Prop} : ∀ {xs : List (List GV)}, (∀ x, x ∈ xs → ∃ a, x = enc a ∧ p a) → ∃ l : List α, xs = l.map enc ∧ ∀ a, a ∈ l → p a
  | [], _ => ⟨[], rfl, fun a h => by simp at h⟩
  | x :: xs, h => by
    obtain ⟨a, rfl, ha⟩ := h x (List.mem_cons_self ..)
    obtain ⟨l, rfl, hl⟩ := exMap (xs := xs) fun y hy => h y (List.mem_cons_of_mem _ hy)
    refine ⟨a :: l, rfl, fun b hb => ?_⟩
    rcases List.mem_cons.1 hb with rfl | hb
    · exact ha
    · exact hl b hb

/-- The object that a call's first operand tells of. -/
def argId (ρ : Rho) : Op → Option Nat
  | .call { callee := .value _, args := xs, .. } => match xs.toList with
    | x :: _ => match ρ x with
      | .adr id _ _ => some id
      | _ => none
    | _ => none
  | _ => none

def refL : List GV → Option Nat
  | [] => none
  | .row id :: _ => some id
  | _ :: l => refL l

def refId : GO → Option Nat
  | .cells cs => refL cs
  | _ => none

section
variable (T : Tab P) {ds : List (Option Tmp)} {o : Oper} {rest : List Oper} {σ σ' : List GV} {M M' : List GO} {tr : List RI} {K : List GV → List GO → List RI → Prop}

theorem TW.co2 {f : FuncId} {c : Operand} {xs : Array Operand} {ts : Array TypeId} {caps args : List GV} {r : GV} {N Mc : List GO} {a b : Nat} (_h1 : argId (rhoOf σ) o.op = some a) (_h2 : refId (getM M a) = some b)
    (ho : o.op = .call { callee := .value c, args := xs, argTypes := ts }) (hg : o.guard = none)
    (hc : calleeG (rhoOf σ c) = some (f, caps)) (hf : T.fn f = true) (hnd : Nat.beq a b = false) (hlv : [a, b].all (fun id => decide (id < M.length) && (match getM M id with | .dead => false | _ => true) && ginO [a, b] (getM M id)) = true)
    (ha : lendAll (getM M) [a, b] (xs.toList.map (rhoOf σ) ++ caps) = some args) (hMc : ([a, b].map fun id => renO ([a, b].idxOf ·) (getM M id)) = Mc) (hF : FS P f args Mc r N) (hlen : Nat.ble 2 N.length = true) (hnb : nobw r = true) (hnN : N.all nobwO = true)
    (hp : putS σ o.dst (ren (upN [a, b] M.length) r) = σ') (hM : updA M ([a, b].zip ((N.take 2).map (renO (upN [a, b] M.length)))) ((N.drop 2).map (renO (upN [a, b] M.length))) = M')
    (h : TW P ds rest σ' M' (tr ++ [⟨o.dst, [a, b] ++ borAll [a, b] (xs.toList.map (rhoOf σ) ++ caps), ([a, b].zip ((N.take 2).map (renO (upN [a, b] M.length)))).map (·.1), M.length, ((N.drop 2).map (renO (upN [a, b] M.length))).length⟩]) K) : TW P ds (o :: rest) σ M tr K :=
  TW.cn T [a, b] ho hg hc hf (by simp; intro e; subst e; simp at hnd) hlv ha hMc hF (Nat.le_of_ble_eq_true hlen) hnb hnN hp hM h

theorem TW.co1 {f : FuncId} {c : Operand} {xs : Array Operand} {ts : Array TypeId} {caps args : List GV} {r : GV} {N Mc : List GO} {a : Nat} (_h1 : argId (rhoOf σ) o.op = some a)
    (ho : o.op = .call { callee := .value c, args := xs, argTypes := ts }) (hg : o.guard = none)
    (hc : calleeG (rhoOf σ c) = some (f, caps)) (hf : T.fn f = true) (hlv : [a].all (fun id => decide (id < M.length) && (match getM M id with | .dead => false | _ => true) && ginO [a] (getM M id)) = true)
    (ha : lendAll (getM M) [a] (xs.toList.map (rhoOf σ) ++ caps) = some args) (hMc : ([a].map fun id => renO ([a].idxOf ·) (getM M id)) = Mc) (hF : FS P f args Mc r N) (hlen : Nat.ble 1 N.length = true) (hnb : nobw r = true) (hnN : N.all nobwO = true)
    (hp : putS σ o.dst (ren (upN [a] M.length) r) = σ') (hM : updA M ([a].zip ((N.take 1).map (renO (upN [a] M.length)))) ((N.drop 1).map (renO (upN [a] M.length))) = M')
    (h : TW P ds rest σ' M' (tr ++ [⟨o.dst, [a] ++ borAll [a] (xs.toList.map (rhoOf σ) ++ caps), ([a].zip ((N.take 1).map (renO (upN [a] M.length)))).map (·.1), M.length, ((N.drop 1).map (renO (upN [a] M.length))).length⟩]) K) : TW P ds (o :: rest) σ M tr K :=
  TW.cn T [a] ho hg hc hf (by simp) hlv ha hMc hF (Nat.le_of_ble_eq_true hlen) hnb hnN hp hM h
end

end Go.Gh
