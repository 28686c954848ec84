import Derived.Test.YtbkahcionjkgjaaTab

namespace Go.Gh
set_option linter.unusedVariables false

/-! Calls that are handed whatever their arguments lead to, in that order. -/
def reach (M : Nat → GO) : Nat → List GV → List Nat → List Nat
  | 0, _, acc => acc
  | _ + 1, [], acc => acc
  | n + 1, .adr id _ _ :: r, acc => if acc.contains id then reach M n r acc else match M id with
    | .cells cs => reach M n (cs ++ r) (acc ++ [id])
    | _ => reach M n r (acc ++ [id])
  | n + 1, .row id :: r, acc => if acc.contains id then reach M n r acc else reach M n r (acc ++ [id])
  | n + 1, .sub id _ _ :: r, acc => if acc.contains id then reach M n r acc else reach M n r (acc ++ [id])
  | n + 1, .win id _ _ :: r, acc => if acc.contains id then reach M n r acc else reach M n r (acc ++ [id])
  | n + 1, .mref id :: r, acc => if acc.contains id then reach M n r acc else reach M n r (acc ++ [id])
  | n + 1, .agg cs :: r, acc => reach M n (cs ++ r) acc
  | n + 1, .tup cs :: r, acc => reach M n (cs ++ r) acc
  | n + 1, .clo _ cs :: r, acc => reach M n (cs ++ r) acc
  | n + 1, _ :: r, acc => reach M n r acc
theorem TW.rc {P : Program} (T : Tab P) {ds : List (Option Tmp)} {o : Oper} {rest : List Oper} {σ σ' : List GV} {M M' : List GO} {tr : List RI} {K : List GV → List GO → List RI → Prop}
    {f : FuncId} {c : Operand} {xs : Array Operand} {ts : Array TypeId} {caps args : List GV} {r : GV} {N Mc : List GO} {ids : List Nat} (ho : o.op = .call { callee := .value c, args := xs, argTypes := ts }) (hg : o.guard = none)
    (hc : calleeG (rhoOf σ c) = some (f, caps)) (_hr : reach (getM M) 200 (xs.toList.map (rhoOf σ) ++ caps) [] = ids) (hf : T.fn f = true) (hnd : ids.Nodup) (hlv : ids.all (fun id => decide (id < M.length) && (match getM M id with | .dead => false | _ => true) && ginO ids (getM M id)) = true)
    (ha : lendAll (getM M) ids (xs.toList.map (rhoOf σ) ++ caps) = some args) (hMc : (ids.map fun id => renO (ids.idxOf ·) (getM M id)) = Mc) (hF : FS P f args Mc r N) (hlen : ids.length ≤ N.length) (hnb : nobw r = true) (hnN : N.all nobwO = true)
    (hp : putS σ o.dst (ren (upN ids M.length) r) = σ') (hM : updA M (ids.zip ((N.take ids.length).map (renO (upN ids M.length)))) ((N.drop ids.length).map (renO (upN ids M.length))) = M')
    (h : TW P ds rest σ' M' (tr ++ [⟨o.dst, ids ++ borAll ids (xs.toList.map (rhoOf σ) ++ caps), (ids.zip ((N.take ids.length).map (renO (upN ids M.length)))).map (·.1), M.length, ((N.drop ids.length).map (renO (upN ids M.length))).length⟩]) K) : TW P ds (o :: rest) σ M tr K :=
  TW.cn T ids ho hg hc hf hnd hlv ha hMc hF hlen hnb hnN hp hM h
theorem up_3z (a b c nb : Nat) : upN [a, b, c] nb 0 = a := rfl
theorem up_3o (a b c nb : Nat) : upN [a, b, c] nb 1 = b := rfl
theorem up_3t (a b c nb : Nat) : upN [a, b, c] nb 2 = c := rfl
theorem up_3s (a b c nb n : Nat) : upN [a, b, c] nb (n + 3) = nb + n := rfl
/-- A function that makes a row, and tells a number: the row is read alone from now on. -/
theorem FS.frzT {P : Program} {f : FuncId} {args : List GV} {e sz : Nat} {xs : List (List GV)} {x : Value} (h : FS P f args [] (.tup [.row 0, .lit x]) [.row e sz xs]) : FS P f args [] (.tup [.sl false sz xs [], .lit x]) [] := by
  constructor
  intro Γ ι w vs0 hS hsz hV
  refine (h.run Γ ι w vs0 hS hsz hV).mono fun e' w' hw => ?_
  obtain ⟨v, Im', ι', he, h1, h2, h3, h4, h5⟩ := hw
  have hv : ∃ vs : Array Value, v = .tuple vs ∧ vs.size = 2 ∧ VR Im' Γ.Bw (· < 1) ι' w' (.row 0) (vs.getD 0 undef) ∧ vs.getD 1 undef = x := by
    cases h5 with
    | imm h =>
      cases h with
      | tup cs vs hn h => have := h 0 _ rfl; cases this
    | tup cs vs hn h => exact ⟨vs, rfl, hn, h 0 _ rfl, (h 1 _ rfl).lit_inv⟩
  obtain ⟨vs, rfl, hn, g0, g1⟩ := hv
  have h6 := frz_VI h4 (id := 0) rfl g0
  refine ⟨_, fun b => Im' b ∨ (ι' 0).A = some b, ι', he, h1, fun b hb => .inl (h2 b hb), fun i hi => by simp at hi, ?_, .tup _ vs (by rw [hn]; rfl) fun i g hg => ?_⟩
  · have h7 := frz_SR (M := [.row e sz xs]) h4 (id := 0) rfl
    exact ⟨fun id => by simp [getM, OR], fun id hid => (hid rfl).elim, fun i j b hi => (hi rfl).elim, h7.lt, fun id b hid => (hid rfl).elim, h7.dj⟩
  · match i, hg with
    | 0, hg => simp at hg; subst hg; exact .imm h6
    | 1, hg => simp at hg; subst hg; rw [g1]; exact .imm (.lit _)
end Go.Gh

