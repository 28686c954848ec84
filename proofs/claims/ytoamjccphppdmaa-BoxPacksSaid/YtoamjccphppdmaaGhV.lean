import Derived.Test.YtoamjccphppdmaaGhU
import Derived.KernelRfl

namespace Go.Gh

def AllP {α : Type} (p : α → Prop) : List α → Prop
  | [] => True
  | a :: l => p a ∧ AllP p l

def lk {α : Type} : List (Nat × α) → Nat → Option α
  | [], _ => none
  | x :: l, n => bif Nat.beq x.1 n then some x.2 else lk l n

def has : List Nat → Nat → Bool
  | [], _ => false
  | x :: l, n => Nat.beq x n || has l n

theorem lk_ok {α : Type} {p : Nat × α → Prop} : ∀ {l : List (Nat × α)}, AllP p l → ∀ {n : Nat} {a : α}, lk l n = some a → p (n, a)
  | [], _, n, a, h => by cases h
  | x :: l, hp, n, a, h => by
    simp only [lk] at h
    cases e : Nat.beq x.1 n with
    | true =>
      rw [e] at h
      simp only [cond_true, Option.some.injEq] at h
      have := Nat.eq_of_beq_eq_true e
      subst this; subst h
      exact hp.1
    | false =>
      rw [e] at h
      exact lk_ok hp.2 (by simpa using h)

theorem has_ok {p : Nat → Prop} : ∀ {l : List Nat}, AllP p l → ∀ {n : Nat}, has l n = true → p n
  | [], _, n, h => by cases h
  | x :: l, hp, n, h => by
    simp only [has, Bool.or_eq_true] at h
    rcases h with h | h
    · have := Nat.eq_of_beq_eq_true h
      subst this; exact hp.1
    · exact has_ok hp.2 h

/-- The table, as lists. -/
structure TabL (P : Program) where
  uL : List (Nat × TypeDesc)
  uOk : AllP (fun p => P.underlying p.1 = some p.2) uL
  sL : List (Nat × Nat)
  sOk : AllP (fun p => P.cellsOf p.1 = p.2) sL
  bL : List (Nat × Nat)
  bOk : AllP (fun p => P.bytesOf p.1 = p.2) bL
  zL : List (Nat × Value)
  zOk : AllP (fun p => zeroOf P p.1 = some p.2) zL
  eL : List Nat
  eOk : AllP (fun t => P.eqGuardType P.depth t = false ∧ P.stoodInHeld t = false) eL
  fL : List Nat
  fOk : AllP (fun f => ∃ c, P.funcs[f]? = some c ∧ c.body.isSome = true ∧ (c.name == "runtime.NumGoroutine") = false) fL
  mixed : P.follows .mixedOrders = true

def TabL.tab {P : Program} (t : TabL P) : Tab P where
  u := lk t.uL
  uok := fun _ _ h => lk_ok t.uOk h
  sz := fun n => (lk t.sL n).getD 0
  szok := fun n h => by
    cases e : lk t.sL n with
    | none => simp [e] at h
    | some a => exact lk_ok t.sOk e
  bs := fun n => (lk t.bL n).getD 0
  bsok := fun n h => by
    cases e : lk t.bL n with
    | none => simp [e] at h
    | some a => exact lk_ok t.bOk e
  z := lk t.zL
  zok := fun _ _ h => lk_ok t.zOk h
  eq := has t.eL
  eqok := fun _ h => has_ok t.eOk h
  fn := has t.fL
  fnok := fun _ h => has_ok t.fOk h
  mixed := t.mixed

end Go.Gh
