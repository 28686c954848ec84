import Derived.Test.YtbkahcionjkgjaaShort

namespace Go.Gh
open Go.Proofs
set_option linter.unusedVariables false

/-! A short name for a walk's end: a text's length counts. -/
section
variable {σ : List GV} {M M' : List GO} {n m : Nat} {fn : Func} {ex : Exit}
theorem TW.fk (keep : List Nat) {r g : GV} (a0 : ex = .normal ∨ ex = .ret := by first | exact .inr rfl | exact .inl rfl) (a1 : gresT tab σ M fn.results.toList = some g := by exact rfl) (a2 : keep.Nodup := by decide) (a3 : pins m keep = true := by exact rfl) (a4 : gin keep g = true := by exact rfl) (a5 : r = ren (keep.idxOf ·) g := by exact rfl) (a6 : M' = nobjs keep M := by exact rfl) : GS n σ M (retR Try.prog fn m r M' ex) :=
  GS.refl ⟨a0, g, keep, gresT_ok tab a1, a2, a3, a4, a5, a6⟩
end
end Go.Gh

