import Derived.Test.YtbkahcionjkgjaaShort

namespace Go.Gh
set_option linter.unusedVariables false

/-! Structs told another way, cell by cell. -/
theorem GLe.agg {cs cs' : List GV} (h : GLeL cs cs') : GLe (.agg cs) (.agg cs') := fun Im Bw D ι w v hv => by
  obtain ⟨h1, h2⟩ := h.get
  cases hv with
  | imm h =>
    cases h with
    | agg cs vs hn hf h =>
      exact .agg cs' vs (hn.trans h1) hf fun i g hg => by
        obtain ⟨g0, h3, h4⟩ := h2 i g hg
        exact h4 _ _ _ _ _ _ (.imm (h i g0 h3))
  | agg cs vs hn hf h =>
    exact .agg cs' vs (hn.trans h1) hf fun i g hg => by
      obtain ⟨g0, h3, h4⟩ := h2 i g hg
      exact h4 _ _ _ _ _ _ (h i g0 h3)
theorem GLeL.refl : ∀ (l : List GV), GLeL l l
  | [] => .nil
  | g :: l => .cons (.refl g) (GLeL.refl l)
theorem GS.le {m : Nat} {σ : List GV} {M : List GO} {K : List GV → List GO → Prop} (t : Nat) {g g' : GV} (hσ : nthG σ t = some g) (hg : GLe g g') (h : GS m (σ.set t g') M K) : GS m σ M K := by
  intro Γ ι w a hm hS hL
  exact h Γ ι w a hm hS (hL.set t (hg _ _ _ _ _ _ (hL.2 t _ (nthG_ok hσ))))
end Go.Gh

