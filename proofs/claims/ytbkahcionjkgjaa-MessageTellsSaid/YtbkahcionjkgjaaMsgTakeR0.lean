import Derived.Test.YtbkahcionjkgjaaTiny
import Derived.Test.YtbkahcionjkgjaaMsgReadR

namespace Go.Gh
def mk_msgTakeR0_14 : List Bool := [true, true, false, false, true, true, true, true, true, true, true, true, true, true, false, false, false, false, false, true, false, false, false, false, false, false, false, false, false, false, false, false, false, false, false, false, false, false, false, false, false, false, false, false, true, false, false, true, false, false, false, false, false, false, false, false, false, false, false, false, false, false, false, false, false, false, false, true, false, false, false, false, false, false, false, false, false, false, true, false, false, false, false, false, false, false, true, false, false, false, false, false, false, false, false, false, false, false, false, false, false, true, false, false, false, false, false, false, false, false, false, false, false, false, false, false, false, false, false, false, false, false, true, false, false, false, false, false, false, false, false, false, false, false, false, false, false, false, false, false, true, false, false, false, false, false, false, false, false, false, false, false, false, false, false, false, false, false, false, false, false, false, false, false, true, false, false, false, false, false, false, false, false, false, false, false, false, false, false, true, false, false, false, false, false, false, false, false, false, false, false, false, false, false, true, false, false]
open Go.Proofs
set_option linter.unusedVariables false
set_option linter.unusedSimpArgs false

/-! Layer 6: the message that bytes are, by the document. -/
theorem eS_err {s : List Int × Int} (h : s.2 ≠ 0) (b : Bool) : eS b s = s := by unfold eS; split; rw [nx_err h, nx_err h]; rfl
theorem vit_err {s : List Int × Int} (h : s.2 ≠ 0) : ∀ n, vit s n = s
  | 0 => rfl
  | n + 1 => by rw [vit, vit_err h n, nx_err h]
theorem rrecS_err {s : List Int × Int} (h : s.2 ≠ 0) (n : Nat) : rrecS n s = s := by unfold rrecS; rw [nx_err h, nx_err h, vit_err h]
theorem bxr_err {s : List Int × Int} (h : s.2 ≠ 0) : ∀ k, bxr k s = ([], s)
  | 0 => rfl
  | k + 1 => by rw [bxr, if_neg h]
theorem rcr_err {s : List Int × Int} (h : s.2 ≠ 0) (n : Nat) : ∀ k, rcr n k s = ([], s)
  | 0 => rfl
  | k + 1 => by rw [rcr, if_neg h]
theorem rdk_err {t : List Int × Int} (h : t.2 ≠ 0) (n k hh p c o : Int) : (rdk n k hh p c o t).2 = t := by
  unfold rdk
  split
  · show (if hopk k then nx (rdAS n k t) 1 else rdAS n k t) = t
    have : rdAS n k t = t := by unfold rdAS; rw [nx_err h, rrecS_err h, eS_err h]
    rw [this]; split
    · exact nx_err h 1
    · rfl
  · split
    · have e : rdQS t = t := by unfold rdQS; rw [nx_err h, nx_err h, nx_err h]
      show (bxr _ (nx (rdQS t) 1)).2 = t
      rw [e, nx_err h, bxr_err h]
    · split
      · have e : rdWS t = t := by unfold rdWS; rw [nx_err h, nx_err h]
        show (rcr _ _ (nx (rdWS t) 2)).2 = t
        rw [e, nx_err h, rcr_err h]
      · rfl
/-- Ranges, whatever is wrong. -/
def bxa : Nat → List Int × Int → List (Int × Int × Int) × (List Int × Int)
  | 0, s => ([], s)
  | k + 1, s => (bxV s :: (bxa k (bxN s)).1, (bxa k (bxN s)).2)
theorem bxa_err {s : List Int × Int} (h : s.2 ≠ 0) : ∀ k, (bxa k s).2 = s
  | 0 => rfl
  | k + 1 => by
    have e : bxN s = s := by unfold bxN; rw [nx_err h, nx_err h, nx_err h]
    show (bxa k (bxN s)).2 = s
    rw [e, bxa_err h k]
theorem bxa_eq : ∀ (k : Nat) (s : List Int × Int), (bxa k s).2 = (bxr k s).2 ∧ ((bxr k s).2.2 = 0 → (bxa k s).1 = (bxr k s).1)
  | 0, s => ⟨rfl, fun _ => rfl⟩
  | k + 1, s => by
    by_cases h : s.2 = 0
    · have ih := bxa_eq k (bxN s)
      rw [bxr, if_pos h]
      exact ⟨ih.1, fun e => by show _ :: _ = _ :: _; rw [ih.2 e]⟩
    · rw [bxr_err h, bxa_err h]
      exact ⟨rfl, fun e => absurd e h⟩
theorem bxa_ok : ∀ (k : Nat) {s : List Int × Int}, sok s → sok (bxa k s).2
  | 0, s, h => h
  | k + 1, s, h => bxa_ok k (((h.nx 1).nx 4).nx 4)
end Go.Gh

