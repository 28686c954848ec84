/-
  No cell of these rows narrows 'for every input' (looked for: loops, veiled, ifaces, maps, wideKeys, modest, calm, conditions, laid).
  DERIVED. THE GIVEN ROWS OF THIS SEAT. 4 by the template 'for every input the law returns true; each argument reads behind the call as it read before'; 0 by the template 'total and deterministic' (their statements: YtjegndlhfgbmnaaTotals.lean).
  GIVEN WITH THE SEED: the statements are not yours to turn. If you find one false, say at which input.
  Laid BY PROGRAM, IN A SANDBOX (cutbox-rows.mjs): the forced cells as the released guide's own fill.sh prints them over the translation dbe0b89144132b55… (all of the seat's roots in one cut). By AI agents, Wed Nov 11 2026. No macro, syntax, notation, axiom, sorry.
-/
import Derived.Test.YtjegndlhfgbmnaaChecked
import GoSem.Claim
import GoSem.ClaimJoined
import GoSem.ClaimMapViews
import Derived.JoinedTies
import Derived.KernelRfl
namespace Go.Proofs.Ytjegndlhfgbmnaa
/- THE CELL 'sum', in the pinned program and in every row, IS THE sha256 OF THE DUMP (.gsa) THAT YtjegndlhfgbmnaaProg.lean LOADS. Nothing in Lean hashes anything: it is a label: what it is worth is what the hold of that sum in a sandbox is worth. -/
noncomputable def Try.pinned : Pinned := { name := "ytjegndlhfgbmnaa", sum := "dbe0b89144132b559edb3cdd4544729e1830de1c0111a166a7775dbd710a8a64", checked := Try.checked }
namespace Rows
def none {H : Type} : Left H := { results := [], args := [] }

/-- 'petasoslaw19.CursorTells': WHATEVER THE INPUT: true; the input reads as it did. -/
def cursorTellsSpec : ChangeSpec := { name := "cursorTells", fn := fun _ => fun
  | [d1, d2, d3, d4] => { results := [.lit (.bool true)], args := [d1, d2, d3, d4] }
  | _ => none }
def cursorTellsRow : OpenClaim := { program := "ytjegndlhfgbmnaa", sum := "dbe0b89144132b559edb3cdd4544729e1830de1c0111a166a7775dbd710a8a64", func := "petasos/petasoslaw19.CursorTells", spec := "cursorTells", unfollowed := true, recurses := true, apart := false }
def CursorTellsSaid : Prop := cursorTellsRow.holds Try.pinned (OpenSpec.ofChange cursorTellsSpec)

/-- ITS FALSE NEIGHBOUR: 'it returns false'. Refute it at one input. -/
def cursorTellsWrong : ChangeSpec := { name := "cursorTells", fn := fun _ => fun
  | [d1, d2, d3, d4] => { results := [.lit (.bool false)], args := [d1, d2, d3, d4] }
  | _ => none }
def CursorTellsWrongFalsely : Prop := cursorTellsRow.holds Try.pinned (OpenSpec.ofChange cursorTellsWrong)

/-- 'petasoslaw19.CursorBack': WHATEVER THE INPUT: true; the input reads as it did. -/
def cursorBackSpec : ChangeSpec := { name := "cursorBack", fn := fun _ => fun
  | [d1, d2, d3, d4, d5, d6, d7] => { results := [.lit (.bool true)], args := [d1, d2, d3, d4, d5, d6, d7] }
  | _ => none }
def cursorBackRow : OpenClaim := { program := "ytjegndlhfgbmnaa", sum := "dbe0b89144132b559edb3cdd4544729e1830de1c0111a166a7775dbd710a8a64", func := "petasos/petasoslaw19.CursorBack", spec := "cursorBack", apart := false }
def CursorBackSaid : Prop := cursorBackRow.holds Try.pinned (OpenSpec.ofChange cursorBackSpec)

/-- ITS FALSE NEIGHBOUR: 'it returns false'. Refute it at one input. -/
def cursorBackWrong : ChangeSpec := { name := "cursorBack", fn := fun _ => fun
  | [d1, d2, d3, d4, d5, d6, d7] => { results := [.lit (.bool false)], args := [d1, d2, d3, d4, d5, d6, d7] }
  | _ => none }
def CursorBackWrongFalsely : Prop := cursorBackRow.holds Try.pinned (OpenSpec.ofChange cursorBackWrong)

/-- 'petasoslaw19.CursorUnlike': WHATEVER THE INPUT: true; the input reads as it did. -/
def cursorUnlikeSpec : ChangeSpec := { name := "cursorUnlike", fn := fun _ => fun
  | [d1, d2, d3, d4] => { results := [.lit (.bool true)], args := [d1, d2, d3, d4] }
  | _ => none }
def cursorUnlikeRow : OpenClaim := { program := "ytjegndlhfgbmnaa", sum := "dbe0b89144132b559edb3cdd4544729e1830de1c0111a166a7775dbd710a8a64", func := "petasos/petasoslaw19.CursorUnlike", spec := "cursorUnlike", apart := false }
def CursorUnlikeSaid : Prop := cursorUnlikeRow.holds Try.pinned (OpenSpec.ofChange cursorUnlikeSpec)

/-- ITS FALSE NEIGHBOUR: 'it returns false'. Refute it at one input. -/
def cursorUnlikeWrong : ChangeSpec := { name := "cursorUnlike", fn := fun _ => fun
  | [d1, d2, d3, d4] => { results := [.lit (.bool false)], args := [d1, d2, d3, d4] }
  | _ => none }
def CursorUnlikeWrongFalsely : Prop := cursorUnlikeRow.holds Try.pinned (OpenSpec.ofChange cursorUnlikeWrong)

/-- 'petasoslaw19.CursorBoxes': WHATEVER THE INPUT: true; the input reads as it did. -/
def cursorBoxesSpec : ChangeSpec := { name := "cursorBoxes", fn := fun _ => fun
  | [d1, d2, d3, d4] => { results := [.lit (.bool true)], args := [d1, d2, d3, d4] }
  | _ => none }
def cursorBoxesRow : OpenClaim := { program := "ytjegndlhfgbmnaa", sum := "dbe0b89144132b559edb3cdd4544729e1830de1c0111a166a7775dbd710a8a64", func := "petasos/petasoslaw19.CursorBoxes", spec := "cursorBoxes", apart := false }
def CursorBoxesSaid : Prop := cursorBoxesRow.holds Try.pinned (OpenSpec.ofChange cursorBoxesSpec)

/-- ITS FALSE NEIGHBOUR: 'it returns false'. Refute it at one input. -/
def cursorBoxesWrong : ChangeSpec := { name := "cursorBoxes", fn := fun _ => fun
  | [d1, d2, d3, d4] => { results := [.lit (.bool false)], args := [d1, d2, d3, d4] }
  | _ => none }
def CursorBoxesWrongFalsely : Prop := cursorBoxesRow.holds Try.pinned (OpenSpec.ofChange cursorBoxesWrong)

/- THE SECOND FORM. 'bulk': how many values and letters a reading holds, each counted each time it is reached (what is shared counts as often as it is met; a slice's spare places count too). A statement '..UptoSaid' is the law's where the arguments, and the package variables that the reading takes, are together of bulk at most 1048576: NARROWER than '..Said'. Prove '..Said' where nothing that the law and all that it calls make is longer than what came in: it says more and counts as full. Else prove '..UptoSaid'. A law counts once. -/
mutual
def uptoBulk {H : Type} : DataW H → Nat
  | .lit (.string bytes) => bytes.length + 1
  | .lit _ => 1
  | .nil => 1
  | .ptr d => uptoBulk d + 1
  | .slice elems spare => uptoBulkAll elems + uptoBulkAll spare + 1
  | .agg parts => uptoBulkAll parts + 1
  | .iface _ d => uptoBulk d + 1
  | .map entries => uptoBulkEntries entries + 1
  | .held _ => 1
def uptoBulkAll {H : Type} : List (DataW H) → Nat
  | [] => 0
  | d :: r => uptoBulk d + uptoBulkAll r
def uptoBulkEntries {H : Type} : List (Lit × DataW H) → Nat
  | [] => 0
  | x :: r => uptoBulkEntry x + uptoBulkEntries r
def uptoBulkEntry {H : Type} : Lit × DataW H → Nat
  | (.string bytes, d) => bytes.length + uptoBulk d + 1
  | (_, d) => uptoBulk d + 1
 end
def uptoSmall : (H : Type) → List (DataW H) → Bool := fun _ ds => decide (uptoBulkAll ds ≤ 1048576)
def OpenSpec.upto (s : _root_.Go.ChangeSpec) : _root_.Go.OpenSpec := { _root_.Go.OpenSpec.ofChange s with cond := some uptoSmall }

/-- 'petasoslaw19.CursorTells', WHERE WHAT IT READS IS OF BULK AT MOST 1048576: true; the input reads as it did. -/
def cursorTellsUptoRow : OpenClaim := { program := "ytjegndlhfgbmnaa", sum := "dbe0b89144132b559edb3cdd4544729e1830de1c0111a166a7775dbd710a8a64", func := "petasos/petasoslaw19.CursorTells", spec := "cursorTells", unfollowed := true, recurses := true, apart := false, narrowed := true }
def CursorTellsUptoSaid : Prop := cursorTellsUptoRow.holds Try.pinned (OpenSpec.upto cursorTellsSpec)

/-- 'petasoslaw19.CursorBack', WHERE WHAT IT READS IS OF BULK AT MOST 1048576: true; the input reads as it did. -/
def cursorBackUptoRow : OpenClaim := { program := "ytjegndlhfgbmnaa", sum := "dbe0b89144132b559edb3cdd4544729e1830de1c0111a166a7775dbd710a8a64", func := "petasos/petasoslaw19.CursorBack", spec := "cursorBack", apart := false, narrowed := true }
def CursorBackUptoSaid : Prop := cursorBackUptoRow.holds Try.pinned (OpenSpec.upto cursorBackSpec)

/-- 'petasoslaw19.CursorUnlike', WHERE WHAT IT READS IS OF BULK AT MOST 1048576: true; the input reads as it did. -/
def cursorUnlikeUptoRow : OpenClaim := { program := "ytjegndlhfgbmnaa", sum := "dbe0b89144132b559edb3cdd4544729e1830de1c0111a166a7775dbd710a8a64", func := "petasos/petasoslaw19.CursorUnlike", spec := "cursorUnlike", apart := false, narrowed := true }
def CursorUnlikeUptoSaid : Prop := cursorUnlikeUptoRow.holds Try.pinned (OpenSpec.upto cursorUnlikeSpec)

/-- 'petasoslaw19.CursorBoxes', WHERE WHAT IT READS IS OF BULK AT MOST 1048576: true; the input reads as it did. -/
def cursorBoxesUptoRow : OpenClaim := { program := "ytjegndlhfgbmnaa", sum := "dbe0b89144132b559edb3cdd4544729e1830de1c0111a166a7775dbd710a8a64", func := "petasos/petasoslaw19.CursorBoxes", spec := "cursorBoxes", apart := false, narrowed := true }
def CursorBoxesUptoSaid : Prop := cursorBoxesUptoRow.holds Try.pinned (OpenSpec.upto cursorBoxesSpec)

end Rows
end Go.Proofs.Ytjegndlhfgbmnaa
