/-
  No cell of these rows narrows 'for every input' (looked for: loops, veiled, ifaces, maps, wideKeys, modest, calm, conditions, laid).
  DERIVED. THE GIVEN ROWS OF THIS SEAT. 11 by the template 'for every input the law returns true; each argument reads behind the call as it read before'; 0 by the template 'total and deterministic' (their statements: YtignpnjifekndaaTotals.lean).
  GIVEN WITH THE SEED: the statements are not yours to turn. If you find one false, say at which input.
  Laid BY PROGRAM, IN A SANDBOX (cutbox-rows.mjs): the forced cells as the released guide's own fill.sh prints them over the translation 1c24bf762b33d8df… (all of the seat's roots in one cut). By AI agents, Wed Nov 11 2026. No macro, syntax, notation, axiom, sorry.
-/
import Derived.Test.YtignpnjifekndaaChecked
import GoSem.Claim
import GoSem.ClaimJoined
import GoSem.ClaimMapViews
import Derived.JoinedTies
import Derived.KernelRfl
namespace Go.Proofs.Ytignpnjifekndaa
/- THE CELL 'sum', in the pinned program and in every row, IS THE sha256 OF THE DUMP (.gsa) THAT YtignpnjifekndaaProg.lean LOADS. Nothing in Lean hashes anything: it is a label: what it is worth is what the hold of that sum in a sandbox is worth. -/
noncomputable def Try.pinned : Pinned := { name := "ytignpnjifekndaa", sum := "1c24bf762b33d8df15ee230d458083da97bc2cac4ea4a147fabe3ace57c5619d", checked := Try.checked }
namespace Rows
def none {H : Type} : Left H := { results := [], args := [] }

/-- 'petasoslaw01.CircleEnds': WHATEVER THE INPUT: true; the input reads as it did. -/
def circleEndsSpec : ChangeSpec := { name := "circleEnds", fn := fun _ => fun
  | [d] => { results := [.lit (.bool true)], args := [d] }
  | _ => none }
def circleEndsRow : OpenClaim := { program := "ytignpnjifekndaa", sum := "1c24bf762b33d8df15ee230d458083da97bc2cac4ea4a147fabe3ace57c5619d", func := "petasos/petasoslaw01.CircleEnds", spec := "circleEnds", apart := false }
def CircleEndsSaid : Prop := circleEndsRow.holds Try.pinned (OpenSpec.ofChange circleEndsSpec)

/-- ITS FALSE NEIGHBOUR: 'it returns false'. Refute it at one input. -/
def circleEndsWrong : ChangeSpec := { name := "circleEnds", fn := fun _ => fun
  | [d] => { results := [.lit (.bool false)], args := [d] }
  | _ => none }
def CircleEndsWrongFalsely : Prop := circleEndsRow.holds Try.pinned (OpenSpec.ofChange circleEndsWrong)

/-- 'petasoslaw01.CircleSteps': WHATEVER THE INPUT: true; the input reads as it did. -/
def circleStepsSpec : ChangeSpec := { name := "circleSteps", fn := fun _ => fun
  | [d1, d2, d3] => { results := [.lit (.bool true)], args := [d1, d2, d3] }
  | _ => none }
def circleStepsRow : OpenClaim := { program := "ytignpnjifekndaa", sum := "1c24bf762b33d8df15ee230d458083da97bc2cac4ea4a147fabe3ace57c5619d", func := "petasos/petasoslaw01.CircleSteps", spec := "circleSteps", apart := false }
def CircleStepsSaid : Prop := circleStepsRow.holds Try.pinned (OpenSpec.ofChange circleStepsSpec)

/-- ITS FALSE NEIGHBOUR: 'it returns false'. Refute it at one input. -/
def circleStepsWrong : ChangeSpec := { name := "circleSteps", fn := fun _ => fun
  | [d1, d2, d3] => { results := [.lit (.bool false)], args := [d1, d2, d3] }
  | _ => none }
def CircleStepsWrongFalsely : Prop := circleStepsRow.holds Try.pinned (OpenSpec.ofChange circleStepsWrong)

/-- 'petasoslaw07.DiceRoll': WHATEVER THE INPUT: true; the input reads as it did. -/
def diceRollSpec : ChangeSpec := { name := "diceRoll", fn := fun _ => fun
  | [d1, d2, d3] => { results := [.lit (.bool true)], args := [d1, d2, d3] }
  | _ => none }
def diceRollRow : OpenClaim := { program := "ytignpnjifekndaa", sum := "1c24bf762b33d8df15ee230d458083da97bc2cac4ea4a147fabe3ace57c5619d", func := "petasos/petasoslaw07.DiceRoll", spec := "diceRoll", apart := false }
def DiceRollSaid : Prop := diceRollRow.holds Try.pinned (OpenSpec.ofChange diceRollSpec)

/-- ITS FALSE NEIGHBOUR: 'it returns false'. Refute it at one input. -/
def diceRollWrong : ChangeSpec := { name := "diceRoll", fn := fun _ => fun
  | [d1, d2, d3] => { results := [.lit (.bool false)], args := [d1, d2, d3] }
  | _ => none }
def DiceRollWrongFalsely : Prop := diceRollRow.holds Try.pinned (OpenSpec.ofChange diceRollWrong)

/-- 'petasoslaw07.DiceWithin': WHATEVER THE INPUT: true; the input reads as it did. -/
def diceWithinSpec : ChangeSpec := { name := "diceWithin", fn := fun _ => fun
  | [d1, d2] => { results := [.lit (.bool true)], args := [d1, d2] }
  | _ => none }
def diceWithinRow : OpenClaim := { program := "ytignpnjifekndaa", sum := "1c24bf762b33d8df15ee230d458083da97bc2cac4ea4a147fabe3ace57c5619d", func := "petasos/petasoslaw07.DiceWithin", spec := "diceWithin", apart := false }
def DiceWithinSaid : Prop := diceWithinRow.holds Try.pinned (OpenSpec.ofChange diceWithinSpec)

/-- ITS FALSE NEIGHBOUR: 'it returns false'. Refute it at one input. -/
def diceWithinWrong : ChangeSpec := { name := "diceWithin", fn := fun _ => fun
  | [d1, d2] => { results := [.lit (.bool false)], args := [d1, d2] }
  | _ => none }
def DiceWithinWrongFalsely : Prop := diceWithinRow.holds Try.pinned (OpenSpec.ofChange diceWithinWrong)

/-- 'petasoslaw07.DiceFork': WHATEVER THE INPUT: true; the input reads as it did. -/
def diceForkSpec : ChangeSpec := { name := "diceFork", fn := fun _ => fun
  | [d1, d2, d3] => { results := [.lit (.bool true)], args := [d1, d2, d3] }
  | _ => none }
def diceForkRow : OpenClaim := { program := "ytignpnjifekndaa", sum := "1c24bf762b33d8df15ee230d458083da97bc2cac4ea4a147fabe3ace57c5619d", func := "petasos/petasoslaw07.DiceFork", spec := "diceFork", apart := false }
def DiceForkSaid : Prop := diceForkRow.holds Try.pinned (OpenSpec.ofChange diceForkSpec)

/-- ITS FALSE NEIGHBOUR: 'it returns false'. Refute it at one input. -/
def diceForkWrong : ChangeSpec := { name := "diceFork", fn := fun _ => fun
  | [d1, d2, d3] => { results := [.lit (.bool false)], args := [d1, d2, d3] }
  | _ => none }
def DiceForkWrongFalsely : Prop := diceForkRow.holds Try.pinned (OpenSpec.ofChange diceForkWrong)

/-- 'petasoslaw01.CircleTurns': WHATEVER THE INPUT: true; the input reads as it did. -/
def circleTurnsSpec : ChangeSpec := { name := "circleTurns", fn := fun _ => fun
  | [d1, d2, d3] => { results := [.lit (.bool true)], args := [d1, d2, d3] }
  | _ => none }
def circleTurnsRow : OpenClaim := { program := "ytignpnjifekndaa", sum := "1c24bf762b33d8df15ee230d458083da97bc2cac4ea4a147fabe3ace57c5619d", func := "petasos/petasoslaw01.CircleTurns", spec := "circleTurns", unfollowed := true, recurses := true, apart := false }
def CircleTurnsSaid : Prop := circleTurnsRow.holds Try.pinned (OpenSpec.ofChange circleTurnsSpec)

/-- ITS FALSE NEIGHBOUR: 'it returns false'. Refute it at one input. -/
def circleTurnsWrong : ChangeSpec := { name := "circleTurns", fn := fun _ => fun
  | [d1, d2, d3] => { results := [.lit (.bool false)], args := [d1, d2, d3] }
  | _ => none }
def CircleTurnsWrongFalsely : Prop := circleTurnsRow.holds Try.pinned (OpenSpec.ofChange circleTurnsWrong)

/-- 'petasoslaw01.CircleHalves': WHATEVER THE INPUT: true; the input reads as it did. -/
def circleHalvesSpec : ChangeSpec := { name := "circleHalves", fn := fun _ => fun
  | [d] => { results := [.lit (.bool true)], args := [d] }
  | _ => none }
def circleHalvesRow : OpenClaim := { program := "ytignpnjifekndaa", sum := "1c24bf762b33d8df15ee230d458083da97bc2cac4ea4a147fabe3ace57c5619d", func := "petasos/petasoslaw01.CircleHalves", spec := "circleHalves", apart := false }
def CircleHalvesSaid : Prop := circleHalvesRow.holds Try.pinned (OpenSpec.ofChange circleHalvesSpec)

/-- ITS FALSE NEIGHBOUR: 'it returns false'. Refute it at one input. -/
def circleHalvesWrong : ChangeSpec := { name := "circleHalves", fn := fun _ => fun
  | [d] => { results := [.lit (.bool false)], args := [d] }
  | _ => none }
def CircleHalvesWrongFalsely : Prop := circleHalvesRow.holds Try.pinned (OpenSpec.ofChange circleHalvesWrong)

/-- 'petasoslaw01.CircleMakesUp': WHATEVER THE INPUT: true; the input reads as it did. -/
def circleMakesUpSpec : ChangeSpec := { name := "circleMakesUp", fn := fun _ => fun
  | [d1, d2, d3] => { results := [.lit (.bool true)], args := [d1, d2, d3] }
  | _ => none }
def circleMakesUpRow : OpenClaim := { program := "ytignpnjifekndaa", sum := "1c24bf762b33d8df15ee230d458083da97bc2cac4ea4a147fabe3ace57c5619d", func := "petasos/petasoslaw01.CircleMakesUp", spec := "circleMakesUp", apart := false }
def CircleMakesUpSaid : Prop := circleMakesUpRow.holds Try.pinned (OpenSpec.ofChange circleMakesUpSpec)

/-- ITS FALSE NEIGHBOUR: 'it returns false'. Refute it at one input. -/
def circleMakesUpWrong : ChangeSpec := { name := "circleMakesUp", fn := fun _ => fun
  | [d1, d2, d3] => { results := [.lit (.bool false)], args := [d1, d2, d3] }
  | _ => none }
def CircleMakesUpWrongFalsely : Prop := circleMakesUpRow.holds Try.pinned (OpenSpec.ofChange circleMakesUpWrong)

/-- 'petasoslaw01.CircleWithin': WHATEVER THE INPUT: true; the input reads as it did. -/
def circleWithinSpec : ChangeSpec := { name := "circleWithin", fn := fun _ => fun
  | [d1, d2] => { results := [.lit (.bool true)], args := [d1, d2] }
  | _ => none }
def circleWithinRow : OpenClaim := { program := "ytignpnjifekndaa", sum := "1c24bf762b33d8df15ee230d458083da97bc2cac4ea4a147fabe3ace57c5619d", func := "petasos/petasoslaw01.CircleWithin", spec := "circleWithin", unfollowed := true, recurses := true, apart := false }
def CircleWithinSaid : Prop := circleWithinRow.holds Try.pinned (OpenSpec.ofChange circleWithinSpec)

/-- ITS FALSE NEIGHBOUR: 'it returns false'. Refute it at one input. -/
def circleWithinWrong : ChangeSpec := { name := "circleWithin", fn := fun _ => fun
  | [d1, d2] => { results := [.lit (.bool false)], args := [d1, d2] }
  | _ => none }
def CircleWithinWrongFalsely : Prop := circleWithinRow.holds Try.pinned (OpenSpec.ofChange circleWithinWrong)

/-- 'petasoslaw01.CircleBeside': WHATEVER THE INPUT: true; the input reads as it did. -/
def circleBesideSpec : ChangeSpec := { name := "circleBeside", fn := fun _ => fun
  | [d1, d2, d3] => { results := [.lit (.bool true)], args := [d1, d2, d3] }
  | _ => none }
def circleBesideRow : OpenClaim := { program := "ytignpnjifekndaa", sum := "1c24bf762b33d8df15ee230d458083da97bc2cac4ea4a147fabe3ace57c5619d", func := "petasos/petasoslaw01.CircleBeside", spec := "circleBeside", unfollowed := true, recurses := true, apart := false }
def CircleBesideSaid : Prop := circleBesideRow.holds Try.pinned (OpenSpec.ofChange circleBesideSpec)

/-- ITS FALSE NEIGHBOUR: 'it returns false'. Refute it at one input. -/
def circleBesideWrong : ChangeSpec := { name := "circleBeside", fn := fun _ => fun
  | [d1, d2, d3] => { results := [.lit (.bool false)], args := [d1, d2, d3] }
  | _ => none }
def CircleBesideWrongFalsely : Prop := circleBesideRow.holds Try.pinned (OpenSpec.ofChange circleBesideWrong)

/-- 'petasoslaw01.CircleTells': WHATEVER THE INPUT: true; the input reads as it did. -/
def circleTellsSpec : ChangeSpec := { name := "circleTells", fn := fun _ => fun
  | [d1, d2, d3] => { results := [.lit (.bool true)], args := [d1, d2, d3] }
  | _ => none }
def circleTellsRow : OpenClaim := { program := "ytignpnjifekndaa", sum := "1c24bf762b33d8df15ee230d458083da97bc2cac4ea4a147fabe3ace57c5619d", func := "petasos/petasoslaw01.CircleTells", spec := "circleTells", unfollowed := true, recurses := true, apart := false }
def CircleTellsSaid : Prop := circleTellsRow.holds Try.pinned (OpenSpec.ofChange circleTellsSpec)

/-- ITS FALSE NEIGHBOUR: 'it returns false'. Refute it at one input. -/
def circleTellsWrong : ChangeSpec := { name := "circleTells", fn := fun _ => fun
  | [d1, d2, d3] => { results := [.lit (.bool false)], args := [d1, d2, d3] }
  | _ => none }
def CircleTellsWrongFalsely : Prop := circleTellsRow.holds Try.pinned (OpenSpec.ofChange circleTellsWrong)

/- THE SECOND FORM. 'bulk': how many values and letters a reading holds, each counted each time it is reached (what is shared counts as often as it is met; a slice's spare places count too). A statement '..UptoSaid' is the law's where the arguments, and the package variables that the reading takes, are together of bulk at most 1048576: NARROWER than '..Said'. Prove '..Said' where nothing that the law and all that it calls make is longer than what came in: it says more and counts as full. Else prove '..UptoSaid'. A law counts once. -/
mutual
def uptoBulk {H : Type} : DataW H → Nat
  | .lit (.string bytes) => bytes.length + 1
  | .lit _ => 1
  | .nil => 1
  | .ptr d => uptoBulk d + 1
  | .slice elems spare => uptoBulkAll elems + uptoBulkAll spare + 1
  | .agg parts => uptoBulkAll parts + 1
  | .iface _ d => uptoBulk d + 1
  | .map entries => uptoBulkEntries entries + 1
  | .held _ => 1
def uptoBulkAll {H : Type} : List (DataW H) → Nat
  | [] => 0
  | d :: r => uptoBulk d + uptoBulkAll r
def uptoBulkEntries {H : Type} : List (Lit × DataW H) → Nat
  | [] => 0
  | x :: r => uptoBulkEntry x + uptoBulkEntries r
def uptoBulkEntry {H : Type} : Lit × DataW H → Nat
  | (.string bytes, d) => bytes.length + uptoBulk d + 1
  | (_, d) => uptoBulk d + 1
 end
def uptoSmall : (H : Type) → List (DataW H) → Bool := fun _ ds => decide (uptoBulkAll ds ≤ 1048576)
def OpenSpec.upto (s : _root_.Go.ChangeSpec) : _root_.Go.OpenSpec := { _root_.Go.OpenSpec.ofChange s with cond := some uptoSmall }

/-- 'petasoslaw01.CircleEnds', WHERE WHAT IT READS IS OF BULK AT MOST 1048576: true; the input reads as it did. -/
def circleEndsUptoRow : OpenClaim := { program := "ytignpnjifekndaa", sum := "1c24bf762b33d8df15ee230d458083da97bc2cac4ea4a147fabe3ace57c5619d", func := "petasos/petasoslaw01.CircleEnds", spec := "circleEnds", apart := false, narrowed := true }
def CircleEndsUptoSaid : Prop := circleEndsUptoRow.holds Try.pinned (OpenSpec.upto circleEndsSpec)

/-- 'petasoslaw01.CircleSteps', WHERE WHAT IT READS IS OF BULK AT MOST 1048576: true; the input reads as it did. -/
def circleStepsUptoRow : OpenClaim := { program := "ytignpnjifekndaa", sum := "1c24bf762b33d8df15ee230d458083da97bc2cac4ea4a147fabe3ace57c5619d", func := "petasos/petasoslaw01.CircleSteps", spec := "circleSteps", apart := false, narrowed := true }
def CircleStepsUptoSaid : Prop := circleStepsUptoRow.holds Try.pinned (OpenSpec.upto circleStepsSpec)

/-- 'petasoslaw07.DiceRoll', WHERE WHAT IT READS IS OF BULK AT MOST 1048576: true; the input reads as it did. -/
def diceRollUptoRow : OpenClaim := { program := "ytignpnjifekndaa", sum := "1c24bf762b33d8df15ee230d458083da97bc2cac4ea4a147fabe3ace57c5619d", func := "petasos/petasoslaw07.DiceRoll", spec := "diceRoll", apart := false, narrowed := true }
def DiceRollUptoSaid : Prop := diceRollUptoRow.holds Try.pinned (OpenSpec.upto diceRollSpec)

/-- 'petasoslaw07.DiceWithin', WHERE WHAT IT READS IS OF BULK AT MOST 1048576: true; the input reads as it did. -/
def diceWithinUptoRow : OpenClaim := { program := "ytignpnjifekndaa", sum := "1c24bf762b33d8df15ee230d458083da97bc2cac4ea4a147fabe3ace57c5619d", func := "petasos/petasoslaw07.DiceWithin", spec := "diceWithin", apart := false, narrowed := true }
def DiceWithinUptoSaid : Prop := diceWithinUptoRow.holds Try.pinned (OpenSpec.upto diceWithinSpec)

/-- 'petasoslaw07.DiceFork', WHERE WHAT IT READS IS OF BULK AT MOST 1048576: true; the input reads as it did. -/
def diceForkUptoRow : OpenClaim := { program := "ytignpnjifekndaa", sum := "1c24bf762b33d8df15ee230d458083da97bc2cac4ea4a147fabe3ace57c5619d", func := "petasos/petasoslaw07.DiceFork", spec := "diceFork", apart := false, narrowed := true }
def DiceForkUptoSaid : Prop := diceForkUptoRow.holds Try.pinned (OpenSpec.upto diceForkSpec)

/-- 'petasoslaw01.CircleTurns', WHERE WHAT IT READS IS OF BULK AT MOST 1048576: true; the input reads as it did. -/
def circleTurnsUptoRow : OpenClaim := { program := "ytignpnjifekndaa", sum := "1c24bf762b33d8df15ee230d458083da97bc2cac4ea4a147fabe3ace57c5619d", func := "petasos/petasoslaw01.CircleTurns", spec := "circleTurns", unfollowed := true, recurses := true, apart := false, narrowed := true }
def CircleTurnsUptoSaid : Prop := circleTurnsUptoRow.holds Try.pinned (OpenSpec.upto circleTurnsSpec)

/-- 'petasoslaw01.CircleHalves', WHERE WHAT IT READS IS OF BULK AT MOST 1048576: true; the input reads as it did. -/
def circleHalvesUptoRow : OpenClaim := { program := "ytignpnjifekndaa", sum := "1c24bf762b33d8df15ee230d458083da97bc2cac4ea4a147fabe3ace57c5619d", func := "petasos/petasoslaw01.CircleHalves", spec := "circleHalves", apart := false, narrowed := true }
def CircleHalvesUptoSaid : Prop := circleHalvesUptoRow.holds Try.pinned (OpenSpec.upto circleHalvesSpec)

/-- 'petasoslaw01.CircleMakesUp', WHERE WHAT IT READS IS OF BULK AT MOST 1048576: true; the input reads as it did. -/
def circleMakesUpUptoRow : OpenClaim := { program := "ytignpnjifekndaa", sum := "1c24bf762b33d8df15ee230d458083da97bc2cac4ea4a147fabe3ace57c5619d", func := "petasos/petasoslaw01.CircleMakesUp", spec := "circleMakesUp", apart := false, narrowed := true }
def CircleMakesUpUptoSaid : Prop := circleMakesUpUptoRow.holds Try.pinned (OpenSpec.upto circleMakesUpSpec)

/-- 'petasoslaw01.CircleWithin', WHERE WHAT IT READS IS OF BULK AT MOST 1048576: true; the input reads as it did. -/
def circleWithinUptoRow : OpenClaim := { program := "ytignpnjifekndaa", sum := "1c24bf762b33d8df15ee230d458083da97bc2cac4ea4a147fabe3ace57c5619d", func := "petasos/petasoslaw01.CircleWithin", spec := "circleWithin", unfollowed := true, recurses := true, apart := false, narrowed := true }
def CircleWithinUptoSaid : Prop := circleWithinUptoRow.holds Try.pinned (OpenSpec.upto circleWithinSpec)

/-- 'petasoslaw01.CircleBeside', WHERE WHAT IT READS IS OF BULK AT MOST 1048576: true; the input reads as it did. -/
def circleBesideUptoRow : OpenClaim := { program := "ytignpnjifekndaa", sum := "1c24bf762b33d8df15ee230d458083da97bc2cac4ea4a147fabe3ace57c5619d", func := "petasos/petasoslaw01.CircleBeside", spec := "circleBeside", unfollowed := true, recurses := true, apart := false, narrowed := true }
def CircleBesideUptoSaid : Prop := circleBesideUptoRow.holds Try.pinned (OpenSpec.upto circleBesideSpec)

/-- 'petasoslaw01.CircleTells', WHERE WHAT IT READS IS OF BULK AT MOST 1048576: true; the input reads as it did. -/
def circleTellsUptoRow : OpenClaim := { program := "ytignpnjifekndaa", sum := "1c24bf762b33d8df15ee230d458083da97bc2cac4ea4a147fabe3ace57c5619d", func := "petasos/petasoslaw01.CircleTells", spec := "circleTells", unfollowed := true, recurses := true, apart := false, narrowed := true }
def CircleTellsUptoSaid : Prop := circleTellsUptoRow.holds Try.pinned (OpenSpec.upto circleTellsSpec)

end Rows
end Go.Proofs.Ytignpnjifekndaa
