/-
  No cell of these rows narrows 'for every input' (looked for: loops, veiled, ifaces, maps, wideKeys, modest, calm, conditions, laid).
  DERIVED. THE GIVEN ROWS OF THIS SEAT. 5 by the template 'for every input the law returns true; each argument reads behind the call as it read before'; 0 by the template 'total and deterministic' (their statements: YtbkahcionjkgjaaTotals.lean).
  GIVEN WITH THE SEED: the statements are not yours to turn. If you find one false, say at which input.
  Laid BY PROGRAM, IN A SANDBOX (cutbox-rows.mjs): the forced cells as the released guide's own fill.sh prints them over the translation b36b869e0d13ee53… (all of the seat's roots in one cut). By AI agents, Wed Nov 11 2026. No macro, syntax, notation, axiom, sorry.
-/
import Derived.Test.YtbkahcionjkgjaaChecked
import GoSem.Claim
import GoSem.ClaimJoined
import GoSem.ClaimMapViews
import Derived.JoinedTies
import Derived.KernelRfl
namespace Go.Proofs.Ytbkahcionjkgjaa
/- THE CELL 'sum', in the pinned program and in every row, IS THE sha256 OF THE DUMP (.gsa) THAT YtbkahcionjkgjaaProg.lean LOADS. Nothing in Lean hashes anything: it is a label: what it is worth is what the hold of that sum in a sandbox is worth. -/
noncomputable def Try.pinned : Pinned := { name := "ytbkahcionjkgjaa", sum := "b36b869e0d13ee53cf79e94232f2f8387cbe2903ce5bb284dfdd1e32848cd125", checked := Try.checked }
namespace Rows
def none {H : Type} : Left H := { results := [], args := [] }

/-- 'petasoslaw06.MessageTells': WHATEVER THE INPUT: true; the input reads as it did. -/
def messageTellsSpec : ChangeSpec := { name := "messageTells", fn := fun _ => fun
  | [d1, d2, d3] => { results := [.lit (.bool true)], args := [d1, d2, d3] }
  | _ => none }
def messageTellsRow : OpenClaim := { program := "ytbkahcionjkgjaa", sum := "b36b869e0d13ee53cf79e94232f2f8387cbe2903ce5bb284dfdd1e32848cd125", func := "petasos/petasoslaw06.MessageTells", spec := "messageTells", unfollowed := true, recurses := true, apart := false }
def MessageTellsSaid : Prop := messageTellsRow.holds Try.pinned (OpenSpec.ofChange messageTellsSpec)

/-- ITS FALSE NEIGHBOUR: 'it returns false'. Refute it at one input. -/
def messageTellsWrong : ChangeSpec := { name := "messageTells", fn := fun _ => fun
  | [d1, d2, d3] => { results := [.lit (.bool false)], args := [d1, d2, d3] }
  | _ => none }
def MessageTellsWrongFalsely : Prop := messageTellsRow.holds Try.pinned (OpenSpec.ofChange messageTellsWrong)

/-- 'petasoslaw06.MessageBack': WHATEVER THE INPUT: true; the input reads as it did. -/
def messageBackSpec : ChangeSpec := { name := "messageBack", fn := fun _ => fun
  | [d1, d2, d3, d4] => { results := [.lit (.bool true)], args := [d1, d2, d3, d4] }
  | _ => none }
def messageBackRow : OpenClaim := { program := "ytbkahcionjkgjaa", sum := "b36b869e0d13ee53cf79e94232f2f8387cbe2903ce5bb284dfdd1e32848cd125", func := "petasos/petasoslaw06.MessageBack", spec := "messageBack", unfollowed := true, recurses := true, apart := false }
def MessageBackSaid : Prop := messageBackRow.holds Try.pinned (OpenSpec.ofChange messageBackSpec)

/-- ITS FALSE NEIGHBOUR: 'it returns false'. Refute it at one input. -/
def messageBackWrong : ChangeSpec := { name := "messageBack", fn := fun _ => fun
  | [d1, d2, d3, d4] => { results := [.lit (.bool false)], args := [d1, d2, d3, d4] }
  | _ => none }
def MessageBackWrongFalsely : Prop := messageBackRow.holds Try.pinned (OpenSpec.ofChange messageBackWrong)

/-- 'petasoslaw06.MessageNeeds': WHATEVER THE INPUT: true; the input reads as it did. -/
def messageNeedsSpec : ChangeSpec := { name := "messageNeeds", fn := fun _ => fun
  | [d1, d2] => { results := [.lit (.bool true)], args := [d1, d2] }
  | _ => none }
def messageNeedsRow : OpenClaim := { program := "ytbkahcionjkgjaa", sum := "b36b869e0d13ee53cf79e94232f2f8387cbe2903ce5bb284dfdd1e32848cd125", func := "petasos/petasoslaw06.MessageNeeds", spec := "messageNeeds", unfollowed := true, recurses := true, apart := false }
def MessageNeedsSaid : Prop := messageNeedsRow.holds Try.pinned (OpenSpec.ofChange messageNeedsSpec)

/-- ITS FALSE NEIGHBOUR: 'it returns false'. Refute it at one input. -/
def messageNeedsWrong : ChangeSpec := { name := "messageNeeds", fn := fun _ => fun
  | [d1, d2] => { results := [.lit (.bool false)], args := [d1, d2] }
  | _ => none }
def MessageNeedsWrongFalsely : Prop := messageNeedsRow.holds Try.pinned (OpenSpec.ofChange messageNeedsWrong)

/-- 'petasoslaw06.MessageTurned': WHATEVER THE INPUT: true; the input reads as it did. -/
def messageTurnedSpec : ChangeSpec := { name := "messageTurned", fn := fun _ => fun
  | [d1, d2, d3, d4] => { results := [.lit (.bool true)], args := [d1, d2, d3, d4] }
  | _ => none }
def messageTurnedRow : OpenClaim := { program := "ytbkahcionjkgjaa", sum := "b36b869e0d13ee53cf79e94232f2f8387cbe2903ce5bb284dfdd1e32848cd125", func := "petasos/petasoslaw06.MessageTurned", spec := "messageTurned", unfollowed := true, recurses := true, apart := false }
def MessageTurnedSaid : Prop := messageTurnedRow.holds Try.pinned (OpenSpec.ofChange messageTurnedSpec)

/-- ITS FALSE NEIGHBOUR: 'it returns false'. Refute it at one input. -/
def messageTurnedWrong : ChangeSpec := { name := "messageTurned", fn := fun _ => fun
  | [d1, d2, d3, d4] => { results := [.lit (.bool false)], args := [d1, d2, d3, d4] }
  | _ => none }
def MessageTurnedWrongFalsely : Prop := messageTurnedRow.holds Try.pinned (OpenSpec.ofChange messageTurnedWrong)

/-- 'petasoslaw06.MessageSizes': WHATEVER THE INPUT: true; the input reads as it did. -/
def messageSizesSpec : ChangeSpec := { name := "messageSizes", fn := fun _ => fun
  | [d1, d2] => { results := [.lit (.bool true)], args := [d1, d2] }
  | _ => none }
def messageSizesRow : OpenClaim := { program := "ytbkahcionjkgjaa", sum := "b36b869e0d13ee53cf79e94232f2f8387cbe2903ce5bb284dfdd1e32848cd125", func := "petasos/petasoslaw06.MessageSizes", spec := "messageSizes", unfollowed := true, recurses := true, apart := false }
def MessageSizesSaid : Prop := messageSizesRow.holds Try.pinned (OpenSpec.ofChange messageSizesSpec)

/-- ITS FALSE NEIGHBOUR: 'it returns false'. Refute it at one input. -/
def messageSizesWrong : ChangeSpec := { name := "messageSizes", fn := fun _ => fun
  | [d1, d2] => { results := [.lit (.bool false)], args := [d1, d2] }
  | _ => none }
def MessageSizesWrongFalsely : Prop := messageSizesRow.holds Try.pinned (OpenSpec.ofChange messageSizesWrong)

/- THE SECOND FORM. 'bulk': how many values and letters a reading holds, each counted each time it is reached (what is shared counts as often as it is met; a slice's spare places count too). A statement '..UptoSaid' is the law's where the arguments, and the package variables that the reading takes, are together of bulk at most 1048576: NARROWER than '..Said'. Prove '..Said' where nothing that the law and all that it calls make is longer than what came in: it says more and counts as full. Else prove '..UptoSaid'. A law counts once. -/
mutual
def uptoBulk {H : Type} : DataW H → Nat
  | .lit (.string bytes) => bytes.length + 1
  | .lit _ => 1
  | .nil => 1
  | .ptr d => uptoBulk d + 1
  | .slice elems spare => uptoBulkAll elems + uptoBulkAll spare + 1
  | .agg parts => uptoBulkAll parts + 1
  | .iface _ d => uptoBulk d + 1
  | .map entries => uptoBulkEntries entries + 1
  | .held _ => 1
def uptoBulkAll {H : Type} : List (DataW H) → Nat
  | [] => 0
  | d :: r => uptoBulk d + uptoBulkAll r
def uptoBulkEntries {H : Type} : List (Lit × DataW H) → Nat
  | [] => 0
  | x :: r => uptoBulkEntry x + uptoBulkEntries r
def uptoBulkEntry {H : Type} : Lit × DataW H → Nat
  | (.string bytes, d) => bytes.length + uptoBulk d + 1
  | (_, d) => uptoBulk d + 1
 end
def uptoSmall : (H : Type) → List (DataW H) → Bool := fun _ ds => decide (uptoBulkAll ds ≤ 1048576)
def OpenSpec.upto (s : _root_.Go.ChangeSpec) : _root_.Go.OpenSpec := { _root_.Go.OpenSpec.ofChange s with cond := some uptoSmall }

/-- 'petasoslaw06.MessageTells', WHERE WHAT IT READS IS OF BULK AT MOST 1048576: true; the input reads as it did. -/
def messageTellsUptoRow : OpenClaim := { program := "ytbkahcionjkgjaa", sum := "b36b869e0d13ee53cf79e94232f2f8387cbe2903ce5bb284dfdd1e32848cd125", func := "petasos/petasoslaw06.MessageTells", spec := "messageTells", unfollowed := true, recurses := true, apart := false, narrowed := true }
def MessageTellsUptoSaid : Prop := messageTellsUptoRow.holds Try.pinned (OpenSpec.upto messageTellsSpec)

/-- 'petasoslaw06.MessageBack', WHERE WHAT IT READS IS OF BULK AT MOST 1048576: true; the input reads as it did. -/
def messageBackUptoRow : OpenClaim := { program := "ytbkahcionjkgjaa", sum := "b36b869e0d13ee53cf79e94232f2f8387cbe2903ce5bb284dfdd1e32848cd125", func := "petasos/petasoslaw06.MessageBack", spec := "messageBack", unfollowed := true, recurses := true, apart := false, narrowed := true }
def MessageBackUptoSaid : Prop := messageBackUptoRow.holds Try.pinned (OpenSpec.upto messageBackSpec)

/-- 'petasoslaw06.MessageNeeds', WHERE WHAT IT READS IS OF BULK AT MOST 1048576: true; the input reads as it did. -/
def messageNeedsUptoRow : OpenClaim := { program := "ytbkahcionjkgjaa", sum := "b36b869e0d13ee53cf79e94232f2f8387cbe2903ce5bb284dfdd1e32848cd125", func := "petasos/petasoslaw06.MessageNeeds", spec := "messageNeeds", unfollowed := true, recurses := true, apart := false, narrowed := true }
def MessageNeedsUptoSaid : Prop := messageNeedsUptoRow.holds Try.pinned (OpenSpec.upto messageNeedsSpec)

/-- 'petasoslaw06.MessageTurned', WHERE WHAT IT READS IS OF BULK AT MOST 1048576: true; the input reads as it did. -/
def messageTurnedUptoRow : OpenClaim := { program := "ytbkahcionjkgjaa", sum := "b36b869e0d13ee53cf79e94232f2f8387cbe2903ce5bb284dfdd1e32848cd125", func := "petasos/petasoslaw06.MessageTurned", spec := "messageTurned", unfollowed := true, recurses := true, apart := false, narrowed := true }
def MessageTurnedUptoSaid : Prop := messageTurnedUptoRow.holds Try.pinned (OpenSpec.upto messageTurnedSpec)

/-- 'petasoslaw06.MessageSizes', WHERE WHAT IT READS IS OF BULK AT MOST 1048576: true; the input reads as it did. -/
def messageSizesUptoRow : OpenClaim := { program := "ytbkahcionjkgjaa", sum := "b36b869e0d13ee53cf79e94232f2f8387cbe2903ce5bb284dfdd1e32848cd125", func := "petasos/petasoslaw06.MessageSizes", spec := "messageSizes", unfollowed := true, recurses := true, apart := false, narrowed := true }
def MessageSizesUptoSaid : Prop := messageSizesUptoRow.holds Try.pinned (OpenSpec.upto messageSizesSpec)

end Rows
end Go.Proofs.Ytbkahcionjkgjaa
