/-
  No cell of these rows narrows 'for every input' (looked for: loops, veiled, ifaces, maps, wideKeys, modest, calm, conditions, laid).
  DERIVED. THE GIVEN ROWS OF THIS SEAT. 3 by the template 'for every input the law returns true; each argument reads behind the call as it read before'; 0 by the template 'total and deterministic' (their statements: YtdfffblpnfkolaaTotals.lean).
  GIVEN WITH THE SEED: the statements are not yours to turn. If you find one false, say at which input.
  Laid BY PROGRAM, IN A SANDBOX (cutbox-rows.mjs): the forced cells as the released guide's own fill.sh prints them over the translation 163a70163d87b95d… (all of the seat's roots in one cut). By AI agents, Wed Nov 11 2026. No macro, syntax, notation, axiom, sorry.
-/
import Derived.Test.YtdfffblpnfkolaaChecked
import GoSem.Claim
import GoSem.ClaimJoined
import GoSem.ClaimMapViews
import Derived.JoinedTies
import Derived.KernelRfl
namespace Go.Proofs.Ytdfffblpnfkolaa
/- THE CELL 'sum', in the pinned program and in every row, IS THE sha256 OF THE DUMP (.gsa) THAT YtdfffblpnfkolaaProg.lean LOADS. Nothing in Lean hashes anything: it is a label: what it is worth is what the hold of that sum in a sandbox is worth. -/
noncomputable def Try.pinned : Pinned := { name := "ytdfffblpnfkolaa", sum := "163a70163d87b95dd54bc43eb482370907c9bd2ac3ba2924f6eea54c65469602", checked := Try.checked }
namespace Rows
def none {H : Type} : Left H := { results := [], args := [] }

/-- 'petasoslaw13.GreedyWays': WHATEVER THE INPUT: true; the input reads as it did. -/
def greedyWaysSpec : ChangeSpec := { name := "greedyWays", fn := fun _ => fun
  | [d1, d2, d3, d4] => { results := [.lit (.bool true)], args := [d1, d2, d3, d4] }
  | _ => none }
def greedyWaysRow : OpenClaim := { program := "ytdfffblpnfkolaa", sum := "163a70163d87b95dd54bc43eb482370907c9bd2ac3ba2924f6eea54c65469602", func := "petasos/petasoslaw13.GreedyWays", spec := "greedyWays", inPlace := ["slices.overlaps[uint32]"], unfollowed := true, recurses := true, apart := false }
def GreedyWaysSaid : Prop := greedyWaysRow.holds Try.pinned (OpenSpec.ofChange greedyWaysSpec)

/-- ITS FALSE NEIGHBOUR: 'it returns false'. Refute it at one input. -/
def greedyWaysWrong : ChangeSpec := { name := "greedyWays", fn := fun _ => fun
  | [d1, d2, d3, d4] => { results := [.lit (.bool false)], args := [d1, d2, d3, d4] }
  | _ => none }
def GreedyWaysWrongFalsely : Prop := greedyWaysRow.holds Try.pinned (OpenSpec.ofChange greedyWaysWrong)

/-- 'petasoslaw16.SampleWalks': WHATEVER THE INPUT: true; the input reads as it did. -/
def sampleWalksSpec : ChangeSpec := { name := "sampleWalks", fn := fun _ => fun
  | [d1, d2, d3, d4, d5] => { results := [.lit (.bool true)], args := [d1, d2, d3, d4, d5] }
  | _ => none }
def sampleWalksRow : OpenClaim := { program := "ytdfffblpnfkolaa", sum := "163a70163d87b95dd54bc43eb482370907c9bd2ac3ba2924f6eea54c65469602", func := "petasos/petasoslaw16.SampleWalks", spec := "sampleWalks", inPlace := ["slices.overlaps[uint32]"], unfollowed := true, recurses := true, apart := false }
def SampleWalksSaid : Prop := sampleWalksRow.holds Try.pinned (OpenSpec.ofChange sampleWalksSpec)

/-- ITS FALSE NEIGHBOUR: 'it returns false'. Refute it at one input. -/
def sampleWalksWrong : ChangeSpec := { name := "sampleWalks", fn := fun _ => fun
  | [d1, d2, d3, d4, d5] => { results := [.lit (.bool false)], args := [d1, d2, d3, d4, d5] }
  | _ => none }
def SampleWalksWrongFalsely : Prop := sampleWalksRow.holds Try.pinned (OpenSpec.ofChange sampleWalksWrong)

/-- 'petasoslaw16.SampleStays': WHATEVER THE INPUT: true; the input reads as it did. -/
def sampleStaysSpec : ChangeSpec := { name := "sampleStays", fn := fun _ => fun
  | [d1, d2, d3, d4, d5] => { results := [.lit (.bool true)], args := [d1, d2, d3, d4, d5] }
  | _ => none }
def sampleStaysRow : OpenClaim := { program := "ytdfffblpnfkolaa", sum := "163a70163d87b95dd54bc43eb482370907c9bd2ac3ba2924f6eea54c65469602", func := "petasos/petasoslaw16.SampleStays", spec := "sampleStays", inPlace := ["slices.overlaps[uint32]"], unfollowed := true, recurses := true, apart := false }
def SampleStaysSaid : Prop := sampleStaysRow.holds Try.pinned (OpenSpec.ofChange sampleStaysSpec)

/-- ITS FALSE NEIGHBOUR: 'it returns false'. Refute it at one input. -/
def sampleStaysWrong : ChangeSpec := { name := "sampleStays", fn := fun _ => fun
  | [d1, d2, d3, d4, d5] => { results := [.lit (.bool false)], args := [d1, d2, d3, d4, d5] }
  | _ => none }
def SampleStaysWrongFalsely : Prop := sampleStaysRow.holds Try.pinned (OpenSpec.ofChange sampleStaysWrong)

/- THE SECOND FORM. 'bulk': how many values and letters a reading holds, each counted each time it is reached (what is shared counts as often as it is met; a slice's spare places count too). A statement '..UptoSaid' is the law's where the arguments, and the package variables that the reading takes, are together of bulk at most 1048576: NARROWER than '..Said'. Prove '..Said' where nothing that the law and all that it calls make is longer than what came in: it says more and counts as full. Else prove '..UptoSaid'. A law counts once. -/
mutual
def uptoBulk {H : Type} : DataW H → Nat
  | .lit (.string bytes) => bytes.length + 1
  | .lit _ => 1
  | .nil => 1
  | .ptr d => uptoBulk d + 1
  | .slice elems spare => uptoBulkAll elems + uptoBulkAll spare + 1
  | .agg parts => uptoBulkAll parts + 1
  | .iface _ d => uptoBulk d + 1
  | .map entries => uptoBulkEntries entries + 1
  | .held _ => 1
def uptoBulkAll {H : Type} : List (DataW H) → Nat
  | [] => 0
  | d :: r => uptoBulk d + uptoBulkAll r
def uptoBulkEntries {H : Type} : List (Lit × DataW H) → Nat
  | [] => 0
  | x :: r => uptoBulkEntry x + uptoBulkEntries r
def uptoBulkEntry {H : Type} : Lit × DataW H → Nat
  | (.string bytes, d) => bytes.length + uptoBulk d + 1
  | (_, d) => uptoBulk d + 1
 end
def uptoSmall : (H : Type) → List (DataW H) → Bool := fun _ ds => decide (uptoBulkAll ds ≤ 1048576)
def OpenSpec.upto (s : _root_.Go.ChangeSpec) : _root_.Go.OpenSpec := { _root_.Go.OpenSpec.ofChange s with cond := some uptoSmall }

/-- 'petasoslaw13.GreedyWays', WHERE WHAT IT READS IS OF BULK AT MOST 1048576: true; the input reads as it did. -/
def greedyWaysUptoRow : OpenClaim := { program := "ytdfffblpnfkolaa", sum := "163a70163d87b95dd54bc43eb482370907c9bd2ac3ba2924f6eea54c65469602", func := "petasos/petasoslaw13.GreedyWays", spec := "greedyWays", inPlace := ["slices.overlaps[uint32]"], unfollowed := true, recurses := true, apart := false, narrowed := true }
def GreedyWaysUptoSaid : Prop := greedyWaysUptoRow.holds Try.pinned (OpenSpec.upto greedyWaysSpec)

/-- 'petasoslaw16.SampleWalks', WHERE WHAT IT READS IS OF BULK AT MOST 1048576: true; the input reads as it did. -/
def sampleWalksUptoRow : OpenClaim := { program := "ytdfffblpnfkolaa", sum := "163a70163d87b95dd54bc43eb482370907c9bd2ac3ba2924f6eea54c65469602", func := "petasos/petasoslaw16.SampleWalks", spec := "sampleWalks", inPlace := ["slices.overlaps[uint32]"], unfollowed := true, recurses := true, apart := false, narrowed := true }
def SampleWalksUptoSaid : Prop := sampleWalksUptoRow.holds Try.pinned (OpenSpec.upto sampleWalksSpec)

/-- 'petasoslaw16.SampleStays', WHERE WHAT IT READS IS OF BULK AT MOST 1048576: true; the input reads as it did. -/
def sampleStaysUptoRow : OpenClaim := { program := "ytdfffblpnfkolaa", sum := "163a70163d87b95dd54bc43eb482370907c9bd2ac3ba2924f6eea54c65469602", func := "petasos/petasoslaw16.SampleStays", spec := "sampleStays", inPlace := ["slices.overlaps[uint32]"], unfollowed := true, recurses := true, apart := false, narrowed := true }
def SampleStaysUptoSaid : Prop := sampleStaysUptoRow.holds Try.pinned (OpenSpec.upto sampleStaysSpec)

end Rows
end Go.Proofs.Ytdfffblpnfkolaa
