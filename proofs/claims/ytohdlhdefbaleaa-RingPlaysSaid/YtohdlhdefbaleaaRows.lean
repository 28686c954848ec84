/-
  No cell of these rows narrows 'for every input' (looked for: loops, veiled, ifaces, maps, wideKeys, modest, calm, conditions, laid).
  DERIVED. THE GIVEN ROWS OF THIS SEAT. 12 by the template 'for every input the law returns true; each argument reads behind the call as it read before'; 0 by the template 'total and deterministic' (their statements: YtohdlhdefbaleaaTotals.lean).
  GIVEN WITH THE SEED: the statements are not yours to turn. If you find one false, say at which input.
  Laid BY PROGRAM, IN A SANDBOX (cutbox-rows.mjs): the forced cells as the released guide's own fill.sh prints them over the translation 2f084dbdd4b0079f… (all of the seat's roots in one cut). By AI agents, Wed Nov 11 2026. No macro, syntax, notation, axiom, sorry.
-/
import Derived.Test.YtohdlhdefbaleaaChecked
import GoSem.Claim
import GoSem.ClaimJoined
import GoSem.ClaimMapViews
import Derived.JoinedTies
import Derived.KernelRfl
namespace Go.Proofs.Ytohdlhdefbaleaa
/- THE CELL 'sum', in the pinned program and in every row, IS THE sha256 OF THE DUMP (.gsa) THAT YtohdlhdefbaleaaProg.lean LOADS. Nothing in Lean hashes anything: it is a label: what it is worth is what the hold of that sum in a sandbox is worth. -/
noncomputable def Try.pinned : Pinned := { name := "ytohdlhdefbaleaa", sum := "2f084dbdd4b0079f264fa7419b78730a0e5e6c4e7537c0b2d246bcc6e4fa1983", checked := Try.checked }
namespace Rows
def none {H : Type} : Left H := { results := [], args := [] }

/-- 'petasoslaw11.RingRound': WHATEVER THE INPUT: true; the input reads as it did. -/
def ringRoundSpec : ChangeSpec := { name := "ringRound", fn := fun _ => fun
  | [d1, d2] => { results := [.lit (.bool true)], args := [d1, d2] }
  | _ => none }
def ringRoundRow : OpenClaim := { program := "ytohdlhdefbaleaa", sum := "2f084dbdd4b0079f264fa7419b78730a0e5e6c4e7537c0b2d246bcc6e4fa1983", func := "petasos/petasoslaw11.RingRound", spec := "ringRound", inPlace := ["slices.overlaps[uint32]"], unfollowed := true, recurses := true, apart := false }
def RingRoundSaid : Prop := ringRoundRow.holds Try.pinned (OpenSpec.ofChange ringRoundSpec)

/-- ITS FALSE NEIGHBOUR: 'it returns false'. Refute it at one input. -/
def ringRoundWrong : ChangeSpec := { name := "ringRound", fn := fun _ => fun
  | [d1, d2] => { results := [.lit (.bool false)], args := [d1, d2] }
  | _ => none }
def RingRoundWrongFalsely : Prop := ringRoundRow.holds Try.pinned (OpenSpec.ofChange ringRoundWrong)

/-- 'petasoslaw11.RingHeirs': WHATEVER THE INPUT: true; the input reads as it did. -/
def ringHeirsSpec : ChangeSpec := { name := "ringHeirs", fn := fun _ => fun
  | [d1, d2, d3] => { results := [.lit (.bool true)], args := [d1, d2, d3] }
  | _ => none }
def ringHeirsRow : OpenClaim := { program := "ytohdlhdefbaleaa", sum := "2f084dbdd4b0079f264fa7419b78730a0e5e6c4e7537c0b2d246bcc6e4fa1983", func := "petasos/petasoslaw11.RingHeirs", spec := "ringHeirs", inPlace := ["slices.overlaps[uint32]"], unfollowed := true, recurses := true, apart := false }
def RingHeirsSaid : Prop := ringHeirsRow.holds Try.pinned (OpenSpec.ofChange ringHeirsSpec)

/-- ITS FALSE NEIGHBOUR: 'it returns false'. Refute it at one input. -/
def ringHeirsWrong : ChangeSpec := { name := "ringHeirs", fn := fun _ => fun
  | [d1, d2, d3] => { results := [.lit (.bool false)], args := [d1, d2, d3] }
  | _ => none }
def RingHeirsWrongFalsely : Prop := ringHeirsRow.holds Try.pinned (OpenSpec.ofChange ringHeirsWrong)

/-- 'petasoslaw11.RingOwns': WHATEVER THE INPUT: true; the input reads as it did. -/
def ringOwnsSpec : ChangeSpec := { name := "ringOwns", fn := fun _ => fun
  | [d1, d2] => { results := [.lit (.bool true)], args := [d1, d2] }
  | _ => none }
def ringOwnsRow : OpenClaim := { program := "ytohdlhdefbaleaa", sum := "2f084dbdd4b0079f264fa7419b78730a0e5e6c4e7537c0b2d246bcc6e4fa1983", func := "petasos/petasoslaw11.RingOwns", spec := "ringOwns", inPlace := ["slices.overlaps[uint32]"], unfollowed := true, recurses := true, apart := false }
def RingOwnsSaid : Prop := ringOwnsRow.holds Try.pinned (OpenSpec.ofChange ringOwnsSpec)

/-- ITS FALSE NEIGHBOUR: 'it returns false'. Refute it at one input. -/
def ringOwnsWrong : ChangeSpec := { name := "ringOwns", fn := fun _ => fun
  | [d1, d2] => { results := [.lit (.bool false)], args := [d1, d2] }
  | _ => none }
def RingOwnsWrongFalsely : Prop := ringOwnsRow.holds Try.pinned (OpenSpec.ofChange ringOwnsWrong)

/-- 'petasoslaw02.CoverOrder': WHATEVER THE INPUT: true; the input reads as it did. -/
def coverOrderSpec : ChangeSpec := { name := "coverOrder", fn := fun _ => fun
  | [d1, d2, d3] => { results := [.lit (.bool true)], args := [d1, d2, d3] }
  | _ => none }
def coverOrderRow : OpenClaim := { program := "ytohdlhdefbaleaa", sum := "2f084dbdd4b0079f264fa7419b78730a0e5e6c4e7537c0b2d246bcc6e4fa1983", func := "petasos/petasoslaw02.CoverOrder", spec := "coverOrder", inPlace := ["slices.overlaps[petasos/circle.Run]"], unfollowed := true, recurses := true, apart := false }
def CoverOrderSaid : Prop := coverOrderRow.holds Try.pinned (OpenSpec.ofChange coverOrderSpec)

/-- ITS FALSE NEIGHBOUR: 'it returns false'. Refute it at one input. -/
def coverOrderWrong : ChangeSpec := { name := "coverOrder", fn := fun _ => fun
  | [d1, d2, d3] => { results := [.lit (.bool false)], args := [d1, d2, d3] }
  | _ => none }
def CoverOrderWrongFalsely : Prop := coverOrderRow.holds Try.pinned (OpenSpec.ofChange coverOrderWrong)

/-- 'petasoslaw02.CoverPieces': WHATEVER THE INPUT: true; the input reads as it did. -/
def coverPiecesSpec : ChangeSpec := { name := "coverPieces", fn := fun _ => fun
  | [d1, d2, d3] => { results := [.lit (.bool true)], args := [d1, d2, d3] }
  | _ => none }
def coverPiecesRow : OpenClaim := { program := "ytohdlhdefbaleaa", sum := "2f084dbdd4b0079f264fa7419b78730a0e5e6c4e7537c0b2d246bcc6e4fa1983", func := "petasos/petasoslaw02.CoverPieces", spec := "coverPieces", inPlace := ["slices.overlaps[petasos/circle.Run]"], unfollowed := true, recurses := true, apart := false }
def CoverPiecesSaid : Prop := coverPiecesRow.holds Try.pinned (OpenSpec.ofChange coverPiecesSpec)

/-- ITS FALSE NEIGHBOUR: 'it returns false'. Refute it at one input. -/
def coverPiecesWrong : ChangeSpec := { name := "coverPieces", fn := fun _ => fun
  | [d1, d2, d3] => { results := [.lit (.bool false)], args := [d1, d2, d3] }
  | _ => none }
def CoverPiecesWrongFalsely : Prop := coverPiecesRow.holds Try.pinned (OpenSpec.ofChange coverPiecesWrong)

/-- 'petasoslaw02.CoverApart': WHATEVER THE INPUT: true; the input reads as it did. -/
def coverApartSpec : ChangeSpec := { name := "coverApart", fn := fun _ => fun
  | [d1, d2] => { results := [.lit (.bool true)], args := [d1, d2] }
  | _ => none }
def coverApartRow : OpenClaim := { program := "ytohdlhdefbaleaa", sum := "2f084dbdd4b0079f264fa7419b78730a0e5e6c4e7537c0b2d246bcc6e4fa1983", func := "petasos/petasoslaw02.CoverApart", spec := "coverApart", inPlace := ["slices.overlaps[petasos/circle.Run]"], unfollowed := true, recurses := true, apart := false }
def CoverApartSaid : Prop := coverApartRow.holds Try.pinned (OpenSpec.ofChange coverApartSpec)

/-- ITS FALSE NEIGHBOUR: 'it returns false'. Refute it at one input. -/
def coverApartWrong : ChangeSpec := { name := "coverApart", fn := fun _ => fun
  | [d1, d2] => { results := [.lit (.bool false)], args := [d1, d2] }
  | _ => none }
def CoverApartWrongFalsely : Prop := coverApartRow.holds Try.pinned (OpenSpec.ofChange coverApartWrong)

/-- 'petasoslaw11.RingOrder': WHATEVER THE INPUT: true; the input reads as it did. -/
def ringOrderSpec : ChangeSpec := { name := "ringOrder", fn := fun _ => fun
  | [d1, d2] => { results := [.lit (.bool true)], args := [d1, d2] }
  | _ => none }
def ringOrderRow : OpenClaim := { program := "ytohdlhdefbaleaa", sum := "2f084dbdd4b0079f264fa7419b78730a0e5e6c4e7537c0b2d246bcc6e4fa1983", func := "petasos/petasoslaw11.RingOrder", spec := "ringOrder", inPlace := ["slices.overlaps[uint32]"], unfollowed := true, recurses := true, apart := false }
def RingOrderSaid : Prop := ringOrderRow.holds Try.pinned (OpenSpec.ofChange ringOrderSpec)

/-- ITS FALSE NEIGHBOUR: 'it returns false'. Refute it at one input. -/
def ringOrderWrong : ChangeSpec := { name := "ringOrder", fn := fun _ => fun
  | [d1, d2] => { results := [.lit (.bool false)], args := [d1, d2] }
  | _ => none }
def RingOrderWrongFalsely : Prop := ringOrderRow.holds Try.pinned (OpenSpec.ofChange ringOrderWrong)

/-- 'petasoslaw02.CoverPlays': WHATEVER THE INPUT: true; the input reads as it did. -/
def coverPlaysSpec : ChangeSpec := { name := "coverPlays", fn := fun _ => fun
  | [d1, d2, d3] => { results := [.lit (.bool true)], args := [d1, d2, d3] }
  | _ => none }
def coverPlaysRow : OpenClaim := { program := "ytohdlhdefbaleaa", sum := "2f084dbdd4b0079f264fa7419b78730a0e5e6c4e7537c0b2d246bcc6e4fa1983", func := "petasos/petasoslaw02.CoverPlays", spec := "coverPlays", inPlace := ["slices.overlaps[petasos/circle.Run]"], unfollowed := true, recurses := true, apart := false }
def CoverPlaysSaid : Prop := coverPlaysRow.holds Try.pinned (OpenSpec.ofChange coverPlaysSpec)

/-- ITS FALSE NEIGHBOUR: 'it returns false'. Refute it at one input. -/
def coverPlaysWrong : ChangeSpec := { name := "coverPlays", fn := fun _ => fun
  | [d1, d2, d3] => { results := [.lit (.bool false)], args := [d1, d2, d3] }
  | _ => none }
def CoverPlaysWrongFalsely : Prop := coverPlaysRow.holds Try.pinned (OpenSpec.ofChange coverPlaysWrong)

/-- 'petasoslaw02.CoverNil': WHATEVER THE INPUT: true; the input reads as it did. -/
def coverNilSpec : ChangeSpec := { name := "coverNil", fn := fun _ => fun
  | [d] => { results := [.lit (.bool true)], args := [d] }
  | _ => none }
def coverNilRow : OpenClaim := { program := "ytohdlhdefbaleaa", sum := "2f084dbdd4b0079f264fa7419b78730a0e5e6c4e7537c0b2d246bcc6e4fa1983", func := "petasos/petasoslaw02.CoverNil", spec := "coverNil", inPlace := ["slices.overlaps[petasos/circle.Run]"], unfollowed := true, recurses := true, apart := false }
def CoverNilSaid : Prop := coverNilRow.holds Try.pinned (OpenSpec.ofChange coverNilSpec)

/-- ITS FALSE NEIGHBOUR: 'it returns false'. Refute it at one input. -/
def coverNilWrong : ChangeSpec := { name := "coverNil", fn := fun _ => fun
  | [d] => { results := [.lit (.bool false)], args := [d] }
  | _ => none }
def CoverNilWrongFalsely : Prop := coverNilRow.holds Try.pinned (OpenSpec.ofChange coverNilWrong)

/-- 'petasoslaw11.RingJoins': WHATEVER THE INPUT: true; the input reads as it did. -/
def ringJoinsSpec : ChangeSpec := { name := "ringJoins", fn := fun _ => fun
  | [d1, d2, d3] => { results := [.lit (.bool true)], args := [d1, d2, d3] }
  | _ => none }
def ringJoinsRow : OpenClaim := { program := "ytohdlhdefbaleaa", sum := "2f084dbdd4b0079f264fa7419b78730a0e5e6c4e7537c0b2d246bcc6e4fa1983", func := "petasos/petasoslaw11.RingJoins", spec := "ringJoins", inPlace := ["slices.overlaps[uint32]"], unfollowed := true, recurses := true, apart := false }
def RingJoinsSaid : Prop := ringJoinsRow.holds Try.pinned (OpenSpec.ofChange ringJoinsSpec)

/-- ITS FALSE NEIGHBOUR: 'it returns false'. Refute it at one input. -/
def ringJoinsWrong : ChangeSpec := { name := "ringJoins", fn := fun _ => fun
  | [d1, d2, d3] => { results := [.lit (.bool false)], args := [d1, d2, d3] }
  | _ => none }
def RingJoinsWrongFalsely : Prop := ringJoinsRow.holds Try.pinned (OpenSpec.ofChange ringJoinsWrong)

/-- 'petasoslaw11.RingPlays': WHATEVER THE INPUT: true; the input reads as it did. -/
def ringPlaysSpec : ChangeSpec := { name := "ringPlays", fn := fun _ => fun
  | [d1, d2, d3, d4, d5] => { results := [.lit (.bool true)], args := [d1, d2, d3, d4, d5] }
  | _ => none }
def ringPlaysRow : OpenClaim := { program := "ytohdlhdefbaleaa", sum := "2f084dbdd4b0079f264fa7419b78730a0e5e6c4e7537c0b2d246bcc6e4fa1983", func := "petasos/petasoslaw11.RingPlays", spec := "ringPlays", inPlace := ["slices.overlaps[uint32]"], unfollowed := true, recurses := true, apart := false }
def RingPlaysSaid : Prop := ringPlaysRow.holds Try.pinned (OpenSpec.ofChange ringPlaysSpec)

/-- ITS FALSE NEIGHBOUR: 'it returns false'. Refute it at one input. -/
def ringPlaysWrong : ChangeSpec := { name := "ringPlays", fn := fun _ => fun
  | [d1, d2, d3, d4, d5] => { results := [.lit (.bool false)], args := [d1, d2, d3, d4, d5] }
  | _ => none }
def RingPlaysWrongFalsely : Prop := ringPlaysRow.holds Try.pinned (OpenSpec.ofChange ringPlaysWrong)

/-- 'petasoslaw11.RingFull': WHATEVER THE INPUT: true; the input reads as it did. -/
def ringFullSpec : ChangeSpec := { name := "ringFull", fn := fun _ => fun
  | [d1, d2] => { results := [.lit (.bool true)], args := [d1, d2] }
  | _ => none }
def ringFullRow : OpenClaim := { program := "ytohdlhdefbaleaa", sum := "2f084dbdd4b0079f264fa7419b78730a0e5e6c4e7537c0b2d246bcc6e4fa1983", func := "petasos/petasoslaw11.RingFull", spec := "ringFull", inPlace := ["slices.overlaps[uint32]"], unfollowed := true, recurses := true, apart := false }
def RingFullSaid : Prop := ringFullRow.holds Try.pinned (OpenSpec.ofChange ringFullSpec)

/-- ITS FALSE NEIGHBOUR: 'it returns false'. Refute it at one input. -/
def ringFullWrong : ChangeSpec := { name := "ringFull", fn := fun _ => fun
  | [d1, d2] => { results := [.lit (.bool false)], args := [d1, d2] }
  | _ => none }
def RingFullWrongFalsely : Prop := ringFullRow.holds Try.pinned (OpenSpec.ofChange ringFullWrong)

/- THE SECOND FORM. 'bulk': how many values and letters a reading holds, each counted each time it is reached (what is shared counts as often as it is met; a slice's spare places count too). A statement '..UptoSaid' is the law's where the arguments, and the package variables that the reading takes, are together of bulk at most 1048576: NARROWER than '..Said'. Prove '..Said' where nothing that the law and all that it calls make is longer than what came in: it says more and counts as full. Else prove '..UptoSaid'. A law counts once. -/
mutual
def uptoBulk {H : Type} : DataW H → Nat
  | .lit (.string bytes) => bytes.length + 1
  | .lit _ => 1
  | .nil => 1
  | .ptr d => uptoBulk d + 1
  | .slice elems spare => uptoBulkAll elems + uptoBulkAll spare + 1
  | .agg parts => uptoBulkAll parts + 1
  | .iface _ d => uptoBulk d + 1
  | .map entries => uptoBulkEntries entries + 1
  | .held _ => 1
def uptoBulkAll {H : Type} : List (DataW H) → Nat
  | [] => 0
  | d :: r => uptoBulk d + uptoBulkAll r
def uptoBulkEntries {H : Type} : List (Lit × DataW H) → Nat
  | [] => 0
  | x :: r => uptoBulkEntry x + uptoBulkEntries r
def uptoBulkEntry {H : Type} : Lit × DataW H → Nat
  | (.string bytes, d) => bytes.length + uptoBulk d + 1
  | (_, d) => uptoBulk d + 1
 end
def uptoSmall : (H : Type) → List (DataW H) → Bool := fun _ ds => decide (uptoBulkAll ds ≤ 1048576)
def OpenSpec.upto (s : _root_.Go.ChangeSpec) : _root_.Go.OpenSpec := { _root_.Go.OpenSpec.ofChange s with cond := some uptoSmall }

/-- 'petasoslaw11.RingRound', WHERE WHAT IT READS IS OF BULK AT MOST 1048576: true; the input reads as it did. -/
def ringRoundUptoRow : OpenClaim := { program := "ytohdlhdefbaleaa", sum := "2f084dbdd4b0079f264fa7419b78730a0e5e6c4e7537c0b2d246bcc6e4fa1983", func := "petasos/petasoslaw11.RingRound", spec := "ringRound", inPlace := ["slices.overlaps[uint32]"], unfollowed := true, recurses := true, apart := false, narrowed := true }
def RingRoundUptoSaid : Prop := ringRoundUptoRow.holds Try.pinned (OpenSpec.upto ringRoundSpec)

/-- 'petasoslaw11.RingHeirs', WHERE WHAT IT READS IS OF BULK AT MOST 1048576: true; the input reads as it did. -/
def ringHeirsUptoRow : OpenClaim := { program := "ytohdlhdefbaleaa", sum := "2f084dbdd4b0079f264fa7419b78730a0e5e6c4e7537c0b2d246bcc6e4fa1983", func := "petasos/petasoslaw11.RingHeirs", spec := "ringHeirs", inPlace := ["slices.overlaps[uint32]"], unfollowed := true, recurses := true, apart := false, narrowed := true }
def RingHeirsUptoSaid : Prop := ringHeirsUptoRow.holds Try.pinned (OpenSpec.upto ringHeirsSpec)

/-- 'petasoslaw11.RingOwns', WHERE WHAT IT READS IS OF BULK AT MOST 1048576: true; the input reads as it did. -/
def ringOwnsUptoRow : OpenClaim := { program := "ytohdlhdefbaleaa", sum := "2f084dbdd4b0079f264fa7419b78730a0e5e6c4e7537c0b2d246bcc6e4fa1983", func := "petasos/petasoslaw11.RingOwns", spec := "ringOwns", inPlace := ["slices.overlaps[uint32]"], unfollowed := true, recurses := true, apart := false, narrowed := true }
def RingOwnsUptoSaid : Prop := ringOwnsUptoRow.holds Try.pinned (OpenSpec.upto ringOwnsSpec)

/-- 'petasoslaw02.CoverOrder', WHERE WHAT IT READS IS OF BULK AT MOST 1048576: true; the input reads as it did. -/
def coverOrderUptoRow : OpenClaim := { program := "ytohdlhdefbaleaa", sum := "2f084dbdd4b0079f264fa7419b78730a0e5e6c4e7537c0b2d246bcc6e4fa1983", func := "petasos/petasoslaw02.CoverOrder", spec := "coverOrder", inPlace := ["slices.overlaps[petasos/circle.Run]"], unfollowed := true, recurses := true, apart := false, narrowed := true }
def CoverOrderUptoSaid : Prop := coverOrderUptoRow.holds Try.pinned (OpenSpec.upto coverOrderSpec)

/-- 'petasoslaw02.CoverPieces', WHERE WHAT IT READS IS OF BULK AT MOST 1048576: true; the input reads as it did. -/
def coverPiecesUptoRow : OpenClaim := { program := "ytohdlhdefbaleaa", sum := "2f084dbdd4b0079f264fa7419b78730a0e5e6c4e7537c0b2d246bcc6e4fa1983", func := "petasos/petasoslaw02.CoverPieces", spec := "coverPieces", inPlace := ["slices.overlaps[petasos/circle.Run]"], unfollowed := true, recurses := true, apart := false, narrowed := true }
def CoverPiecesUptoSaid : Prop := coverPiecesUptoRow.holds Try.pinned (OpenSpec.upto coverPiecesSpec)

/-- 'petasoslaw02.CoverApart', WHERE WHAT IT READS IS OF BULK AT MOST 1048576: true; the input reads as it did. -/
def coverApartUptoRow : OpenClaim := { program := "ytohdlhdefbaleaa", sum := "2f084dbdd4b0079f264fa7419b78730a0e5e6c4e7537c0b2d246bcc6e4fa1983", func := "petasos/petasoslaw02.CoverApart", spec := "coverApart", inPlace := ["slices.overlaps[petasos/circle.Run]"], unfollowed := true, recurses := true, apart := false, narrowed := true }
def CoverApartUptoSaid : Prop := coverApartUptoRow.holds Try.pinned (OpenSpec.upto coverApartSpec)

/-- 'petasoslaw11.RingOrder', WHERE WHAT IT READS IS OF BULK AT MOST 1048576: true; the input reads as it did. -/
def ringOrderUptoRow : OpenClaim := { program := "ytohdlhdefbaleaa", sum := "2f084dbdd4b0079f264fa7419b78730a0e5e6c4e7537c0b2d246bcc6e4fa1983", func := "petasos/petasoslaw11.RingOrder", spec := "ringOrder", inPlace := ["slices.overlaps[uint32]"], unfollowed := true, recurses := true, apart := false, narrowed := true }
def RingOrderUptoSaid : Prop := ringOrderUptoRow.holds Try.pinned (OpenSpec.upto ringOrderSpec)

/-- 'petasoslaw02.CoverPlays', WHERE WHAT IT READS IS OF BULK AT MOST 1048576: true; the input reads as it did. -/
def coverPlaysUptoRow : OpenClaim := { program := "ytohdlhdefbaleaa", sum := "2f084dbdd4b0079f264fa7419b78730a0e5e6c4e7537c0b2d246bcc6e4fa1983", func := "petasos/petasoslaw02.CoverPlays", spec := "coverPlays", inPlace := ["slices.overlaps[petasos/circle.Run]"], unfollowed := true, recurses := true, apart := false, narrowed := true }
def CoverPlaysUptoSaid : Prop := coverPlaysUptoRow.holds Try.pinned (OpenSpec.upto coverPlaysSpec)

/-- 'petasoslaw02.CoverNil', WHERE WHAT IT READS IS OF BULK AT MOST 1048576: true; the input reads as it did. -/
def coverNilUptoRow : OpenClaim := { program := "ytohdlhdefbaleaa", sum := "2f084dbdd4b0079f264fa7419b78730a0e5e6c4e7537c0b2d246bcc6e4fa1983", func := "petasos/petasoslaw02.CoverNil", spec := "coverNil", inPlace := ["slices.overlaps[petasos/circle.Run]"], unfollowed := true, recurses := true, apart := false, narrowed := true }
def CoverNilUptoSaid : Prop := coverNilUptoRow.holds Try.pinned (OpenSpec.upto coverNilSpec)

/-- 'petasoslaw11.RingJoins', WHERE WHAT IT READS IS OF BULK AT MOST 1048576: true; the input reads as it did. -/
def ringJoinsUptoRow : OpenClaim := { program := "ytohdlhdefbaleaa", sum := "2f084dbdd4b0079f264fa7419b78730a0e5e6c4e7537c0b2d246bcc6e4fa1983", func := "petasos/petasoslaw11.RingJoins", spec := "ringJoins", inPlace := ["slices.overlaps[uint32]"], unfollowed := true, recurses := true, apart := false, narrowed := true }
def RingJoinsUptoSaid : Prop := ringJoinsUptoRow.holds Try.pinned (OpenSpec.upto ringJoinsSpec)

/-- 'petasoslaw11.RingPlays', WHERE WHAT IT READS IS OF BULK AT MOST 1048576: true; the input reads as it did. -/
def ringPlaysUptoRow : OpenClaim := { program := "ytohdlhdefbaleaa", sum := "2f084dbdd4b0079f264fa7419b78730a0e5e6c4e7537c0b2d246bcc6e4fa1983", func := "petasos/petasoslaw11.RingPlays", spec := "ringPlays", inPlace := ["slices.overlaps[uint32]"], unfollowed := true, recurses := true, apart := false, narrowed := true }
def RingPlaysUptoSaid : Prop := ringPlaysUptoRow.holds Try.pinned (OpenSpec.upto ringPlaysSpec)

/-- 'petasoslaw11.RingFull', WHERE WHAT IT READS IS OF BULK AT MOST 1048576: true; the input reads as it did. -/
def ringFullUptoRow : OpenClaim := { program := "ytohdlhdefbaleaa", sum := "2f084dbdd4b0079f264fa7419b78730a0e5e6c4e7537c0b2d246bcc6e4fa1983", func := "petasos/petasoslaw11.RingFull", spec := "ringFull", inPlace := ["slices.overlaps[uint32]"], unfollowed := true, recurses := true, apart := false, narrowed := true }
def RingFullUptoSaid : Prop := ringFullUptoRow.holds Try.pinned (OpenSpec.upto ringFullSpec)

end Rows
end Go.Proofs.Ytohdlhdefbaleaa
