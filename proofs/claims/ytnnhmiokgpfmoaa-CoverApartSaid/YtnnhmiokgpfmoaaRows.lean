/-
  No cell of these rows narrows 'for every input' (looked for: loops, veiled, ifaces, maps, wideKeys, modest, calm, conditions, laid).
  DERIVED. THE GIVEN ROWS OF THIS SEAT. 5 by the template 'for every input the law returns true; each argument reads behind the call as it read before'; 0 by the template 'total and deterministic' (their statements: YtnnhmiokgpfmoaaTotals.lean).
  GIVEN WITH THE SEED: the statements are not yours to turn. If you find one false, say at which input.
  Laid BY PROGRAM, IN A SANDBOX (cutbox-rows.mjs): the forced cells as the released guide's own fill.sh prints them over the translation ff14df7a92f529a0… (all of the seat's roots in one cut). By AI agents, Wed Nov 11 2026. No macro, syntax, notation, axiom, sorry.
-/
import Derived.Test.YtnnhmiokgpfmoaaChecked
import GoSem.Claim
import GoSem.ClaimJoined
import GoSem.ClaimMapViews
import Derived.JoinedTies
import Derived.KernelRfl
namespace Go.Proofs.Ytnnhmiokgpfmoaa
/- THE CELL 'sum', in the pinned program and in every row, IS THE sha256 OF THE DUMP (.gsa) THAT YtnnhmiokgpfmoaaProg.lean LOADS. Nothing in Lean hashes anything: it is a label: what it is worth is what the hold of that sum in a sandbox is worth. -/
noncomputable def Try.pinned : Pinned := { name := "ytnnhmiokgpfmoaa", sum := "ff14df7a92f529a079b0e6b7188da5070f2a891fba06568345fd83046bb94a31", checked := Try.checked }
namespace Rows
def none {H : Type} : Left H := { results := [], args := [] }

/-- 'petasoslaw02.CoverOrder': WHATEVER THE INPUT: true; the input reads as it did. -/
def coverOrderSpec : ChangeSpec := { name := "coverOrder", fn := fun _ => fun
  | [d1, d2, d3] => { results := [.lit (.bool true)], args := [d1, d2, d3] }
  | _ => none }
def coverOrderRow : OpenClaim := { program := "ytnnhmiokgpfmoaa", sum := "ff14df7a92f529a079b0e6b7188da5070f2a891fba06568345fd83046bb94a31", func := "petasos/petasoslaw02.CoverOrder", spec := "coverOrder", inPlace := ["slices.overlaps[petasos/circle.Run]"], unfollowed := true, recurses := true, apart := false }
def CoverOrderSaid : Prop := coverOrderRow.holds Try.pinned (OpenSpec.ofChange coverOrderSpec)

/-- ITS FALSE NEIGHBOUR: 'it returns false'. Refute it at one input. -/
def coverOrderWrong : ChangeSpec := { name := "coverOrder", fn := fun _ => fun
  | [d1, d2, d3] => { results := [.lit (.bool false)], args := [d1, d2, d3] }
  | _ => none }
def CoverOrderWrongFalsely : Prop := coverOrderRow.holds Try.pinned (OpenSpec.ofChange coverOrderWrong)

/-- 'petasoslaw02.CoverPieces': WHATEVER THE INPUT: true; the input reads as it did. -/
def coverPiecesSpec : ChangeSpec := { name := "coverPieces", fn := fun _ => fun
  | [d1, d2, d3] => { results := [.lit (.bool true)], args := [d1, d2, d3] }
  | _ => none }
def coverPiecesRow : OpenClaim := { program := "ytnnhmiokgpfmoaa", sum := "ff14df7a92f529a079b0e6b7188da5070f2a891fba06568345fd83046bb94a31", func := "petasos/petasoslaw02.CoverPieces", spec := "coverPieces", inPlace := ["slices.overlaps[petasos/circle.Run]"], unfollowed := true, recurses := true, apart := false }
def CoverPiecesSaid : Prop := coverPiecesRow.holds Try.pinned (OpenSpec.ofChange coverPiecesSpec)

/-- ITS FALSE NEIGHBOUR: 'it returns false'. Refute it at one input. -/
def coverPiecesWrong : ChangeSpec := { name := "coverPieces", fn := fun _ => fun
  | [d1, d2, d3] => { results := [.lit (.bool false)], args := [d1, d2, d3] }
  | _ => none }
def CoverPiecesWrongFalsely : Prop := coverPiecesRow.holds Try.pinned (OpenSpec.ofChange coverPiecesWrong)

/-- 'petasoslaw02.CoverApart': WHATEVER THE INPUT: true; the input reads as it did. -/
def coverApartSpec : ChangeSpec := { name := "coverApart", fn := fun _ => fun
  | [d1, d2] => { results := [.lit (.bool true)], args := [d1, d2] }
  | _ => none }
def coverApartRow : OpenClaim := { program := "ytnnhmiokgpfmoaa", sum := "ff14df7a92f529a079b0e6b7188da5070f2a891fba06568345fd83046bb94a31", func := "petasos/petasoslaw02.CoverApart", spec := "coverApart", inPlace := ["slices.overlaps[petasos/circle.Run]"], unfollowed := true, recurses := true, apart := false }
def CoverApartSaid : Prop := coverApartRow.holds Try.pinned (OpenSpec.ofChange coverApartSpec)

/-- ITS FALSE NEIGHBOUR: 'it returns false'. Refute it at one input. -/
def coverApartWrong : ChangeSpec := { name := "coverApart", fn := fun _ => fun
  | [d1, d2] => { results := [.lit (.bool false)], args := [d1, d2] }
  | _ => none }
def CoverApartWrongFalsely : Prop := coverApartRow.holds Try.pinned (OpenSpec.ofChange coverApartWrong)

/-- 'petasoslaw02.CoverPlays': WHATEVER THE INPUT: true; the input reads as it did. -/
def coverPlaysSpec : ChangeSpec := { name := "coverPlays", fn := fun _ => fun
  | [d1, d2, d3] => { results := [.lit (.bool true)], args := [d1, d2, d3] }
  | _ => none }
def coverPlaysRow : OpenClaim := { program := "ytnnhmiokgpfmoaa", sum := "ff14df7a92f529a079b0e6b7188da5070f2a891fba06568345fd83046bb94a31", func := "petasos/petasoslaw02.CoverPlays", spec := "coverPlays", inPlace := ["slices.overlaps[petasos/circle.Run]"], unfollowed := true, recurses := true, apart := false }
def CoverPlaysSaid : Prop := coverPlaysRow.holds Try.pinned (OpenSpec.ofChange coverPlaysSpec)

/-- ITS FALSE NEIGHBOUR: 'it returns false'. Refute it at one input. -/
def coverPlaysWrong : ChangeSpec := { name := "coverPlays", fn := fun _ => fun
  | [d1, d2, d3] => { results := [.lit (.bool false)], args := [d1, d2, d3] }
  | _ => none }
def CoverPlaysWrongFalsely : Prop := coverPlaysRow.holds Try.pinned (OpenSpec.ofChange coverPlaysWrong)

/-- 'petasoslaw02.CoverNil': WHATEVER THE INPUT: true; the input reads as it did. -/
def coverNilSpec : ChangeSpec := { name := "coverNil", fn := fun _ => fun
  | [d] => { results := [.lit (.bool true)], args := [d] }
  | _ => none }
def coverNilRow : OpenClaim := { program := "ytnnhmiokgpfmoaa", sum := "ff14df7a92f529a079b0e6b7188da5070f2a891fba06568345fd83046bb94a31", func := "petasos/petasoslaw02.CoverNil", spec := "coverNil", inPlace := ["slices.overlaps[petasos/circle.Run]"], unfollowed := true, recurses := true, apart := false }
def CoverNilSaid : Prop := coverNilRow.holds Try.pinned (OpenSpec.ofChange coverNilSpec)

/-- ITS FALSE NEIGHBOUR: 'it returns false'. Refute it at one input. -/
def coverNilWrong : ChangeSpec := { name := "coverNil", fn := fun _ => fun
  | [d] => { results := [.lit (.bool false)], args := [d] }
  | _ => none }
def CoverNilWrongFalsely : Prop := coverNilRow.holds Try.pinned (OpenSpec.ofChange coverNilWrong)

/- THE SECOND FORM. 'bulk': how many values and letters a reading holds, each counted each time it is reached (what is shared counts as often as it is met; a slice's spare places count too). A statement '..UptoSaid' is the law's where the arguments, and the package variables that the reading takes, are together of bulk at most 1048576: NARROWER than '..Said'. Prove '..Said' where nothing that the law and all that it calls make is longer than what came in: it says more and counts as full. Else prove '..UptoSaid'. A law counts once. -/
mutual
def uptoBulk {H : Type} : DataW H → Nat
  | .lit (.string bytes) => bytes.length + 1
  | .lit _ => 1
  | .nil => 1
  | .ptr d => uptoBulk d + 1
  | .slice elems spare => uptoBulkAll elems + uptoBulkAll spare + 1
  | .agg parts => uptoBulkAll parts + 1
  | .iface _ d => uptoBulk d + 1
  | .map entries => uptoBulkEntries entries + 1
  | .held _ => 1
def uptoBulkAll {H : Type} : List (DataW H) → Nat
  | [] => 0
  | d :: r => uptoBulk d + uptoBulkAll r
def uptoBulkEntries {H : Type} : List (Lit × DataW H) → Nat
  | [] => 0
  | x :: r => uptoBulkEntry x + uptoBulkEntries r
def uptoBulkEntry {H : Type} : Lit × DataW H → Nat
  | (.string bytes, d) => bytes.length + uptoBulk d + 1
  | (_, d) => uptoBulk d + 1
 end
def uptoSmall : (H : Type) → List (DataW H) → Bool := fun _ ds => decide (uptoBulkAll ds ≤ 1048576)
def OpenSpec.upto (s : _root_.Go.ChangeSpec) : _root_.Go.OpenSpec := { _root_.Go.OpenSpec.ofChange s with cond := some uptoSmall }

/-- 'petasoslaw02.CoverOrder', WHERE WHAT IT READS IS OF BULK AT MOST 1048576: true; the input reads as it did. -/
def coverOrderUptoRow : OpenClaim := { program := "ytnnhmiokgpfmoaa", sum := "ff14df7a92f529a079b0e6b7188da5070f2a891fba06568345fd83046bb94a31", func := "petasos/petasoslaw02.CoverOrder", spec := "coverOrder", inPlace := ["slices.overlaps[petasos/circle.Run]"], unfollowed := true, recurses := true, apart := false, narrowed := true }
def CoverOrderUptoSaid : Prop := coverOrderUptoRow.holds Try.pinned (OpenSpec.upto coverOrderSpec)

/-- 'petasoslaw02.CoverPieces', WHERE WHAT IT READS IS OF BULK AT MOST 1048576: true; the input reads as it did. -/
def coverPiecesUptoRow : OpenClaim := { program := "ytnnhmiokgpfmoaa", sum := "ff14df7a92f529a079b0e6b7188da5070f2a891fba06568345fd83046bb94a31", func := "petasos/petasoslaw02.CoverPieces", spec := "coverPieces", inPlace := ["slices.overlaps[petasos/circle.Run]"], unfollowed := true, recurses := true, apart := false, narrowed := true }
def CoverPiecesUptoSaid : Prop := coverPiecesUptoRow.holds Try.pinned (OpenSpec.upto coverPiecesSpec)

/-- 'petasoslaw02.CoverApart', WHERE WHAT IT READS IS OF BULK AT MOST 1048576: true; the input reads as it did. -/
def coverApartUptoRow : OpenClaim := { program := "ytnnhmiokgpfmoaa", sum := "ff14df7a92f529a079b0e6b7188da5070f2a891fba06568345fd83046bb94a31", func := "petasos/petasoslaw02.CoverApart", spec := "coverApart", inPlace := ["slices.overlaps[petasos/circle.Run]"], unfollowed := true, recurses := true, apart := false, narrowed := true }
def CoverApartUptoSaid : Prop := coverApartUptoRow.holds Try.pinned (OpenSpec.upto coverApartSpec)

/-- 'petasoslaw02.CoverPlays', WHERE WHAT IT READS IS OF BULK AT MOST 1048576: true; the input reads as it did. -/
def coverPlaysUptoRow : OpenClaim := { program := "ytnnhmiokgpfmoaa", sum := "ff14df7a92f529a079b0e6b7188da5070f2a891fba06568345fd83046bb94a31", func := "petasos/petasoslaw02.CoverPlays", spec := "coverPlays", inPlace := ["slices.overlaps[petasos/circle.Run]"], unfollowed := true, recurses := true, apart := false, narrowed := true }
def CoverPlaysUptoSaid : Prop := coverPlaysUptoRow.holds Try.pinned (OpenSpec.upto coverPlaysSpec)

/-- 'petasoslaw02.CoverNil', WHERE WHAT IT READS IS OF BULK AT MOST 1048576: true; the input reads as it did. -/
def coverNilUptoRow : OpenClaim := { program := "ytnnhmiokgpfmoaa", sum := "ff14df7a92f529a079b0e6b7188da5070f2a891fba06568345fd83046bb94a31", func := "petasos/petasoslaw02.CoverNil", spec := "coverNil", inPlace := ["slices.overlaps[petasos/circle.Run]"], unfollowed := true, recurses := true, apart := false, narrowed := true }
def CoverNilUptoSaid : Prop := coverNilUptoRow.holds Try.pinned (OpenSpec.upto coverNilSpec)

end Rows
end Go.Proofs.Ytnnhmiokgpfmoaa
