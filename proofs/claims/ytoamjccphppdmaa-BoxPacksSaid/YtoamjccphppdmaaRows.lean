/-
  No cell of these rows narrows 'for every input' (looked for: loops, veiled, ifaces, maps, wideKeys, modest, calm, conditions, laid).
  DERIVED. THE GIVEN ROWS OF THIS SEAT. 11 by the template 'for every input the law returns true; each argument reads behind the call as it read before'; 0 by the template 'total and deterministic' (their statements: YtoamjccphppdmaaTotals.lean).
  GIVEN WITH THE SEED: the statements are not yours to turn. If you find one false, say at which input.
  Laid BY PROGRAM, IN A SANDBOX (cutbox-rows.mjs): the forced cells as the released guide's own fill.sh prints them over the translation 94d2fceafbb057ba… (all of the seat's roots in one cut). By AI agents, Wed Nov 11 2026. No macro, syntax, notation, axiom, sorry.
-/
import Derived.Test.YtoamjccphppdmaaChecked
import GoSem.Claim
import GoSem.ClaimJoined
import GoSem.ClaimMapViews
import Derived.JoinedTies
import Derived.KernelRfl
namespace Go.Proofs.Ytoamjccphppdmaa
/- THE CELL 'sum', in the pinned program and in every row, IS THE sha256 OF THE DUMP (.gsa) THAT YtoamjccphppdmaaProg.lean LOADS. Nothing in Lean hashes anything: it is a label: what it is worth is what the hold of that sum in a sandbox is worth. -/
noncomputable def Try.pinned : Pinned := { name := "ytoamjccphppdmaa", sum := "94d2fceafbb057ba5790c04a54cfcee8da72cae91fdf323978b4b75ad9bb367b", checked := Try.checked }
namespace Rows
def none {H : Type} : Left H := { results := [], args := [] }

/-- 'petasoslaw05.BoxSpans': WHATEVER THE INPUT: true; the input reads as it did. -/
def boxSpansSpec : ChangeSpec := { name := "boxSpans", fn := fun _ => fun
  | [d1, d2] => { results := [.lit (.bool true)], args := [d1, d2] }
  | _ => none }
def boxSpansRow : OpenClaim := { program := "ytoamjccphppdmaa", sum := "94d2fceafbb057ba5790c04a54cfcee8da72cae91fdf323978b4b75ad9bb367b", func := "petasos/petasoslaw05.BoxSpans", spec := "boxSpans", unfollowed := true, recurses := true, apart := false }
def BoxSpansSaid : Prop := boxSpansRow.holds Try.pinned (OpenSpec.ofChange boxSpansSpec)

/-- ITS FALSE NEIGHBOUR: 'it returns false'. Refute it at one input. -/
def boxSpansWrong : ChangeSpec := { name := "boxSpans", fn := fun _ => fun
  | [d1, d2] => { results := [.lit (.bool false)], args := [d1, d2] }
  | _ => none }
def BoxSpansWrongFalsely : Prop := boxSpansRow.holds Try.pinned (OpenSpec.ofChange boxSpansWrong)

/-- 'petasoslaw05.BoxRound': WHATEVER THE INPUT: true; the input reads as it did. -/
def boxRoundSpec : ChangeSpec := { name := "boxRound", fn := fun _ => fun
  | [d1, d2] => { results := [.lit (.bool true)], args := [d1, d2] }
  | _ => none }
def boxRoundRow : OpenClaim := { program := "ytoamjccphppdmaa", sum := "94d2fceafbb057ba5790c04a54cfcee8da72cae91fdf323978b4b75ad9bb367b", func := "petasos/petasoslaw05.BoxRound", spec := "boxRound", unfollowed := true, recurses := true, apart := false }
def BoxRoundSaid : Prop := boxRoundRow.holds Try.pinned (OpenSpec.ofChange boxRoundSpec)

/-- ITS FALSE NEIGHBOUR: 'it returns false'. Refute it at one input. -/
def boxRoundWrong : ChangeSpec := { name := "boxRound", fn := fun _ => fun
  | [d1, d2] => { results := [.lit (.bool false)], args := [d1, d2] }
  | _ => none }
def BoxRoundWrongFalsely : Prop := boxRoundRow.holds Try.pinned (OpenSpec.ofChange boxRoundWrong)

/-- 'petasoslaw05.BoxParts': WHATEVER THE INPUT: true; the input reads as it did. -/
def boxPartsSpec : ChangeSpec := { name := "boxParts", fn := fun _ => fun
  | [d1, d2, d3, d4] => { results := [.lit (.bool true)], args := [d1, d2, d3, d4] }
  | _ => none }
def boxPartsRow : OpenClaim := { program := "ytoamjccphppdmaa", sum := "94d2fceafbb057ba5790c04a54cfcee8da72cae91fdf323978b4b75ad9bb367b", func := "petasos/petasoslaw05.BoxParts", spec := "boxParts", unfollowed := true, recurses := true, apart := false }
def BoxPartsSaid : Prop := boxPartsRow.holds Try.pinned (OpenSpec.ofChange boxPartsSpec)

/-- ITS FALSE NEIGHBOUR: 'it returns false'. Refute it at one input. -/
def boxPartsWrong : ChangeSpec := { name := "boxParts", fn := fun _ => fun
  | [d1, d2, d3, d4] => { results := [.lit (.bool false)], args := [d1, d2, d3, d4] }
  | _ => none }
def BoxPartsWrongFalsely : Prop := boxPartsRow.holds Try.pinned (OpenSpec.ofChange boxPartsWrong)

/-- 'petasoslaw03.OctetOrder': WHATEVER THE INPUT: true; the input reads as it did. -/
def octetOrderSpec : ChangeSpec := { name := "octetOrder", fn := fun _ => fun
  | [d1, d2, d3] => { results := [.lit (.bool true)], args := [d1, d2, d3] }
  | _ => none }
def octetOrderRow : OpenClaim := { program := "ytoamjccphppdmaa", sum := "94d2fceafbb057ba5790c04a54cfcee8da72cae91fdf323978b4b75ad9bb367b", func := "petasos/petasoslaw03.OctetOrder", spec := "octetOrder", apart := false }
def OctetOrderSaid : Prop := octetOrderRow.holds Try.pinned (OpenSpec.ofChange octetOrderSpec)

/-- ITS FALSE NEIGHBOUR: 'it returns false'. Refute it at one input. -/
def octetOrderWrong : ChangeSpec := { name := "octetOrder", fn := fun _ => fun
  | [d1, d2, d3] => { results := [.lit (.bool false)], args := [d1, d2, d3] }
  | _ => none }
def OctetOrderWrongFalsely : Prop := octetOrderRow.holds Try.pinned (OpenSpec.ofChange octetOrderWrong)

/-- 'petasoslaw05.BoxMatches': WHATEVER THE INPUT: true; the input reads as it did. -/
def boxMatchesSpec : ChangeSpec := { name := "boxMatches", fn := fun _ => fun
  | [d1, d2] => { results := [.lit (.bool true)], args := [d1, d2] }
  | _ => none }
def boxMatchesRow : OpenClaim := { program := "ytoamjccphppdmaa", sum := "94d2fceafbb057ba5790c04a54cfcee8da72cae91fdf323978b4b75ad9bb367b", func := "petasos/petasoslaw05.BoxMatches", spec := "boxMatches", unfollowed := true, recurses := true, apart := false }
def BoxMatchesSaid : Prop := boxMatchesRow.holds Try.pinned (OpenSpec.ofChange boxMatchesSpec)

/-- ITS FALSE NEIGHBOUR: 'it returns false'. Refute it at one input. -/
def boxMatchesWrong : ChangeSpec := { name := "boxMatches", fn := fun _ => fun
  | [d1, d2] => { results := [.lit (.bool false)], args := [d1, d2] }
  | _ => none }
def BoxMatchesWrongFalsely : Prop := boxMatchesRow.holds Try.pinned (OpenSpec.ofChange boxMatchesWrong)

/-- 'petasoslaw03.OctetReads': WHATEVER THE INPUT: true; the input reads as it did. -/
def octetReadsSpec : ChangeSpec := { name := "octetReads", fn := fun _ => fun
  | [d1, d2] => { results := [.lit (.bool true)], args := [d1, d2] }
  | _ => none }
def octetReadsRow : OpenClaim := { program := "ytoamjccphppdmaa", sum := "94d2fceafbb057ba5790c04a54cfcee8da72cae91fdf323978b4b75ad9bb367b", func := "petasos/petasoslaw03.OctetReads", spec := "octetReads", unfollowed := true, recurses := true, apart := false }
def OctetReadsSaid : Prop := octetReadsRow.holds Try.pinned (OpenSpec.ofChange octetReadsSpec)

/-- ITS FALSE NEIGHBOUR: 'it returns false'. Refute it at one input. -/
def octetReadsWrong : ChangeSpec := { name := "octetReads", fn := fun _ => fun
  | [d1, d2] => { results := [.lit (.bool false)], args := [d1, d2] }
  | _ => none }
def OctetReadsWrongFalsely : Prop := octetReadsRow.holds Try.pinned (OpenSpec.ofChange octetReadsWrong)

/-- 'petasoslaw03.OctetWrites': WHATEVER THE INPUT: true; the input reads as it did. -/
def octetWritesSpec : ChangeSpec := { name := "octetWrites", fn := fun _ => fun
  | [d] => { results := [.lit (.bool true)], args := [d] }
  | _ => none }
def octetWritesRow : OpenClaim := { program := "ytoamjccphppdmaa", sum := "94d2fceafbb057ba5790c04a54cfcee8da72cae91fdf323978b4b75ad9bb367b", func := "petasos/petasoslaw03.OctetWrites", spec := "octetWrites", apart := false }
def OctetWritesSaid : Prop := octetWritesRow.holds Try.pinned (OpenSpec.ofChange octetWritesSpec)

/-- ITS FALSE NEIGHBOUR: 'it returns false'. Refute it at one input. -/
def octetWritesWrong : ChangeSpec := { name := "octetWrites", fn := fun _ => fun
  | [d] => { results := [.lit (.bool false)], args := [d] }
  | _ => none }
def OctetWritesWrongFalsely : Prop := octetWritesRow.holds Try.pinned (OpenSpec.ofChange octetWritesWrong)

/-- 'petasoslaw03.OctetNil': WHATEVER THE INPUT: true; the input reads as it did. -/
def octetNilSpec : ChangeSpec := { name := "octetNil", fn := fun _ => fun
  | [d1, d2] => { results := [.lit (.bool true)], args := [d1, d2] }
  | _ => none }
def octetNilRow : OpenClaim := { program := "ytoamjccphppdmaa", sum := "94d2fceafbb057ba5790c04a54cfcee8da72cae91fdf323978b4b75ad9bb367b", func := "petasos/petasoslaw03.OctetNil", spec := "octetNil", apart := false }
def OctetNilSaid : Prop := octetNilRow.holds Try.pinned (OpenSpec.ofChange octetNilSpec)

/-- ITS FALSE NEIGHBOUR: 'it returns false'. Refute it at one input. -/
def octetNilWrong : ChangeSpec := { name := "octetNil", fn := fun _ => fun
  | [d1, d2] => { results := [.lit (.bool false)], args := [d1, d2] }
  | _ => none }
def OctetNilWrongFalsely : Prop := octetNilRow.holds Try.pinned (OpenSpec.ofChange octetNilWrong)

/-- 'petasoslaw03.OctetShort': WHATEVER THE INPUT: true; the input reads as it did. -/
def octetShortSpec : ChangeSpec := { name := "octetShort", fn := fun _ => fun
  | [d1, d2] => { results := [.lit (.bool true)], args := [d1, d2] }
  | _ => none }
def octetShortRow : OpenClaim := { program := "ytoamjccphppdmaa", sum := "94d2fceafbb057ba5790c04a54cfcee8da72cae91fdf323978b4b75ad9bb367b", func := "petasos/petasoslaw03.OctetShort", spec := "octetShort", apart := false }
def OctetShortSaid : Prop := octetShortRow.holds Try.pinned (OpenSpec.ofChange octetShortSpec)

/-- ITS FALSE NEIGHBOUR: 'it returns false'. Refute it at one input. -/
def octetShortWrong : ChangeSpec := { name := "octetShort", fn := fun _ => fun
  | [d1, d2] => { results := [.lit (.bool false)], args := [d1, d2] }
  | _ => none }
def OctetShortWrongFalsely : Prop := octetShortRow.holds Try.pinned (OpenSpec.ofChange octetShortWrong)

/-- 'petasoslaw05.BoxPacks': WHATEVER THE INPUT: true; the input reads as it did. -/
def boxPacksSpec : ChangeSpec := { name := "boxPacks", fn := fun _ => fun
  | [d1, d2, d3] => { results := [.lit (.bool true)], args := [d1, d2, d3] }
  | _ => none }
def boxPacksRow : OpenClaim := { program := "ytoamjccphppdmaa", sum := "94d2fceafbb057ba5790c04a54cfcee8da72cae91fdf323978b4b75ad9bb367b", func := "petasos/petasoslaw05.BoxPacks", spec := "boxPacks", unfollowed := true, recurses := true, apart := false }
def BoxPacksSaid : Prop := boxPacksRow.holds Try.pinned (OpenSpec.ofChange boxPacksSpec)

/-- ITS FALSE NEIGHBOUR: 'it returns false'. Refute it at one input. -/
def boxPacksWrong : ChangeSpec := { name := "boxPacks", fn := fun _ => fun
  | [d1, d2, d3] => { results := [.lit (.bool false)], args := [d1, d2, d3] }
  | _ => none }
def BoxPacksWrongFalsely : Prop := boxPacksRow.holds Try.pinned (OpenSpec.ofChange boxPacksWrong)

/-- 'petasoslaw05.BoxTells': WHATEVER THE INPUT: true; the input reads as it did. -/
def boxTellsSpec : ChangeSpec := { name := "boxTells", fn := fun _ => fun
  | [d1, d2, d3, d4, d5] => { results := [.lit (.bool true)], args := [d1, d2, d3, d4, d5] }
  | _ => none }
def boxTellsRow : OpenClaim := { program := "ytoamjccphppdmaa", sum := "94d2fceafbb057ba5790c04a54cfcee8da72cae91fdf323978b4b75ad9bb367b", func := "petasos/petasoslaw05.BoxTells", spec := "boxTells", unfollowed := true, recurses := true, apart := false }
def BoxTellsSaid : Prop := boxTellsRow.holds Try.pinned (OpenSpec.ofChange boxTellsSpec)

/-- ITS FALSE NEIGHBOUR: 'it returns false'. Refute it at one input. -/
def boxTellsWrong : ChangeSpec := { name := "boxTells", fn := fun _ => fun
  | [d1, d2, d3, d4, d5] => { results := [.lit (.bool false)], args := [d1, d2, d3, d4, d5] }
  | _ => none }
def BoxTellsWrongFalsely : Prop := boxTellsRow.holds Try.pinned (OpenSpec.ofChange boxTellsWrong)

/- THE SECOND FORM. 'bulk': how many values and letters a reading holds, each counted each time it is reached (what is shared counts as often as it is met; a slice's spare places count too). A statement '..UptoSaid' is the law's where the arguments, and the package variables that the reading takes, are together of bulk at most 1048576: NARROWER than '..Said'. Prove '..Said' where nothing that the law and all that it calls make is longer than what came in: it says more and counts as full. Else prove '..UptoSaid'. A law counts once. -/
mutual
def uptoBulk {H : Type} : DataW H → Nat
  | .lit (.string bytes) => bytes.length + 1
  | .lit _ => 1
  | .nil => 1
  | .ptr d => uptoBulk d + 1
  | .slice elems spare => uptoBulkAll elems + uptoBulkAll spare + 1
  | .agg parts => uptoBulkAll parts + 1
  | .iface _ d => uptoBulk d + 1
  | .map entries => uptoBulkEntries entries + 1
  | .held _ => 1
def uptoBulkAll {H : Type} : List (DataW H) → Nat
  | [] => 0
  | d :: r => uptoBulk d + uptoBulkAll r
def uptoBulkEntries {H : Type} : List (Lit × DataW H) → Nat
  | [] => 0
  | x :: r => uptoBulkEntry x + uptoBulkEntries r
def uptoBulkEntry {H : Type} : Lit × DataW H → Nat
  | (.string bytes, d) => bytes.length + uptoBulk d + 1
  | (_, d) => uptoBulk d + 1
 end
def uptoSmall : (H : Type) → List (DataW H) → Bool := fun _ ds => decide (uptoBulkAll ds ≤ 1048576)
def OpenSpec.upto (s : _root_.Go.ChangeSpec) : _root_.Go.OpenSpec := { _root_.Go.OpenSpec.ofChange s with cond := some uptoSmall }

/-- 'petasoslaw05.BoxSpans', WHERE WHAT IT READS IS OF BULK AT MOST 1048576: true; the input reads as it did. -/
def boxSpansUptoRow : OpenClaim := { program := "ytoamjccphppdmaa", sum := "94d2fceafbb057ba5790c04a54cfcee8da72cae91fdf323978b4b75ad9bb367b", func := "petasos/petasoslaw05.BoxSpans", spec := "boxSpans", unfollowed := true, recurses := true, apart := false, narrowed := true }
def BoxSpansUptoSaid : Prop := boxSpansUptoRow.holds Try.pinned (OpenSpec.upto boxSpansSpec)

/-- 'petasoslaw05.BoxRound', WHERE WHAT IT READS IS OF BULK AT MOST 1048576: true; the input reads as it did. -/
def boxRoundUptoRow : OpenClaim := { program := "ytoamjccphppdmaa", sum := "94d2fceafbb057ba5790c04a54cfcee8da72cae91fdf323978b4b75ad9bb367b", func := "petasos/petasoslaw05.BoxRound", spec := "boxRound", unfollowed := true, recurses := true, apart := false, narrowed := true }
def BoxRoundUptoSaid : Prop := boxRoundUptoRow.holds Try.pinned (OpenSpec.upto boxRoundSpec)

/-- 'petasoslaw05.BoxParts', WHERE WHAT IT READS IS OF BULK AT MOST 1048576: true; the input reads as it did. -/
def boxPartsUptoRow : OpenClaim := { program := "ytoamjccphppdmaa", sum := "94d2fceafbb057ba5790c04a54cfcee8da72cae91fdf323978b4b75ad9bb367b", func := "petasos/petasoslaw05.BoxParts", spec := "boxParts", unfollowed := true, recurses := true, apart := false, narrowed := true }
def BoxPartsUptoSaid : Prop := boxPartsUptoRow.holds Try.pinned (OpenSpec.upto boxPartsSpec)

/-- 'petasoslaw03.OctetOrder', WHERE WHAT IT READS IS OF BULK AT MOST 1048576: true; the input reads as it did. -/
def octetOrderUptoRow : OpenClaim := { program := "ytoamjccphppdmaa", sum := "94d2fceafbb057ba5790c04a54cfcee8da72cae91fdf323978b4b75ad9bb367b", func := "petasos/petasoslaw03.OctetOrder", spec := "octetOrder", apart := false, narrowed := true }
def OctetOrderUptoSaid : Prop := octetOrderUptoRow.holds Try.pinned (OpenSpec.upto octetOrderSpec)

/-- 'petasoslaw05.BoxMatches', WHERE WHAT IT READS IS OF BULK AT MOST 1048576: true; the input reads as it did. -/
def boxMatchesUptoRow : OpenClaim := { program := "ytoamjccphppdmaa", sum := "94d2fceafbb057ba5790c04a54cfcee8da72cae91fdf323978b4b75ad9bb367b", func := "petasos/petasoslaw05.BoxMatches", spec := "boxMatches", unfollowed := true, recurses := true, apart := false, narrowed := true }
def BoxMatchesUptoSaid : Prop := boxMatchesUptoRow.holds Try.pinned (OpenSpec.upto boxMatchesSpec)

/-- 'petasoslaw03.OctetReads', WHERE WHAT IT READS IS OF BULK AT MOST 1048576: true; the input reads as it did. -/
def octetReadsUptoRow : OpenClaim := { program := "ytoamjccphppdmaa", sum := "94d2fceafbb057ba5790c04a54cfcee8da72cae91fdf323978b4b75ad9bb367b", func := "petasos/petasoslaw03.OctetReads", spec := "octetReads", unfollowed := true, recurses := true, apart := false, narrowed := true }
def OctetReadsUptoSaid : Prop := octetReadsUptoRow.holds Try.pinned (OpenSpec.upto octetReadsSpec)

/-- 'petasoslaw03.OctetWrites', WHERE WHAT IT READS IS OF BULK AT MOST 1048576: true; the input reads as it did. -/
def octetWritesUptoRow : OpenClaim := { program := "ytoamjccphppdmaa", sum := "94d2fceafbb057ba5790c04a54cfcee8da72cae91fdf323978b4b75ad9bb367b", func := "petasos/petasoslaw03.OctetWrites", spec := "octetWrites", apart := false, narrowed := true }
def OctetWritesUptoSaid : Prop := octetWritesUptoRow.holds Try.pinned (OpenSpec.upto octetWritesSpec)

/-- 'petasoslaw03.OctetNil', WHERE WHAT IT READS IS OF BULK AT MOST 1048576: true; the input reads as it did. -/
def octetNilUptoRow : OpenClaim := { program := "ytoamjccphppdmaa", sum := "94d2fceafbb057ba5790c04a54cfcee8da72cae91fdf323978b4b75ad9bb367b", func := "petasos/petasoslaw03.OctetNil", spec := "octetNil", apart := false, narrowed := true }
def OctetNilUptoSaid : Prop := octetNilUptoRow.holds Try.pinned (OpenSpec.upto octetNilSpec)

/-- 'petasoslaw03.OctetShort', WHERE WHAT IT READS IS OF BULK AT MOST 1048576: true; the input reads as it did. -/
def octetShortUptoRow : OpenClaim := { program := "ytoamjccphppdmaa", sum := "94d2fceafbb057ba5790c04a54cfcee8da72cae91fdf323978b4b75ad9bb367b", func := "petasos/petasoslaw03.OctetShort", spec := "octetShort", apart := false, narrowed := true }
def OctetShortUptoSaid : Prop := octetShortUptoRow.holds Try.pinned (OpenSpec.upto octetShortSpec)

/-- 'petasoslaw05.BoxPacks', WHERE WHAT IT READS IS OF BULK AT MOST 1048576: true; the input reads as it did. -/
def boxPacksUptoRow : OpenClaim := { program := "ytoamjccphppdmaa", sum := "94d2fceafbb057ba5790c04a54cfcee8da72cae91fdf323978b4b75ad9bb367b", func := "petasos/petasoslaw05.BoxPacks", spec := "boxPacks", unfollowed := true, recurses := true, apart := false, narrowed := true }
def BoxPacksUptoSaid : Prop := boxPacksUptoRow.holds Try.pinned (OpenSpec.upto boxPacksSpec)

/-- 'petasoslaw05.BoxTells', WHERE WHAT IT READS IS OF BULK AT MOST 1048576: true; the input reads as it did. -/
def boxTellsUptoRow : OpenClaim := { program := "ytoamjccphppdmaa", sum := "94d2fceafbb057ba5790c04a54cfcee8da72cae91fdf323978b4b75ad9bb367b", func := "petasos/petasoslaw05.BoxTells", spec := "boxTells", unfollowed := true, recurses := true, apart := false, narrowed := true }
def BoxTellsUptoSaid : Prop := boxTellsUptoRow.holds Try.pinned (OpenSpec.upto boxTellsSpec)

end Rows
end Go.Proofs.Ytoamjccphppdmaa
