/-
  No cell of these rows narrows 'for every input' (looked for: loops, veiled, ifaces, maps, wideKeys, modest, calm, conditions, laid).
  DERIVED. THE GIVEN ROWS OF THIS SEAT. 9 by the template 'for every input the law returns true; each argument reads behind the call as it read before'; 0 by the template 'total and deterministic' (their statements: YtlchnpmfgblegaaTotals.lean).
  GIVEN WITH THE SEED: the statements are not yours to turn. If you find one false, say at which input.
  Laid BY PROGRAM, IN A SANDBOX (cutbox-rows.mjs): the forced cells as the released guide's own fill.sh prints them over the translation 3a69b62737445d8f… (all of the seat's roots in one cut). By AI agents, Wed Nov 11 2026. No macro, syntax, notation, axiom, sorry.
-/
import Derived.Test.YtlchnpmfgblegaaChecked
import GoSem.Claim
import GoSem.ClaimJoined
import GoSem.ClaimMapViews
import Derived.JoinedTies
import Derived.KernelRfl
namespace Go.Proofs.Ytlchnpmfgblegaa
/- THE CELL 'sum', in the pinned program and in every row, IS THE sha256 OF THE DUMP (.gsa) THAT YtlchnpmfgblegaaProg.lean LOADS. Nothing in Lean hashes anything: it is a label: what it is worth is what the hold of that sum in a sandbox is worth. -/
noncomputable def Try.pinned : Pinned := { name := "ytlchnpmfgblegaa", sum := "3a69b62737445d8f70cc8f7afea5a3b6f80f5f501144ee9926fdd24018946009", checked := Try.checked }
namespace Rows
def none {H : Type} : Left H := { results := [], args := [] }

/-- 'petasoslaw14.DensityWhole': WHATEVER THE INPUT: true; the input reads as it did. -/
def densityWholeSpec : ChangeSpec := { name := "densityWhole", fn := fun _ => fun
  | [d1, d2] => { results := [.lit (.bool true)], args := [d1, d2] }
  | _ => none }
def densityWholeRow : OpenClaim := { program := "ytlchnpmfgblegaa", sum := "3a69b62737445d8f70cc8f7afea5a3b6f80f5f501144ee9926fdd24018946009", func := "petasos/petasoslaw14.DensityWhole", spec := "densityWhole", apart := false }
def DensityWholeSaid : Prop := densityWholeRow.holds Try.pinned (OpenSpec.ofChange densityWholeSpec)

/-- ITS FALSE NEIGHBOUR: 'it returns false'. Refute it at one input. -/
def densityWholeWrong : ChangeSpec := { name := "densityWhole", fn := fun _ => fun
  | [d1, d2] => { results := [.lit (.bool false)], args := [d1, d2] }
  | _ => none }
def DensityWholeWrongFalsely : Prop := densityWholeRow.holds Try.pinned (OpenSpec.ofChange densityWholeWrong)

/-- 'petasoslaw14.DensitySplits': WHATEVER THE INPUT: true; the input reads as it did. -/
def densitySplitsSpec : ChangeSpec := { name := "densitySplits", fn := fun _ => fun
  | [d1, d2, d3] => { results := [.lit (.bool true)], args := [d1, d2, d3] }
  | _ => none }
def densitySplitsRow : OpenClaim := { program := "ytlchnpmfgblegaa", sum := "3a69b62737445d8f70cc8f7afea5a3b6f80f5f501144ee9926fdd24018946009", func := "petasos/petasoslaw14.DensitySplits", spec := "densitySplits", apart := false }
def DensitySplitsSaid : Prop := densitySplitsRow.holds Try.pinned (OpenSpec.ofChange densitySplitsSpec)

/-- ITS FALSE NEIGHBOUR: 'it returns false'. Refute it at one input. -/
def densitySplitsWrong : ChangeSpec := { name := "densitySplits", fn := fun _ => fun
  | [d1, d2, d3] => { results := [.lit (.bool false)], args := [d1, d2, d3] }
  | _ => none }
def DensitySplitsWrongFalsely : Prop := densitySplitsRow.holds Try.pinned (OpenSpec.ofChange densitySplitsWrong)

/-- 'petasoslaw14.DensityCounts': WHATEVER THE INPUT: true; the input reads as it did. -/
def densityCountsSpec : ChangeSpec := { name := "densityCounts", fn := fun _ => fun
  | [d1, d2, d3] => { results := [.lit (.bool true)], args := [d1, d2, d3] }
  | _ => none }
def densityCountsRow : OpenClaim := { program := "ytlchnpmfgblegaa", sum := "3a69b62737445d8f70cc8f7afea5a3b6f80f5f501144ee9926fdd24018946009", func := "petasos/petasoslaw14.DensityCounts", spec := "densityCounts", apart := false }
def DensityCountsSaid : Prop := densityCountsRow.holds Try.pinned (OpenSpec.ofChange densityCountsSpec)

/-- ITS FALSE NEIGHBOUR: 'it returns false'. Refute it at one input. -/
def densityCountsWrong : ChangeSpec := { name := "densityCounts", fn := fun _ => fun
  | [d1, d2, d3] => { results := [.lit (.bool false)], args := [d1, d2, d3] }
  | _ => none }
def DensityCountsWrongFalsely : Prop := densityCountsRow.holds Try.pinned (OpenSpec.ofChange densityCountsWrong)

/-- 'petasoslaw14.DensityAdds': WHATEVER THE INPUT: true; the input reads as it did. -/
def densityAddsSpec : ChangeSpec := { name := "densityAdds", fn := fun _ => fun
  | [d1, d2, d3, d4] => { results := [.lit (.bool true)], args := [d1, d2, d3, d4] }
  | _ => none }
def densityAddsRow : OpenClaim := { program := "ytlchnpmfgblegaa", sum := "3a69b62737445d8f70cc8f7afea5a3b6f80f5f501144ee9926fdd24018946009", func := "petasos/petasoslaw14.DensityAdds", spec := "densityAdds", apart := false }
def DensityAddsSaid : Prop := densityAddsRow.holds Try.pinned (OpenSpec.ofChange densityAddsSpec)

/-- ITS FALSE NEIGHBOUR: 'it returns false'. Refute it at one input. -/
def densityAddsWrong : ChangeSpec := { name := "densityAdds", fn := fun _ => fun
  | [d1, d2, d3, d4] => { results := [.lit (.bool false)], args := [d1, d2, d3, d4] }
  | _ => none }
def DensityAddsWrongFalsely : Prop := densityAddsRow.holds Try.pinned (OpenSpec.ofChange densityAddsWrong)

/-- 'petasoslaw15.EstimateGrows': WHATEVER THE INPUT: true; the input reads as it did. -/
def estimateGrowsSpec : ChangeSpec := { name := "estimateGrows", fn := fun _ => fun
  | [d1, d2, d3, d4] => { results := [.lit (.bool true)], args := [d1, d2, d3, d4] }
  | _ => none }
def estimateGrowsRow : OpenClaim := { program := "ytlchnpmfgblegaa", sum := "3a69b62737445d8f70cc8f7afea5a3b6f80f5f501144ee9926fdd24018946009", func := "petasos/petasoslaw15.EstimateGrows", spec := "estimateGrows", apart := false }
def EstimateGrowsSaid : Prop := estimateGrowsRow.holds Try.pinned (OpenSpec.ofChange estimateGrowsSpec)

/-- ITS FALSE NEIGHBOUR: 'it returns false'. Refute it at one input. -/
def estimateGrowsWrong : ChangeSpec := { name := "estimateGrows", fn := fun _ => fun
  | [d1, d2, d3, d4] => { results := [.lit (.bool false)], args := [d1, d2, d3, d4] }
  | _ => none }
def EstimateGrowsWrongFalsely : Prop := estimateGrowsRow.holds Try.pinned (OpenSpec.ofChange estimateGrowsWrong)

/-- 'petasoslaw15.EstimateEven': WHATEVER THE INPUT: true; the input reads as it did. -/
def estimateEvenSpec : ChangeSpec := { name := "estimateEven", fn := fun _ => fun
  | [d1, d2, d3] => { results := [.lit (.bool true)], args := [d1, d2, d3] }
  | _ => none }
def estimateEvenRow : OpenClaim := { program := "ytlchnpmfgblegaa", sum := "3a69b62737445d8f70cc8f7afea5a3b6f80f5f501144ee9926fdd24018946009", func := "petasos/petasoslaw15.EstimateEven", spec := "estimateEven", apart := false }
def EstimateEvenSaid : Prop := estimateEvenRow.holds Try.pinned (OpenSpec.ofChange estimateEvenSpec)

/-- ITS FALSE NEIGHBOUR: 'it returns false'. Refute it at one input. -/
def estimateEvenWrong : ChangeSpec := { name := "estimateEven", fn := fun _ => fun
  | [d1, d2, d3] => { results := [.lit (.bool false)], args := [d1, d2, d3] }
  | _ => none }
def EstimateEvenWrongFalsely : Prop := estimateEvenRow.holds Try.pinned (OpenSpec.ofChange estimateEvenWrong)

/-- 'petasoslaw14.DensityTells': WHATEVER THE INPUT: true; the input reads as it did. -/
def densityTellsSpec : ChangeSpec := { name := "densityTells", fn := fun _ => fun
  | [d1, d2, d3, d4, d5, d6] => { results := [.lit (.bool true)], args := [d1, d2, d3, d4, d5, d6] }
  | _ => none }
def densityTellsRow : OpenClaim := { program := "ytlchnpmfgblegaa", sum := "3a69b62737445d8f70cc8f7afea5a3b6f80f5f501144ee9926fdd24018946009", func := "petasos/petasoslaw14.DensityTells", spec := "densityTells", unfollowed := true, recurses := true, apart := false }
def DensityTellsSaid : Prop := densityTellsRow.holds Try.pinned (OpenSpec.ofChange densityTellsSpec)

/-- ITS FALSE NEIGHBOUR: 'it returns false'. Refute it at one input. -/
def densityTellsWrong : ChangeSpec := { name := "densityTells", fn := fun _ => fun
  | [d1, d2, d3, d4, d5, d6] => { results := [.lit (.bool false)], args := [d1, d2, d3, d4, d5, d6] }
  | _ => none }
def DensityTellsWrongFalsely : Prop := densityTellsRow.holds Try.pinned (OpenSpec.ofChange densityTellsWrong)

/-- 'petasoslaw15.EstimateTells': WHATEVER THE INPUT: true; the input reads as it did. -/
def estimateTellsSpec : ChangeSpec := { name := "estimateTells", fn := fun _ => fun
  | [d1, d2, d3, d4] => { results := [.lit (.bool true)], args := [d1, d2, d3, d4] }
  | _ => none }
def estimateTellsRow : OpenClaim := { program := "ytlchnpmfgblegaa", sum := "3a69b62737445d8f70cc8f7afea5a3b6f80f5f501144ee9926fdd24018946009", func := "petasos/petasoslaw15.EstimateTells", spec := "estimateTells", unfollowed := true, recurses := true, apart := false }
def EstimateTellsSaid : Prop := estimateTellsRow.holds Try.pinned (OpenSpec.ofChange estimateTellsSpec)

/-- ITS FALSE NEIGHBOUR: 'it returns false'. Refute it at one input. -/
def estimateTellsWrong : ChangeSpec := { name := "estimateTells", fn := fun _ => fun
  | [d1, d2, d3, d4] => { results := [.lit (.bool false)], args := [d1, d2, d3, d4] }
  | _ => none }
def EstimateTellsWrongFalsely : Prop := estimateTellsRow.holds Try.pinned (OpenSpec.ofChange estimateTellsWrong)

/-- 'petasoslaw15.EstimateBest': WHATEVER THE INPUT: true; the input reads as it did. -/
def estimateBestSpec : ChangeSpec := { name := "estimateBest", fn := fun _ => fun
  | [d1, d2] => { results := [.lit (.bool true)], args := [d1, d2] }
  | _ => none }
def estimateBestRow : OpenClaim := { program := "ytlchnpmfgblegaa", sum := "3a69b62737445d8f70cc8f7afea5a3b6f80f5f501144ee9926fdd24018946009", func := "petasos/petasoslaw15.EstimateBest", spec := "estimateBest", unfollowed := true, recurses := true, apart := false }
def EstimateBestSaid : Prop := estimateBestRow.holds Try.pinned (OpenSpec.ofChange estimateBestSpec)

/-- ITS FALSE NEIGHBOUR: 'it returns false'. Refute it at one input. -/
def estimateBestWrong : ChangeSpec := { name := "estimateBest", fn := fun _ => fun
  | [d1, d2] => { results := [.lit (.bool false)], args := [d1, d2] }
  | _ => none }
def EstimateBestWrongFalsely : Prop := estimateBestRow.holds Try.pinned (OpenSpec.ofChange estimateBestWrong)

/- THE SECOND FORM. 'bulk': how many values and letters a reading holds, each counted each time it is reached (what is shared counts as often as it is met; a slice's spare places count too). A statement '..UptoSaid' is the law's where the arguments, and the package variables that the reading takes, are together of bulk at most 1048576: NARROWER than '..Said'. Prove '..Said' where nothing that the law and all that it calls make is longer than what came in: it says more and counts as full. Else prove '..UptoSaid'. A law counts once. -/
mutual
def uptoBulk {H : Type} : DataW H → Nat
  | .lit (.string bytes) => bytes.length + 1
  | .lit _ => 1
  | .nil => 1
  | .ptr d => uptoBulk d + 1
  | .slice elems spare => uptoBulkAll elems + uptoBulkAll spare + 1
  | .agg parts => uptoBulkAll parts + 1
  | .iface _ d => uptoBulk d + 1
  | .map entries => uptoBulkEntries entries + 1
  | .held _ => 1
def uptoBulkAll {H : Type} : List (DataW H) → Nat
  | [] => 0
  | d :: r => uptoBulk d + uptoBulkAll r
def uptoBulkEntries {H : Type} : List (Lit × DataW H) → Nat
  | [] => 0
  | x :: r => uptoBulkEntry x + uptoBulkEntries r
def uptoBulkEntry {H : Type} : Lit × DataW H → Nat
  | (.string bytes, d) => bytes.length + uptoBulk d + 1
  | (_, d) => uptoBulk d + 1
 end
def uptoSmall : (H : Type) → List (DataW H) → Bool := fun _ ds => decide (uptoBulkAll ds ≤ 1048576)
def OpenSpec.upto (s : _root_.Go.ChangeSpec) : _root_.Go.OpenSpec := { _root_.Go.OpenSpec.ofChange s with cond := some uptoSmall }

/-- 'petasoslaw14.DensityWhole', WHERE WHAT IT READS IS OF BULK AT MOST 1048576: true; the input reads as it did. -/
def densityWholeUptoRow : OpenClaim := { program := "ytlchnpmfgblegaa", sum := "3a69b62737445d8f70cc8f7afea5a3b6f80f5f501144ee9926fdd24018946009", func := "petasos/petasoslaw14.DensityWhole", spec := "densityWhole", apart := false, narrowed := true }
def DensityWholeUptoSaid : Prop := densityWholeUptoRow.holds Try.pinned (OpenSpec.upto densityWholeSpec)

/-- 'petasoslaw14.DensitySplits', WHERE WHAT IT READS IS OF BULK AT MOST 1048576: true; the input reads as it did. -/
def densitySplitsUptoRow : OpenClaim := { program := "ytlchnpmfgblegaa", sum := "3a69b62737445d8f70cc8f7afea5a3b6f80f5f501144ee9926fdd24018946009", func := "petasos/petasoslaw14.DensitySplits", spec := "densitySplits", apart := false, narrowed := true }
def DensitySplitsUptoSaid : Prop := densitySplitsUptoRow.holds Try.pinned (OpenSpec.upto densitySplitsSpec)

/-- 'petasoslaw14.DensityCounts', WHERE WHAT IT READS IS OF BULK AT MOST 1048576: true; the input reads as it did. -/
def densityCountsUptoRow : OpenClaim := { program := "ytlchnpmfgblegaa", sum := "3a69b62737445d8f70cc8f7afea5a3b6f80f5f501144ee9926fdd24018946009", func := "petasos/petasoslaw14.DensityCounts", spec := "densityCounts", apart := false, narrowed := true }
def DensityCountsUptoSaid : Prop := densityCountsUptoRow.holds Try.pinned (OpenSpec.upto densityCountsSpec)

/-- 'petasoslaw14.DensityAdds', WHERE WHAT IT READS IS OF BULK AT MOST 1048576: true; the input reads as it did. -/
def densityAddsUptoRow : OpenClaim := { program := "ytlchnpmfgblegaa", sum := "3a69b62737445d8f70cc8f7afea5a3b6f80f5f501144ee9926fdd24018946009", func := "petasos/petasoslaw14.DensityAdds", spec := "densityAdds", apart := false, narrowed := true }
def DensityAddsUptoSaid : Prop := densityAddsUptoRow.holds Try.pinned (OpenSpec.upto densityAddsSpec)

/-- 'petasoslaw15.EstimateGrows', WHERE WHAT IT READS IS OF BULK AT MOST 1048576: true; the input reads as it did. -/
def estimateGrowsUptoRow : OpenClaim := { program := "ytlchnpmfgblegaa", sum := "3a69b62737445d8f70cc8f7afea5a3b6f80f5f501144ee9926fdd24018946009", func := "petasos/petasoslaw15.EstimateGrows", spec := "estimateGrows", apart := false, narrowed := true }
def EstimateGrowsUptoSaid : Prop := estimateGrowsUptoRow.holds Try.pinned (OpenSpec.upto estimateGrowsSpec)

/-- 'petasoslaw15.EstimateEven', WHERE WHAT IT READS IS OF BULK AT MOST 1048576: true; the input reads as it did. -/
def estimateEvenUptoRow : OpenClaim := { program := "ytlchnpmfgblegaa", sum := "3a69b62737445d8f70cc8f7afea5a3b6f80f5f501144ee9926fdd24018946009", func := "petasos/petasoslaw15.EstimateEven", spec := "estimateEven", apart := false, narrowed := true }
def EstimateEvenUptoSaid : Prop := estimateEvenUptoRow.holds Try.pinned (OpenSpec.upto estimateEvenSpec)

/-- 'petasoslaw14.DensityTells', WHERE WHAT IT READS IS OF BULK AT MOST 1048576: true; the input reads as it did. -/
def densityTellsUptoRow : OpenClaim := { program := "ytlchnpmfgblegaa", sum := "3a69b62737445d8f70cc8f7afea5a3b6f80f5f501144ee9926fdd24018946009", func := "petasos/petasoslaw14.DensityTells", spec := "densityTells", unfollowed := true, recurses := true, apart := false, narrowed := true }
def DensityTellsUptoSaid : Prop := densityTellsUptoRow.holds Try.pinned (OpenSpec.upto densityTellsSpec)

/-- 'petasoslaw15.EstimateTells', WHERE WHAT IT READS IS OF BULK AT MOST 1048576: true; the input reads as it did. -/
def estimateTellsUptoRow : OpenClaim := { program := "ytlchnpmfgblegaa", sum := "3a69b62737445d8f70cc8f7afea5a3b6f80f5f501144ee9926fdd24018946009", func := "petasos/petasoslaw15.EstimateTells", spec := "estimateTells", unfollowed := true, recurses := true, apart := false, narrowed := true }
def EstimateTellsUptoSaid : Prop := estimateTellsUptoRow.holds Try.pinned (OpenSpec.upto estimateTellsSpec)

/-- 'petasoslaw15.EstimateBest', WHERE WHAT IT READS IS OF BULK AT MOST 1048576: true; the input reads as it did. -/
def estimateBestUptoRow : OpenClaim := { program := "ytlchnpmfgblegaa", sum := "3a69b62737445d8f70cc8f7afea5a3b6f80f5f501144ee9926fdd24018946009", func := "petasos/petasoslaw15.EstimateBest", spec := "estimateBest", unfollowed := true, recurses := true, apart := false, narrowed := true }
def EstimateBestUptoSaid : Prop := estimateBestUptoRow.holds Try.pinned (OpenSpec.upto estimateBestSpec)

end Rows
end Go.Proofs.Ytlchnpmfgblegaa
