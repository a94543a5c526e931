/-
  No cell of these rows narrows 'for every input' (looked for: loops, veiled, ifaces, maps, wideKeys, modest, calm, conditions, laid).
  DERIVED. THE GIVEN ROWS OF THIS SEAT. 10 by the template 'for every input the law returns true; each argument reads behind the call as it read before'; 0 by the template 'total and deterministic' (their statements: YtkjknpibcbpdfaaTotals.lean).
  GIVEN WITH THE SEED: the statements are not yours to turn. If you find one false, say at which input.
  Laid BY PROGRAM, IN A SANDBOX (cutbox-rows.mjs): the forced cells as the released guide's own fill.sh prints them over the translation a766059a7c445e9f… (all of the seat's roots in one cut). By AI agents, Wed Nov 11 2026. No macro, syntax, notation, axiom, sorry.
-/
import Derived.Test.YtkjknpibcbpdfaaChecked
import GoSem.Claim
import GoSem.ClaimJoined
import GoSem.ClaimMapViews
import Derived.JoinedTies
import Derived.KernelRfl
namespace Go.Proofs.Ytkjknpibcbpdfaa
/- THE CELL 'sum', in the pinned program and in every row, IS THE sha256 OF THE DUMP (.gsa) THAT YtkjknpibcbpdfaaProg.lean LOADS. Nothing in Lean hashes anything: it is a label: what it is worth is what the hold of that sum in a sandbox is worth. -/
noncomputable def Try.pinned : Pinned := { name := "ytkjknpibcbpdfaa", sum := "a766059a7c445e9f1eedb88958d1b478361202d1ace1dec741ba3568a45898bb", checked := Try.checked }
namespace Rows
def none {H : Type} : Left H := { results := [], args := [] }

/-- 'privitylaw06.MatrixRankAndDeterminant': WHATEVER THE INPUT: true; the input reads as it did. -/
def matrixRankAndDeterminantSpec : ChangeSpec := { name := "matrixRankAndDeterminant", fn := fun _ => fun
  | [d1, d2] => { results := [.lit (.bool true)], args := [d1, d2] }
  | _ => none }
def matrixRankAndDeterminantRow : OpenClaim := { program := "ytkjknpibcbpdfaa", sum := "a766059a7c445e9f1eedb88958d1b478361202d1ace1dec741ba3568a45898bb", func := "privity/privitylaw06.MatrixRankAndDeterminant", spec := "matrixRankAndDeterminant", inPlace := ["math/bits.Add64"], unfollowed := true, recurses := true, apart := false }
def MatrixRankAndDeterminantSaid : Prop := matrixRankAndDeterminantRow.holds Try.pinned (OpenSpec.ofChange matrixRankAndDeterminantSpec)

/-- ITS FALSE NEIGHBOUR: 'it returns false'. Refute it at one input. -/
def matrixRankAndDeterminantWrong : ChangeSpec := { name := "matrixRankAndDeterminant", fn := fun _ => fun
  | [d1, d2] => { results := [.lit (.bool false)], args := [d1, d2] }
  | _ => none }
def MatrixRankAndDeterminantWrongFalsely : Prop := matrixRankAndDeterminantRow.holds Try.pinned (OpenSpec.ofChange matrixRankAndDeterminantWrong)

/-- 'privitylaw06.MatrixSolve': WHATEVER THE INPUT: true; the input reads as it did. -/
def matrixSolveSpec : ChangeSpec := { name := "matrixSolve", fn := fun _ => fun
  | [d1, d2, d3] => { results := [.lit (.bool true)], args := [d1, d2, d3] }
  | _ => none }
def matrixSolveRow : OpenClaim := { program := "ytkjknpibcbpdfaa", sum := "a766059a7c445e9f1eedb88958d1b478361202d1ace1dec741ba3568a45898bb", func := "privity/privitylaw06.MatrixSolve", spec := "matrixSolve", inPlace := ["math/bits.Add64"], unfollowed := true, recurses := true, apart := false }
def MatrixSolveSaid : Prop := matrixSolveRow.holds Try.pinned (OpenSpec.ofChange matrixSolveSpec)

/-- ITS FALSE NEIGHBOUR: 'it returns false'. Refute it at one input. -/
def matrixSolveWrong : ChangeSpec := { name := "matrixSolve", fn := fun _ => fun
  | [d1, d2, d3] => { results := [.lit (.bool false)], args := [d1, d2, d3] }
  | _ => none }
def MatrixSolveWrongFalsely : Prop := matrixSolveRow.holds Try.pinned (OpenSpec.ofChange matrixSolveWrong)

/-- 'privitylaw06.MatrixProduct': WHATEVER THE INPUT: true; the input reads as it did. -/
def matrixProductSpec : ChangeSpec := { name := "matrixProduct", fn := fun _ => fun
  | [d] => { results := [.lit (.bool true)], args := [d] }
  | _ => none }
def matrixProductRow : OpenClaim := { program := "ytkjknpibcbpdfaa", sum := "a766059a7c445e9f1eedb88958d1b478361202d1ace1dec741ba3568a45898bb", func := "privity/privitylaw06.MatrixProduct", spec := "matrixProduct", inPlace := ["math/bits.Add64"], unfollowed := true, recurses := true, apart := false }
def MatrixProductSaid : Prop := matrixProductRow.holds Try.pinned (OpenSpec.ofChange matrixProductSpec)

/-- ITS FALSE NEIGHBOUR: 'it returns false'. Refute it at one input. -/
def matrixProductWrong : ChangeSpec := { name := "matrixProduct", fn := fun _ => fun
  | [d] => { results := [.lit (.bool false)], args := [d] }
  | _ => none }
def MatrixProductWrongFalsely : Prop := matrixProductRow.holds Try.pinned (OpenSpec.ofChange matrixProductWrong)

/-- 'privitylaw06.MatrixUnsolvableWitness': WHATEVER THE INPUT: true; the input reads as it did. -/
def matrixUnsolvableWitnessSpec : ChangeSpec := { name := "matrixUnsolvableWitness", fn := fun _ => fun
  | [d1, d2, d3] => { results := [.lit (.bool true)], args := [d1, d2, d3] }
  | _ => none }
def matrixUnsolvableWitnessRow : OpenClaim := { program := "ytkjknpibcbpdfaa", sum := "a766059a7c445e9f1eedb88958d1b478361202d1ace1dec741ba3568a45898bb", func := "privity/privitylaw06.MatrixUnsolvableWitness", spec := "matrixUnsolvableWitness", inPlace := ["math/bits.Add64"], unfollowed := true, recurses := true, apart := false }
def MatrixUnsolvableWitnessSaid : Prop := matrixUnsolvableWitnessRow.holds Try.pinned (OpenSpec.ofChange matrixUnsolvableWitnessSpec)

/-- ITS FALSE NEIGHBOUR: 'it returns false'. Refute it at one input. -/
def matrixUnsolvableWitnessWrong : ChangeSpec := { name := "matrixUnsolvableWitness", fn := fun _ => fun
  | [d1, d2, d3] => { results := [.lit (.bool false)], args := [d1, d2, d3] }
  | _ => none }
def MatrixUnsolvableWitnessWrongFalsely : Prop := matrixUnsolvableWitnessRow.holds Try.pinned (OpenSpec.ofChange matrixUnsolvableWitnessWrong)

/-- 'privitylaw08.ReedsolomonDecode': WHATEVER THE INPUT: true; the input reads as it did. -/
def reedsolomonDecodeSpec : ChangeSpec := { name := "reedsolomonDecode", fn := fun _ => fun
  | [d] => { results := [.lit (.bool true)], args := [d] }
  | _ => none }
def reedsolomonDecodeRow : OpenClaim := { program := "ytkjknpibcbpdfaa", sum := "a766059a7c445e9f1eedb88958d1b478361202d1ace1dec741ba3568a45898bb", func := "privity/privitylaw08.ReedsolomonDecode", spec := "reedsolomonDecode", inPlace := ["math/bits.Add64"], unfollowed := true, recurses := true, apart := false }
def ReedsolomonDecodeSaid : Prop := reedsolomonDecodeRow.holds Try.pinned (OpenSpec.ofChange reedsolomonDecodeSpec)

/-- ITS FALSE NEIGHBOUR: 'it returns false'. Refute it at one input. -/
def reedsolomonDecodeWrong : ChangeSpec := { name := "reedsolomonDecode", fn := fun _ => fun
  | [d] => { results := [.lit (.bool false)], args := [d] }
  | _ => none }
def ReedsolomonDecodeWrongFalsely : Prop := reedsolomonDecodeRow.holds Try.pinned (OpenSpec.ofChange reedsolomonDecodeWrong)

/-- 'privitylaw08.ReedsolomonErrorPositions': WHATEVER THE INPUT: true; the input reads as it did. -/
def reedsolomonErrorPositionsSpec : ChangeSpec := { name := "reedsolomonErrorPositions", fn := fun _ => fun
  | [d1, d2] => { results := [.lit (.bool true)], args := [d1, d2] }
  | _ => none }
def reedsolomonErrorPositionsRow : OpenClaim := { program := "ytkjknpibcbpdfaa", sum := "a766059a7c445e9f1eedb88958d1b478361202d1ace1dec741ba3568a45898bb", func := "privity/privitylaw08.ReedsolomonErrorPositions", spec := "reedsolomonErrorPositions", inPlace := ["math/bits.Add64"], unfollowed := true, recurses := true, apart := false }
def ReedsolomonErrorPositionsSaid : Prop := reedsolomonErrorPositionsRow.holds Try.pinned (OpenSpec.ofChange reedsolomonErrorPositionsSpec)

/-- ITS FALSE NEIGHBOUR: 'it returns false'. Refute it at one input. -/
def reedsolomonErrorPositionsWrong : ChangeSpec := { name := "reedsolomonErrorPositions", fn := fun _ => fun
  | [d1, d2] => { results := [.lit (.bool false)], args := [d1, d2] }
  | _ => none }
def ReedsolomonErrorPositionsWrongFalsely : Prop := reedsolomonErrorPositionsRow.holds Try.pinned (OpenSpec.ofChange reedsolomonErrorPositionsWrong)

/-- 'privitylaw08.ReedsolomonCorrects': WHATEVER THE INPUT: true; the input reads as it did. -/
def reedsolomonCorrectsSpec : ChangeSpec := { name := "reedsolomonCorrects", fn := fun _ => fun
  | [d1, d2] => { results := [.lit (.bool true)], args := [d1, d2] }
  | _ => none }
def reedsolomonCorrectsRow : OpenClaim := { program := "ytkjknpibcbpdfaa", sum := "a766059a7c445e9f1eedb88958d1b478361202d1ace1dec741ba3568a45898bb", func := "privity/privitylaw08.ReedsolomonCorrects", spec := "reedsolomonCorrects", inPlace := ["math/bits.Add64"], unfollowed := true, recurses := true, apart := false }
def ReedsolomonCorrectsSaid : Prop := reedsolomonCorrectsRow.holds Try.pinned (OpenSpec.ofChange reedsolomonCorrectsSpec)

/-- ITS FALSE NEIGHBOUR: 'it returns false'. Refute it at one input. -/
def reedsolomonCorrectsWrong : ChangeSpec := { name := "reedsolomonCorrects", fn := fun _ => fun
  | [d1, d2] => { results := [.lit (.bool false)], args := [d1, d2] }
  | _ => none }
def ReedsolomonCorrectsWrongFalsely : Prop := reedsolomonCorrectsRow.holds Try.pinned (OpenSpec.ofChange reedsolomonCorrectsWrong)

/-- 'privitylaw08.ReedsolomonUnique': WHATEVER THE INPUT: true; the input reads as it did. -/
def reedsolomonUniqueSpec : ChangeSpec := { name := "reedsolomonUnique", fn := fun _ => fun
  | [d1, d2] => { results := [.lit (.bool true)], args := [d1, d2] }
  | _ => none }
def reedsolomonUniqueRow : OpenClaim := { program := "ytkjknpibcbpdfaa", sum := "a766059a7c445e9f1eedb88958d1b478361202d1ace1dec741ba3568a45898bb", func := "privity/privitylaw08.ReedsolomonUnique", spec := "reedsolomonUnique", inPlace := ["math/bits.Add64"], unfollowed := true, recurses := true, apart := false }
def ReedsolomonUniqueSaid : Prop := reedsolomonUniqueRow.holds Try.pinned (OpenSpec.ofChange reedsolomonUniqueSpec)

/-- ITS FALSE NEIGHBOUR: 'it returns false'. Refute it at one input. -/
def reedsolomonUniqueWrong : ChangeSpec := { name := "reedsolomonUnique", fn := fun _ => fun
  | [d1, d2] => { results := [.lit (.bool false)], args := [d1, d2] }
  | _ => none }
def ReedsolomonUniqueWrongFalsely : Prop := reedsolomonUniqueRow.holds Try.pinned (OpenSpec.ofChange reedsolomonUniqueWrong)

/-- 'privitylaw08.ReedsolomonErrorBound': WHATEVER THE INPUT: true; the input reads as it did. -/
def reedsolomonErrorBoundSpec : ChangeSpec := { name := "reedsolomonErrorBound", fn := fun _ => fun
  | [d] => { results := [.lit (.bool true)], args := [d] }
  | _ => none }
def reedsolomonErrorBoundRow : OpenClaim := { program := "ytkjknpibcbpdfaa", sum := "a766059a7c445e9f1eedb88958d1b478361202d1ace1dec741ba3568a45898bb", func := "privity/privitylaw08.ReedsolomonErrorBound", spec := "reedsolomonErrorBound", inPlace := ["math/bits.Add64"], unfollowed := true, recurses := true, apart := false }
def ReedsolomonErrorBoundSaid : Prop := reedsolomonErrorBoundRow.holds Try.pinned (OpenSpec.ofChange reedsolomonErrorBoundSpec)

/-- ITS FALSE NEIGHBOUR: 'it returns false'. Refute it at one input. -/
def reedsolomonErrorBoundWrong : ChangeSpec := { name := "reedsolomonErrorBound", fn := fun _ => fun
  | [d] => { results := [.lit (.bool false)], args := [d] }
  | _ => none }
def ReedsolomonErrorBoundWrongFalsely : Prop := reedsolomonErrorBoundRow.holds Try.pinned (OpenSpec.ofChange reedsolomonErrorBoundWrong)

/-- 'privitylaw08.ReedsolomonLinear': WHATEVER THE INPUT: true; the input reads as it did. -/
def reedsolomonLinearSpec : ChangeSpec := { name := "reedsolomonLinear", fn := fun _ => fun
  | [d1, d2] => { results := [.lit (.bool true)], args := [d1, d2] }
  | _ => none }
def reedsolomonLinearRow : OpenClaim := { program := "ytkjknpibcbpdfaa", sum := "a766059a7c445e9f1eedb88958d1b478361202d1ace1dec741ba3568a45898bb", func := "privity/privitylaw08.ReedsolomonLinear", spec := "reedsolomonLinear", inPlace := ["math/bits.Add64"], unfollowed := true, recurses := true, apart := false }
def ReedsolomonLinearSaid : Prop := reedsolomonLinearRow.holds Try.pinned (OpenSpec.ofChange reedsolomonLinearSpec)

/-- ITS FALSE NEIGHBOUR: 'it returns false'. Refute it at one input. -/
def reedsolomonLinearWrong : ChangeSpec := { name := "reedsolomonLinear", fn := fun _ => fun
  | [d1, d2] => { results := [.lit (.bool false)], args := [d1, d2] }
  | _ => none }
def ReedsolomonLinearWrongFalsely : Prop := reedsolomonLinearRow.holds Try.pinned (OpenSpec.ofChange reedsolomonLinearWrong)

/- THE SECOND FORM. 'bulk': how many values and letters a reading holds, each counted each time it is reached (what is shared counts as often as it is met; a slice's spare places count too). A statement '..UptoSaid' is the law's where the arguments, and the package variables that the reading takes, are together of bulk at most 1048576: NARROWER than '..Said'. Prove '..Said' where nothing that the law and all that it calls make is longer than what came in: it says more and counts as full. Else prove '..UptoSaid'. A law counts once. -/
mutual
def uptoBulk {H : Type} : DataW H → Nat
  | .lit (.string bytes) => bytes.length + 1
  | .lit _ => 1
  | .nil => 1
  | .ptr d => uptoBulk d + 1
  | .slice elems spare => uptoBulkAll elems + uptoBulkAll spare + 1
  | .agg parts => uptoBulkAll parts + 1
  | .iface _ d => uptoBulk d + 1
  | .map entries => uptoBulkEntries entries + 1
  | .held _ => 1
def uptoBulkAll {H : Type} : List (DataW H) → Nat
  | [] => 0
  | d :: r => uptoBulk d + uptoBulkAll r
def uptoBulkEntries {H : Type} : List (Lit × DataW H) → Nat
  | [] => 0
  | x :: r => uptoBulkEntry x + uptoBulkEntries r
def uptoBulkEntry {H : Type} : Lit × DataW H → Nat
  | (.string bytes, d) => bytes.length + uptoBulk d + 1
  | (_, d) => uptoBulk d + 1
 end
def uptoSmall : (H : Type) → List (DataW H) → Bool := fun _ ds => decide (uptoBulkAll ds ≤ 1048576)
def OpenSpec.upto (s : _root_.Go.ChangeSpec) : _root_.Go.OpenSpec := { _root_.Go.OpenSpec.ofChange s with cond := some uptoSmall }

/-- 'privitylaw06.MatrixRankAndDeterminant', WHERE WHAT IT READS IS OF BULK AT MOST 1048576: true; the input reads as it did. -/
def matrixRankAndDeterminantUptoRow : OpenClaim := { program := "ytkjknpibcbpdfaa", sum := "a766059a7c445e9f1eedb88958d1b478361202d1ace1dec741ba3568a45898bb", func := "privity/privitylaw06.MatrixRankAndDeterminant", spec := "matrixRankAndDeterminant", inPlace := ["math/bits.Add64"], unfollowed := true, recurses := true, apart := false, narrowed := true }
def MatrixRankAndDeterminantUptoSaid : Prop := matrixRankAndDeterminantUptoRow.holds Try.pinned (OpenSpec.upto matrixRankAndDeterminantSpec)

/-- 'privitylaw06.MatrixSolve', WHERE WHAT IT READS IS OF BULK AT MOST 1048576: true; the input reads as it did. -/
def matrixSolveUptoRow : OpenClaim := { program := "ytkjknpibcbpdfaa", sum := "a766059a7c445e9f1eedb88958d1b478361202d1ace1dec741ba3568a45898bb", func := "privity/privitylaw06.MatrixSolve", spec := "matrixSolve", inPlace := ["math/bits.Add64"], unfollowed := true, recurses := true, apart := false, narrowed := true }
def MatrixSolveUptoSaid : Prop := matrixSolveUptoRow.holds Try.pinned (OpenSpec.upto matrixSolveSpec)

/-- 'privitylaw06.MatrixProduct', WHERE WHAT IT READS IS OF BULK AT MOST 1048576: true; the input reads as it did. -/
def matrixProductUptoRow : OpenClaim := { program := "ytkjknpibcbpdfaa", sum := "a766059a7c445e9f1eedb88958d1b478361202d1ace1dec741ba3568a45898bb", func := "privity/privitylaw06.MatrixProduct", spec := "matrixProduct", inPlace := ["math/bits.Add64"], unfollowed := true, recurses := true, apart := false, narrowed := true }
def MatrixProductUptoSaid : Prop := matrixProductUptoRow.holds Try.pinned (OpenSpec.upto matrixProductSpec)

/-- 'privitylaw06.MatrixUnsolvableWitness', WHERE WHAT IT READS IS OF BULK AT MOST 1048576: true; the input reads as it did. -/
def matrixUnsolvableWitnessUptoRow : OpenClaim := { program := "ytkjknpibcbpdfaa", sum := "a766059a7c445e9f1eedb88958d1b478361202d1ace1dec741ba3568a45898bb", func := "privity/privitylaw06.MatrixUnsolvableWitness", spec := "matrixUnsolvableWitness", inPlace := ["math/bits.Add64"], unfollowed := true, recurses := true, apart := false, narrowed := true }
def MatrixUnsolvableWitnessUptoSaid : Prop := matrixUnsolvableWitnessUptoRow.holds Try.pinned (OpenSpec.upto matrixUnsolvableWitnessSpec)

/-- 'privitylaw08.ReedsolomonDecode', WHERE WHAT IT READS IS OF BULK AT MOST 1048576: true; the input reads as it did. -/
def reedsolomonDecodeUptoRow : OpenClaim := { program := "ytkjknpibcbpdfaa", sum := "a766059a7c445e9f1eedb88958d1b478361202d1ace1dec741ba3568a45898bb", func := "privity/privitylaw08.ReedsolomonDecode", spec := "reedsolomonDecode", inPlace := ["math/bits.Add64"], unfollowed := true, recurses := true, apart := false, narrowed := true }
def ReedsolomonDecodeUptoSaid : Prop := reedsolomonDecodeUptoRow.holds Try.pinned (OpenSpec.upto reedsolomonDecodeSpec)

/-- 'privitylaw08.ReedsolomonErrorPositions', WHERE WHAT IT READS IS OF BULK AT MOST 1048576: true; the input reads as it did. -/
def reedsolomonErrorPositionsUptoRow : OpenClaim := { program := "ytkjknpibcbpdfaa", sum := "a766059a7c445e9f1eedb88958d1b478361202d1ace1dec741ba3568a45898bb", func := "privity/privitylaw08.ReedsolomonErrorPositions", spec := "reedsolomonErrorPositions", inPlace := ["math/bits.Add64"], unfollowed := true, recurses := true, apart := false, narrowed := true }
def ReedsolomonErrorPositionsUptoSaid : Prop := reedsolomonErrorPositionsUptoRow.holds Try.pinned (OpenSpec.upto reedsolomonErrorPositionsSpec)

/-- 'privitylaw08.ReedsolomonCorrects', WHERE WHAT IT READS IS OF BULK AT MOST 1048576: true; the input reads as it did. -/
def reedsolomonCorrectsUptoRow : OpenClaim := { program := "ytkjknpibcbpdfaa", sum := "a766059a7c445e9f1eedb88958d1b478361202d1ace1dec741ba3568a45898bb", func := "privity/privitylaw08.ReedsolomonCorrects", spec := "reedsolomonCorrects", inPlace := ["math/bits.Add64"], unfollowed := true, recurses := true, apart := false, narrowed := true }
def ReedsolomonCorrectsUptoSaid : Prop := reedsolomonCorrectsUptoRow.holds Try.pinned (OpenSpec.upto reedsolomonCorrectsSpec)

/-- 'privitylaw08.ReedsolomonUnique', WHERE WHAT IT READS IS OF BULK AT MOST 1048576: true; the input reads as it did. -/
def reedsolomonUniqueUptoRow : OpenClaim := { program := "ytkjknpibcbpdfaa", sum := "a766059a7c445e9f1eedb88958d1b478361202d1ace1dec741ba3568a45898bb", func := "privity/privitylaw08.ReedsolomonUnique", spec := "reedsolomonUnique", inPlace := ["math/bits.Add64"], unfollowed := true, recurses := true, apart := false, narrowed := true }
def ReedsolomonUniqueUptoSaid : Prop := reedsolomonUniqueUptoRow.holds Try.pinned (OpenSpec.upto reedsolomonUniqueSpec)

/-- 'privitylaw08.ReedsolomonErrorBound', WHERE WHAT IT READS IS OF BULK AT MOST 1048576: true; the input reads as it did. -/
def reedsolomonErrorBoundUptoRow : OpenClaim := { program := "ytkjknpibcbpdfaa", sum := "a766059a7c445e9f1eedb88958d1b478361202d1ace1dec741ba3568a45898bb", func := "privity/privitylaw08.ReedsolomonErrorBound", spec := "reedsolomonErrorBound", inPlace := ["math/bits.Add64"], unfollowed := true, recurses := true, apart := false, narrowed := true }
def ReedsolomonErrorBoundUptoSaid : Prop := reedsolomonErrorBoundUptoRow.holds Try.pinned (OpenSpec.upto reedsolomonErrorBoundSpec)

/-- 'privitylaw08.ReedsolomonLinear', WHERE WHAT IT READS IS OF BULK AT MOST 1048576: true; the input reads as it did. -/
def reedsolomonLinearUptoRow : OpenClaim := { program := "ytkjknpibcbpdfaa", sum := "a766059a7c445e9f1eedb88958d1b478361202d1ace1dec741ba3568a45898bb", func := "privity/privitylaw08.ReedsolomonLinear", spec := "reedsolomonLinear", inPlace := ["math/bits.Add64"], unfollowed := true, recurses := true, apart := false, narrowed := true }
def ReedsolomonLinearUptoSaid : Prop := reedsolomonLinearUptoRow.holds Try.pinned (OpenSpec.upto reedsolomonLinearSpec)

end Rows
end Go.Proofs.Ytkjknpibcbpdfaa
