/-
  No cell of these rows narrows 'for every input' (looked for: loops, veiled, ifaces, maps, wideKeys, modest, calm, conditions, laid).
  DERIVED. THE GIVEN ROWS OF THIS SEAT. 7 by the template 'for every input the law returns true; each argument reads behind the call as it read before'; 0 by the template 'total and deterministic' (their statements: YtkcjhcjlaefgmaaTotals.lean).
  GIVEN WITH THE SEED: the statements are not yours to turn. If you find one false, say at which input.
  Laid BY PROGRAM, IN A SANDBOX (cutbox-rows.mjs): the forced cells as the released guide's own fill.sh prints them over the translation bfc118350f12b4d0… (all of the seat's roots in one cut). By AI agents, Wed Nov 11 2026. No macro, syntax, notation, axiom, sorry.
-/
import Derived.Test.YtkcjhcjlaefgmaaChecked
import GoSem.Claim
import GoSem.ClaimJoined
import GoSem.ClaimMapViews
import Derived.JoinedTies
import Derived.KernelRfl
namespace Go.Proofs.Ytkcjhcjlaefgmaa
/- THE CELL 'sum', in the pinned program and in every row, IS THE sha256 OF THE DUMP (.gsa) THAT YtkcjhcjlaefgmaaProg.lean LOADS. Nothing in Lean hashes anything: it is a label: what it is worth is what the hold of that sum in a sandbox is worth. -/
noncomputable def Try.pinned : Pinned := { name := "ytkcjhcjlaefgmaa", sum := "bfc118350f12b4d04a4c208f5f31dddead906fc9e3f12967589255e65d8449ca", checked := Try.checked }
namespace Rows
def none {H : Type} : Left H := { results := [], args := [] }

/-- 'privitylaw21.ProductProofProve': WHATEVER THE INPUT: true; the input reads as it did. -/
def productProofProveSpec : ChangeSpec := { name := "productProofProve", fn := fun _ => fun
  | [d] => { results := [.lit (.bool true)], args := [d] }
  | _ => none }
def productProofProveRow : OpenClaim := { program := "ytkcjhcjlaefgmaa", sum := "bfc118350f12b4d04a4c208f5f31dddead906fc9e3f12967589255e65d8449ca", func := "privity/privitylaw21.ProductProofProve", spec := "productProofProve", inPlace := ["math/bits.Add64"], unfollowed := true, recurses := true, apart := false }
def ProductProofProveSaid : Prop := productProofProveRow.holds Try.pinned (OpenSpec.ofChange productProofProveSpec)

/-- ITS FALSE NEIGHBOUR: 'it returns false'. Refute it at one input. -/
def productProofProveWrong : ChangeSpec := { name := "productProofProve", fn := fun _ => fun
  | [d] => { results := [.lit (.bool false)], args := [d] }
  | _ => none }
def ProductProofProveWrongFalsely : Prop := productProofProveRow.holds Try.pinned (OpenSpec.ofChange productProofProveWrong)

/-- 'privitylaw21.ProductProofZeroKnowledge': WHATEVER THE INPUT: true; the input reads as it did. -/
def productProofZeroKnowledgeSpec : ChangeSpec := { name := "productProofZeroKnowledge", fn := fun _ => fun
  | [d] => { results := [.lit (.bool true)], args := [d] }
  | _ => none }
def productProofZeroKnowledgeRow : OpenClaim := { program := "ytkcjhcjlaefgmaa", sum := "bfc118350f12b4d04a4c208f5f31dddead906fc9e3f12967589255e65d8449ca", func := "privity/privitylaw21.ProductProofZeroKnowledge", spec := "productProofZeroKnowledge", inPlace := ["math/bits.Add64"], unfollowed := true, recurses := true, apart := false }
def ProductProofZeroKnowledgeSaid : Prop := productProofZeroKnowledgeRow.holds Try.pinned (OpenSpec.ofChange productProofZeroKnowledgeSpec)

/-- ITS FALSE NEIGHBOUR: 'it returns false'. Refute it at one input. -/
def productProofZeroKnowledgeWrong : ChangeSpec := { name := "productProofZeroKnowledge", fn := fun _ => fun
  | [d] => { results := [.lit (.bool false)], args := [d] }
  | _ => none }
def ProductProofZeroKnowledgeWrongFalsely : Prop := productProofZeroKnowledgeRow.holds Try.pinned (OpenSpec.ofChange productProofZeroKnowledgeWrong)

/-- 'privitylaw04.PolyDivMod': WHATEVER THE INPUT: true; the input reads as it did. -/
def polyDivModSpec : ChangeSpec := { name := "polyDivMod", fn := fun _ => fun
  | [d] => { results := [.lit (.bool true)], args := [d] }
  | _ => none }
def polyDivModRow : OpenClaim := { program := "ytkcjhcjlaefgmaa", sum := "bfc118350f12b4d04a4c208f5f31dddead906fc9e3f12967589255e65d8449ca", func := "privity/privitylaw04.PolyDivMod", spec := "polyDivMod", inPlace := ["math/bits.Add64"], unfollowed := true, recurses := true, apart := false }
def PolyDivModSaid : Prop := polyDivModRow.holds Try.pinned (OpenSpec.ofChange polyDivModSpec)

/-- ITS FALSE NEIGHBOUR: 'it returns false'. Refute it at one input. -/
def polyDivModWrong : ChangeSpec := { name := "polyDivMod", fn := fun _ => fun
  | [d] => { results := [.lit (.bool false)], args := [d] }
  | _ => none }
def PolyDivModWrongFalsely : Prop := polyDivModRow.holds Try.pinned (OpenSpec.ofChange polyDivModWrong)

/-- 'privitylaw21.ProductProofVerify': WHATEVER THE INPUT: true; the input reads as it did. -/
def productProofVerifySpec : ChangeSpec := { name := "productProofVerify", fn := fun _ => fun
  | [d1, d2, d3] => { results := [.lit (.bool true)], args := [d1, d2, d3] }
  | _ => none }
def productProofVerifyRow : OpenClaim := { program := "ytkcjhcjlaefgmaa", sum := "bfc118350f12b4d04a4c208f5f31dddead906fc9e3f12967589255e65d8449ca", func := "privity/privitylaw21.ProductProofVerify", spec := "productProofVerify", inPlace := ["math/bits.Add64"], unfollowed := true, recurses := true, apart := false }
def ProductProofVerifySaid : Prop := productProofVerifyRow.holds Try.pinned (OpenSpec.ofChange productProofVerifySpec)

/-- ITS FALSE NEIGHBOUR: 'it returns false'. Refute it at one input. -/
def productProofVerifyWrong : ChangeSpec := { name := "productProofVerify", fn := fun _ => fun
  | [d1, d2, d3] => { results := [.lit (.bool false)], args := [d1, d2, d3] }
  | _ => none }
def ProductProofVerifyWrongFalsely : Prop := productProofVerifyRow.holds Try.pinned (OpenSpec.ofChange productProofVerifyWrong)

/-- 'privitylaw21.ProductProofChange': WHATEVER THE INPUT: true; the input reads as it did. -/
def productProofChangeSpec : ChangeSpec := { name := "productProofChange", fn := fun _ => fun
  | [d] => { results := [.lit (.bool true)], args := [d] }
  | _ => none }
def productProofChangeRow : OpenClaim := { program := "ytkcjhcjlaefgmaa", sum := "bfc118350f12b4d04a4c208f5f31dddead906fc9e3f12967589255e65d8449ca", func := "privity/privitylaw21.ProductProofChange", spec := "productProofChange", inPlace := ["math/bits.Add64"], unfollowed := true, recurses := true, apart := false }
def ProductProofChangeSaid : Prop := productProofChangeRow.holds Try.pinned (OpenSpec.ofChange productProofChangeSpec)

/-- ITS FALSE NEIGHBOUR: 'it returns false'. Refute it at one input. -/
def productProofChangeWrong : ChangeSpec := { name := "productProofChange", fn := fun _ => fun
  | [d] => { results := [.lit (.bool false)], args := [d] }
  | _ => none }
def ProductProofChangeWrongFalsely : Prop := productProofChangeRow.holds Try.pinned (OpenSpec.ofChange productProofChangeWrong)

/-- 'privitylaw04.PolyEvalHomomorphism': WHATEVER THE INPUT: true; the input reads as it did. -/
def polyEvalHomomorphismSpec : ChangeSpec := { name := "polyEvalHomomorphism", fn := fun _ => fun
  | [d] => { results := [.lit (.bool true)], args := [d] }
  | _ => none }
def polyEvalHomomorphismRow : OpenClaim := { program := "ytkcjhcjlaefgmaa", sum := "bfc118350f12b4d04a4c208f5f31dddead906fc9e3f12967589255e65d8449ca", func := "privity/privitylaw04.PolyEvalHomomorphism", spec := "polyEvalHomomorphism", inPlace := ["math/bits.Add64"], unfollowed := true, recurses := true, apart := false }
def PolyEvalHomomorphismSaid : Prop := polyEvalHomomorphismRow.holds Try.pinned (OpenSpec.ofChange polyEvalHomomorphismSpec)

/-- ITS FALSE NEIGHBOUR: 'it returns false'. Refute it at one input. -/
def polyEvalHomomorphismWrong : ChangeSpec := { name := "polyEvalHomomorphism", fn := fun _ => fun
  | [d] => { results := [.lit (.bool false)], args := [d] }
  | _ => none }
def PolyEvalHomomorphismWrongFalsely : Prop := polyEvalHomomorphismRow.holds Try.pinned (OpenSpec.ofChange polyEvalHomomorphismWrong)

/-- 'privitylaw04.PolyArithmetic': WHATEVER THE INPUT: true; the input reads as it did. -/
def polyArithmeticSpec : ChangeSpec := { name := "polyArithmetic", fn := fun _ => fun
  | [d] => { results := [.lit (.bool true)], args := [d] }
  | _ => none }
def polyArithmeticRow : OpenClaim := { program := "ytkcjhcjlaefgmaa", sum := "bfc118350f12b4d04a4c208f5f31dddead906fc9e3f12967589255e65d8449ca", func := "privity/privitylaw04.PolyArithmetic", spec := "polyArithmetic", inPlace := ["math/bits.Add64"], unfollowed := true, recurses := true, apart := false }
def PolyArithmeticSaid : Prop := polyArithmeticRow.holds Try.pinned (OpenSpec.ofChange polyArithmeticSpec)

/-- ITS FALSE NEIGHBOUR: 'it returns false'. Refute it at one input. -/
def polyArithmeticWrong : ChangeSpec := { name := "polyArithmetic", fn := fun _ => fun
  | [d] => { results := [.lit (.bool false)], args := [d] }
  | _ => none }
def PolyArithmeticWrongFalsely : Prop := polyArithmeticRow.holds Try.pinned (OpenSpec.ofChange polyArithmeticWrong)

/- THE SECOND FORM. 'bulk': how many values and letters a reading holds, each counted each time it is reached (what is shared counts as often as it is met; a slice's spare places count too). A statement '..UptoSaid' is the law's where the arguments, and the package variables that the reading takes, are together of bulk at most 1048576: NARROWER than '..Said'. Prove '..Said' where nothing that the law and all that it calls make is longer than what came in: it says more and counts as full. Else prove '..UptoSaid'. A law counts once. -/
mutual
def uptoBulk {H : Type} : DataW H → Nat
  | .lit (.string bytes) => bytes.length + 1
  | .lit _ => 1
  | .nil => 1
  | .ptr d => uptoBulk d + 1
  | .slice elems spare => uptoBulkAll elems + uptoBulkAll spare + 1
  | .agg parts => uptoBulkAll parts + 1
  | .iface _ d => uptoBulk d + 1
  | .map entries => uptoBulkEntries entries + 1
  | .held _ => 1
def uptoBulkAll {H : Type} : List (DataW H) → Nat
  | [] => 0
  | d :: r => uptoBulk d + uptoBulkAll r
def uptoBulkEntries {H : Type} : List (Lit × DataW H) → Nat
  | [] => 0
  | x :: r => uptoBulkEntry x + uptoBulkEntries r
def uptoBulkEntry {H : Type} : Lit × DataW H → Nat
  | (.string bytes, d) => bytes.length + uptoBulk d + 1
  | (_, d) => uptoBulk d + 1
 end
def uptoSmall : (H : Type) → List (DataW H) → Bool := fun _ ds => decide (uptoBulkAll ds ≤ 1048576)
def OpenSpec.upto (s : _root_.Go.ChangeSpec) : _root_.Go.OpenSpec := { _root_.Go.OpenSpec.ofChange s with cond := some uptoSmall }

/-- 'privitylaw21.ProductProofProve', WHERE WHAT IT READS IS OF BULK AT MOST 1048576: true; the input reads as it did. -/
def productProofProveUptoRow : OpenClaim := { program := "ytkcjhcjlaefgmaa", sum := "bfc118350f12b4d04a4c208f5f31dddead906fc9e3f12967589255e65d8449ca", func := "privity/privitylaw21.ProductProofProve", spec := "productProofProve", inPlace := ["math/bits.Add64"], unfollowed := true, recurses := true, apart := false, narrowed := true }
def ProductProofProveUptoSaid : Prop := productProofProveUptoRow.holds Try.pinned (OpenSpec.upto productProofProveSpec)

/-- 'privitylaw21.ProductProofZeroKnowledge', WHERE WHAT IT READS IS OF BULK AT MOST 1048576: true; the input reads as it did. -/
def productProofZeroKnowledgeUptoRow : OpenClaim := { program := "ytkcjhcjlaefgmaa", sum := "bfc118350f12b4d04a4c208f5f31dddead906fc9e3f12967589255e65d8449ca", func := "privity/privitylaw21.ProductProofZeroKnowledge", spec := "productProofZeroKnowledge", inPlace := ["math/bits.Add64"], unfollowed := true, recurses := true, apart := false, narrowed := true }
def ProductProofZeroKnowledgeUptoSaid : Prop := productProofZeroKnowledgeUptoRow.holds Try.pinned (OpenSpec.upto productProofZeroKnowledgeSpec)

/-- 'privitylaw04.PolyDivMod', WHERE WHAT IT READS IS OF BULK AT MOST 1048576: true; the input reads as it did. -/
def polyDivModUptoRow : OpenClaim := { program := "ytkcjhcjlaefgmaa", sum := "bfc118350f12b4d04a4c208f5f31dddead906fc9e3f12967589255e65d8449ca", func := "privity/privitylaw04.PolyDivMod", spec := "polyDivMod", inPlace := ["math/bits.Add64"], unfollowed := true, recurses := true, apart := false, narrowed := true }
def PolyDivModUptoSaid : Prop := polyDivModUptoRow.holds Try.pinned (OpenSpec.upto polyDivModSpec)

/-- 'privitylaw21.ProductProofVerify', WHERE WHAT IT READS IS OF BULK AT MOST 1048576: true; the input reads as it did. -/
def productProofVerifyUptoRow : OpenClaim := { program := "ytkcjhcjlaefgmaa", sum := "bfc118350f12b4d04a4c208f5f31dddead906fc9e3f12967589255e65d8449ca", func := "privity/privitylaw21.ProductProofVerify", spec := "productProofVerify", inPlace := ["math/bits.Add64"], unfollowed := true, recurses := true, apart := false, narrowed := true }
def ProductProofVerifyUptoSaid : Prop := productProofVerifyUptoRow.holds Try.pinned (OpenSpec.upto productProofVerifySpec)

/-- 'privitylaw21.ProductProofChange', WHERE WHAT IT READS IS OF BULK AT MOST 1048576: true; the input reads as it did. -/
def productProofChangeUptoRow : OpenClaim := { program := "ytkcjhcjlaefgmaa", sum := "bfc118350f12b4d04a4c208f5f31dddead906fc9e3f12967589255e65d8449ca", func := "privity/privitylaw21.ProductProofChange", spec := "productProofChange", inPlace := ["math/bits.Add64"], unfollowed := true, recurses := true, apart := false, narrowed := true }
def ProductProofChangeUptoSaid : Prop := productProofChangeUptoRow.holds Try.pinned (OpenSpec.upto productProofChangeSpec)

/-- 'privitylaw04.PolyEvalHomomorphism', WHERE WHAT IT READS IS OF BULK AT MOST 1048576: true; the input reads as it did. -/
def polyEvalHomomorphismUptoRow : OpenClaim := { program := "ytkcjhcjlaefgmaa", sum := "bfc118350f12b4d04a4c208f5f31dddead906fc9e3f12967589255e65d8449ca", func := "privity/privitylaw04.PolyEvalHomomorphism", spec := "polyEvalHomomorphism", inPlace := ["math/bits.Add64"], unfollowed := true, recurses := true, apart := false, narrowed := true }
def PolyEvalHomomorphismUptoSaid : Prop := polyEvalHomomorphismUptoRow.holds Try.pinned (OpenSpec.upto polyEvalHomomorphismSpec)

/-- 'privitylaw04.PolyArithmetic', WHERE WHAT IT READS IS OF BULK AT MOST 1048576: true; the input reads as it did. -/
def polyArithmeticUptoRow : OpenClaim := { program := "ytkcjhcjlaefgmaa", sum := "bfc118350f12b4d04a4c208f5f31dddead906fc9e3f12967589255e65d8449ca", func := "privity/privitylaw04.PolyArithmetic", spec := "polyArithmetic", inPlace := ["math/bits.Add64"], unfollowed := true, recurses := true, apart := false, narrowed := true }
def PolyArithmeticUptoSaid : Prop := polyArithmeticUptoRow.holds Try.pinned (OpenSpec.upto polyArithmeticSpec)

end Rows
end Go.Proofs.Ytkcjhcjlaefgmaa
