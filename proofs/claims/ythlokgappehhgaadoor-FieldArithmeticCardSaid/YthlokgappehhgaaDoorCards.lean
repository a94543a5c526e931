/-
  DERIVED. GIVEN WITH THE SEED: THE CARDS: each row of YthlokgappehhgaaDoorRows.lean that lists a variable, with what it lists TIED to the program's text (the seventh form; the later family's looks); each row that meets fmt, with fmt's text TOLD by the authors' own Lean function (tested against real Go, not proved from fmt's source: count such statements apart). THE CARD IS WHAT COUNTS. Prove the row's statement (the work); the ties are given (YthlokgappehhgaaDoorTie.lean); close each card by the builder's one call (the guide's Derived/Test/ToyasCard.lean, 'card_holds'). Laid BY PROGRAM, IN A SANDBOX (cutbox-door.mjs). By AI agents, Wed Nov 11 2026. No macro, syntax, notation, axiom, sorry.
-/
import Derived.Test.YthlokgappehhgaaDoorRows
import GoSem.ClaimSeven
namespace Go.Proofs.YthlokgappehhgaaDoor
namespace Rows

/-- THE TIED CARD OF 'privitylaw01.FieldSqrt'. -/
def fieldSqrtCard : Claim7 := { stood := { row := fieldSqrtRow, standIns := [], harness := (true, "72a0d91364b7fcf3dd18cfc83afffaa1400c4230d2fa41a55ca79d12e287ef1d"), looks := false }, kinds := [], alts := [], laidByText := true, laidKinds := [.data], laidTests := true, laidLooks := .later }
def FieldSqrtCardSaid : Prop := Claim7.holds Tryd.pinned (.plain (OpenSpec.ofChange fieldSqrtSpec)) fieldSqrtCard

/-- THE TIED CARD OF 'privitylaw01.FieldArithmetic'. -/
def fieldArithmeticCard : Claim7 := { stood := { row := fieldArithmeticRow, standIns := [], harness := (true, "72a0d91364b7fcf3dd18cfc83afffaa1400c4230d2fa41a55ca79d12e287ef1d"), looks := false }, kinds := [], alts := [], laidByText := true, laidKinds := [.data], laidTests := true, laidLooks := .later }
def FieldArithmeticCardSaid : Prop := Claim7.holds Tryd.pinned (.plain (OpenSpec.ofChange fieldArithmeticSpec)) fieldArithmeticCard

/-- THE SECOND FORM's CARD OF 'privitylaw01.FieldSqrt'. -/
def fieldSqrtUptoCard : Claim7 := { stood := { row := fieldSqrtUptoRow, standIns := [], harness := (true, "72a0d91364b7fcf3dd18cfc83afffaa1400c4230d2fa41a55ca79d12e287ef1d"), looks := false }, kinds := [], alts := [], laidByText := true, laidKinds := [.data], laidTests := true, laidLooks := .later }
def FieldSqrtUptoCardSaid : Prop := Claim7.holds Tryd.pinned (.plain (OpenSpec.upto fieldSqrtSpec)) fieldSqrtUptoCard

/-- THE SECOND FORM's CARD OF 'privitylaw01.FieldArithmetic'. -/
def fieldArithmeticUptoCard : Claim7 := { stood := { row := fieldArithmeticUptoRow, standIns := [], harness := (true, "72a0d91364b7fcf3dd18cfc83afffaa1400c4230d2fa41a55ca79d12e287ef1d"), looks := false }, kinds := [], alts := [], laidByText := true, laidKinds := [.data], laidTests := true, laidLooks := .later }
def FieldArithmeticUptoCardSaid : Prop := Claim7.holds Tryd.pinned (.plain (OpenSpec.upto fieldArithmeticSpec)) fieldArithmeticUptoCard
end Rows
end Go.Proofs.YthlokgappehhgaaDoor
