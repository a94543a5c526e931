/- Functions of the program as plain Lean functions, each with a proof that its call does what the function says; written by a program of this session. -/
import Derived.Test.YthlokgappehhgaaDoorProg
import Derived.Below
import Derived.Deep.Draws
import Derived.Deep.AppendLies
import Derived.Maps.AppendAt
import Derived.OwnWalk
import Derived.Laws.BytesArg
import Derived.Laws.MakeOwn
import Derived.Laws.OwnMore
import Derived.Deep.OwnRows
import Derived.Tactics
import Derived.Lib.ConvBytes
import Derived.Laws.Slices
import Derived.WalkKit
import Derived.KernelRfl
import Derived.RowKit3
import Derived.Deep.LoopGhost
import Derived.Deep.QuietTactic
import Derived.BigQuiet
import Derived.WideLaws
import Derived.Deep.DeepCutAuto
import Derived.Deep.CutBlock
import Derived.Deep.RegionHeld3
import Derived.Laws.Rows
import Derived.Lib.AppendStr
import Derived.ArgAppend
import Derived.Laws.IdiomCopy
import Derived.OrdersHeld
import Derived.Laws.BitsLemmas
import Derived.RowKit
import Derived.Test.YthlokgappehhgaaDoorWWords
import Derived.Test.YthlokgappehhgaaDoorWLast
import Derived.Test.YthlokgappehhgaaDoorWTab
import Derived.Test.YthlokgappehhgaaDoorWFour
import Derived.Test.YthlokgappehhgaaDoorWQPut
import Derived.Test.YthlokgappehhgaaDoorWApart
import Derived.Test.YthlokgappehhgaaDoorWArr
import Derived.Test.YthlokgappehhgaaDoorWZeros
import Derived.Test.YthlokgappehhgaaDoorWFoot
import Derived.Test.YthlokgappehhgaaDoorWKept
import Derived.Test.YthlokgappehhgaaDoorWShare
import Derived.Test.YthlokgappehhgaaDoorWN
import Derived.Test.YthlokgappehhgaaDoorWFootNe
import Derived.Test.YthlokgappehhgaaDoorWAt
import Derived.Test.YthlokgappehhgaaDoorWEqStruct
import Derived.Test.YthlokgappehhgaaDoorWRepsOne
import Derived.Test.YthlokgappehhgaaDoorWInv
import Derived.Test.YthlokgappehhgaaDoorWInvWords
import Derived.Test.YthlokgappehhgaaDoorWGuard
import Derived.Test.YthlokgappehhgaaDoorWNEv
import Derived.Test.YthlokgappehhgaaDoorWMore
namespace Go.Proofs.YthlokgappehhgaaDoor.B
open Go.RowKit Go.Proofs.YthlokgappehhgaaDoorW.PrintWords Go.Proofs.YthlokgappehhgaaDoorW.PrintLast Go.Proofs.YthlokgappehhgaaDoorW.PrintMore
attribute [local go_sem] max2_int min2_int max_two min_two max_three min_three max_four min_four   -- for this text's walks alone
set_option linter.unusedVariables false
set_option linter.unusedSimpArgs false



def errW : Option Int → Value
  | none => .nilIface
  | some c => .iface 0 (.int .i64 c)
theorem errW_none : errW none = .nilIface := rfl
theorem errW_some (c : Int) : errW (some c) = .iface 0 (.int .i64 c) := rfl

-- the values' own types

end Go.Proofs.YthlokgappehhgaaDoor.B
