/- Functions of the program as plain Lean functions, each with a proof that its call does what the function says; written by a program of this session. -/
import Derived.Test.YtkcjhcjlaefgmaaProg
import Derived.Below
import Derived.Deep.Draws
import Derived.Deep.AppendLies
import Derived.Maps.AppendAt
import Derived.OwnWalk
import Derived.Laws.BytesArg
import Derived.Laws.MakeOwn
import Derived.Laws.OwnMore
import Derived.Deep.OwnRows
import Derived.Tactics
import Derived.Lib.ConvBytes
import Derived.Laws.Slices
import Derived.WalkKit
import Derived.KernelRfl
import Derived.RowKit3
import Derived.Deep.LoopGhost
import Derived.Deep.QuietTactic
import Derived.BigQuiet
import Derived.WideLaws
import Derived.Deep.DeepCutAuto
import Derived.Deep.CutBlock
import Derived.Deep.RegionHeld3
import Derived.Laws.Rows
import Derived.Lib.AppendStr
import Derived.ArgAppend
import Derived.Laws.IdiomCopy
import Derived.OrdersHeld
import Derived.Laws.BitsLemmas
import Derived.RowKit
import Derived.Test.YtkcjhcjlaefgmaaWWords
import Derived.Test.YtkcjhcjlaefgmaaWLast
import Derived.Test.YtkcjhcjlaefgmaaWTab
import Derived.Test.YtkcjhcjlaefgmaaWFour
import Derived.Test.YtkcjhcjlaefgmaaWQPut
import Derived.Test.YtkcjhcjlaefgmaaWApart
import Derived.Test.YtkcjhcjlaefgmaaWArr
import Derived.Test.YtkcjhcjlaefgmaaWZeros
import Derived.Test.YtkcjhcjlaefgmaaWFoot
import Derived.Test.YtkcjhcjlaefgmaaWKept
import Derived.Test.YtkcjhcjlaefgmaaWShare
import Derived.Test.YtkcjhcjlaefgmaaWN
import Derived.Test.YtkcjhcjlaefgmaaWFootNe
import Derived.Test.YtkcjhcjlaefgmaaWAt
import Derived.Test.YtkcjhcjlaefgmaaWEqStruct
import Derived.Test.YtkcjhcjlaefgmaaWRepsOne
import Derived.Test.YtkcjhcjlaefgmaaWInv
import Derived.Test.YtkcjhcjlaefgmaaWInvWords
import Derived.Test.YtkcjhcjlaefgmaaWGuard
import Derived.Test.YtkcjhcjlaefgmaaWNEv
import Derived.Test.YtkcjhcjlaefgmaaWMore
namespace Go.Proofs.Ytkcjhcjlaefgmaa.B
open Go.RowKit Go.Proofs.YtkcjhcjlaefgmaaW.PrintWords Go.Proofs.YtkcjhcjlaefgmaaW.PrintLast Go.Proofs.YtkcjhcjlaefgmaaW.PrintMore
attribute [local go_sem] max2_int min2_int max_two min_two max_three min_three max_four min_four   -- for this text's walks alone
set_option linter.unusedVariables false
set_option linter.unusedSimpArgs false



def errW : Option Int → Value
  | none => .nilIface
  | some c => .iface 0 (.int .i64 c)
theorem errW_none : errW none = .nilIface := rfl
theorem errW_some (c : Int) : errW (some c) = .iface 0 (.int .i64 c) := rfl

-- the values' own types

end Go.Proofs.Ytkcjhcjlaefgmaa.B
