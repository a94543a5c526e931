/- Functions of the program as plain Lean functions, each with a proof that its call does what the function says; written by a program of this session. -/
import Derived.Test.YtkjknpibcbpdfaaProg
import Derived.Below
import Derived.Deep.Draws
import Derived.Deep.AppendLies
import Derived.Maps.AppendAt
import Derived.OwnWalk
import Derived.Laws.BytesArg
import Derived.Laws.MakeOwn
import Derived.Laws.OwnMore
import Derived.Deep.OwnRows
import Derived.Tactics
import Derived.Lib.ConvBytes
import Derived.Laws.Slices
import Derived.WalkKit
import Derived.KernelRfl
import Derived.RowKit3
import Derived.Deep.LoopGhost
import Derived.Deep.QuietTactic
import Derived.BigQuiet
import Derived.WideLaws
import Derived.Deep.DeepCutAuto
import Derived.Deep.CutBlock
import Derived.Deep.RegionHeld3
import Derived.Laws.Rows
import Derived.Lib.AppendStr
import Derived.ArgAppend
import Derived.Laws.IdiomCopy
import Derived.OrdersHeld
import Derived.Laws.BitsLemmas
import Derived.RowKit
import Derived.Test.YtkjknpibcbpdfaaWWords
import Derived.Test.YtkjknpibcbpdfaaWLast
import Derived.Test.YtkjknpibcbpdfaaWTab
import Derived.Test.YtkjknpibcbpdfaaWFour
import Derived.Test.YtkjknpibcbpdfaaWQPut
import Derived.Test.YtkjknpibcbpdfaaWApart
import Derived.Test.YtkjknpibcbpdfaaWArr
import Derived.Test.YtkjknpibcbpdfaaWZeros
import Derived.Test.YtkjknpibcbpdfaaWFoot
import Derived.Test.YtkjknpibcbpdfaaWKept
import Derived.Test.YtkjknpibcbpdfaaWShare
import Derived.Test.YtkjknpibcbpdfaaWN
import Derived.Test.YtkjknpibcbpdfaaWFootNe
import Derived.Test.YtkjknpibcbpdfaaWAt
import Derived.Test.YtkjknpibcbpdfaaWEqStruct
import Derived.Test.YtkjknpibcbpdfaaWRepsOne
import Derived.Test.YtkjknpibcbpdfaaWInv
import Derived.Test.YtkjknpibcbpdfaaWInvWords
import Derived.Test.YtkjknpibcbpdfaaWGuard
import Derived.Test.YtkjknpibcbpdfaaWNEv
import Derived.Test.YtkjknpibcbpdfaaWMore
namespace Go.Proofs.Ytkjknpibcbpdfaa.B
open Go.RowKit Go.Proofs.YtkjknpibcbpdfaaW.PrintWords Go.Proofs.YtkjknpibcbpdfaaW.PrintLast Go.Proofs.YtkjknpibcbpdfaaW.PrintMore
attribute [local go_sem] max2_int min2_int max_two min_two max_three min_three max_four min_four   -- for this text's walks alone
set_option linter.unusedVariables false
set_option linter.unusedSimpArgs false



def errW : Option Int → Value
  | none => .nilIface
  | some c => .iface 0 (.int .i64 c)
theorem errW_none : errW none = .nilIface := rfl
theorem errW_some (c : Int) : errW (some c) = .iface 0 (.int .i64 c) := rfl

-- the values' own types

end Go.Proofs.Ytkjknpibcbpdfaa.B
