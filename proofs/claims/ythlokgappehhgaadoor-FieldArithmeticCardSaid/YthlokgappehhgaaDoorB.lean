/- Functions of the program as plain Lean functions, each with a proof that its call does what the function says; written by a program of this session. -/
import Derived.Test.YthlokgappehhgaaDoorB0
import Derived.Test.YthlokgappehhgaaDoorB1
namespace Go.Proofs.YthlokgappehhgaaDoor.B
open Go.RowKit Go.Proofs.YthlokgappehhgaaDoorW.PrintWords Go.Proofs.YthlokgappehhgaaDoorW.PrintLast Go.Proofs.YthlokgappehhgaaDoorW.PrintMore
attribute [local go_sem] max2_int min2_int max_two min_two max_three min_three max_four min_four   -- for this text's walks alone
set_option linter.unusedVariables false
set_option linter.unusedSimpArgs false

end Go.Proofs.YthlokgappehhgaaDoor.B
