-- out of a driver of this session's prover over the kit's print: Lean checks it
import Derived.Test.YtolhkhaglopioaaPEdx0
import Derived.Test.YtolhkhaglopioaaPEdx1
import Derived.Test.YtolhkhaglopioaaPEdx2
import Derived.Test.YtolhkhaglopioaaPEdx3
import Derived.Test.YtolhkhaglopioaaPEdx4
namespace Go.Proofs.Ytolhkhaglopioaa.PEd
open Go.Proofs.YtolhkhaglopioaaG Go.Shelf Go.Lib
open Go.RowKit Go.Proofs.YtolhkhaglopioaaW.PrintWords Go.Proofs.YtolhkhaglopioaaW.PrintLast Go.Proofs.YtolhkhaglopioaaW.PrintMore
attribute [local go_sem] max2_int min2_int max_two min_two max_three min_three max_four min_four   -- for this text's walks alone
set_option linter.unusedVariables false
set_option linter.unusedSimpArgs false

end Go.Proofs.Ytolhkhaglopioaa.PEd
