-- out of a driver of this session's prover over the kit's print: Lean checks it
import Derived.Test.YtipjmmppplepjaaPEdx0
import Derived.Test.YtipjmmppplepjaaPEdx1
import Derived.Test.YtipjmmppplepjaaPEdx2
import Derived.Test.YtipjmmppplepjaaPEdx3
import Derived.Test.YtipjmmppplepjaaPEdx4
import Derived.Test.YtipjmmppplepjaaPEdx5
import Derived.Test.YtipjmmppplepjaaPEdx6
namespace Go.Proofs.Ytipjmmppplepjaa.PEd
open Go.Proofs.YtipjmmppplepjaaG Go.Shelf Go.Lib
open Go.RowKit Go.Proofs.YtipjmmppplepjaaW.PrintWords Go.Proofs.YtipjmmppplepjaaW.PrintLast Go.Proofs.YtipjmmppplepjaaW.PrintMore
attribute [local go_sem] max2_int min2_int max_two min_two max_three min_three max_four min_four   -- for this text's walks alone
set_option linter.unusedVariables false
set_option linter.unusedSimpArgs false

end Go.Proofs.Ytipjmmppplepjaa.PEd
