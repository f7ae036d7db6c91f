/- c16, plain: the program's writer of change files. -/
import Derived.Test.YtefambkodalomaaPureEnc
import Derived.Test.YtefambkodalomaaPAllx11
import Derived.Test.YtefambkodalomaaPAllx10
namespace Go.Proofs.Ytefambkodalomaa.Pure
open Go.RowKit Go.Proofs.Ytefambkodalomaa.PAll Go.Proofs.YtefambkodalomaaW.PrintWords Go.Proofs.YtefambkodalomaaW.PrintLast Go.Proofs.YtefambkodalomaaW.PrintMore Go.Proofs.YtefambkodalomaaG
set_option linter.unusedVariables false
set_option linter.unusedSimpArgs false
end Go.Proofs.Ytefambkodalomaa.Pure
