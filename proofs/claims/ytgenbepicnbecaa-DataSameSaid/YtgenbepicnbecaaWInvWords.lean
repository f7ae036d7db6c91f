-- words of the kit's print, cut by a program of the prover's
import Derived.Test.YtgenbepicnbecaaWInv
import Derived.Test.YtgenbepicnbecaaWFootNe
namespace Go.Proofs.YtgenbepicnbecaaW.PrintWords
open Go.RowKit
end Go.Proofs.YtgenbepicnbecaaW.PrintWords
namespace Go.Proofs.YtgenbepicnbecaaW.PrintLast
section
variable {ops : Array Oper} {a : Act} {o og : Oper} {g : Nat} {t : Tmp} {u : Bool}
end
end Go.Proofs.YtgenbepicnbecaaW.PrintLast
