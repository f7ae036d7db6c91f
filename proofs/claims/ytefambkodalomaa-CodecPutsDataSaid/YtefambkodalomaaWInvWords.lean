-- words of the kit's print, cut by a program of the prover's
import Derived.Test.YtefambkodalomaaWInv
import Derived.Test.YtefambkodalomaaWFootNe
namespace Go.Proofs.YtefambkodalomaaW.PrintWords
open Go.RowKit
end Go.Proofs.YtefambkodalomaaW.PrintWords
namespace Go.Proofs.YtefambkodalomaaW.PrintLast
section
variable {ops : Array Oper} {a : Act} {o og : Oper} {g : Nat} {t : Tmp} {u : Bool}
end
end Go.Proofs.YtefambkodalomaaW.PrintLast
