-- words of the kit's print, cut by a program of the prover's
import Derived.Test.YtijoaohckgbneaaWInv
import Derived.Test.YtijoaohckgbneaaWFootNe
namespace Go.Proofs.YtijoaohckgbneaaW.PrintWords
open Go.RowKit
end Go.Proofs.YtijoaohckgbneaaW.PrintWords
namespace Go.Proofs.YtijoaohckgbneaaW.PrintLast
section
variable {ops : Array Oper} {a : Act} {o og : Oper} {g : Nat} {t : Tmp} {u : Bool}
end
end Go.Proofs.YtijoaohckgbneaaW.PrintLast
