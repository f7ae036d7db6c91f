-- words of the kit's print, cut by a program of the prover's
import Derived.Test.YtmejeiddlhjjmaaWInv
import Derived.Test.YtmejeiddlhjjmaaWFootNe
namespace Go.Proofs.YtmejeiddlhjjmaaW.PrintWords
open Go.RowKit
end Go.Proofs.YtmejeiddlhjjmaaW.PrintWords
namespace Go.Proofs.YtmejeiddlhjjmaaW.PrintLast
section
variable {ops : Array Oper} {a : Act} {o og : Oper} {g : Nat} {t : Tmp} {u : Bool}
end
end Go.Proofs.YtmejeiddlhjjmaaW.PrintLast
