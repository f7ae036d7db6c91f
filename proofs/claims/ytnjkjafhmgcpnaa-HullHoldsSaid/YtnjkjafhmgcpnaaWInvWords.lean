-- words of the kit's print, cut by a program of the prover's
import Derived.Test.YtnjkjafhmgcpnaaWInv
import Derived.Test.YtnjkjafhmgcpnaaWFootNe
namespace Go.Proofs.YtnjkjafhmgcpnaaW.PrintWords
open Go.RowKit
end Go.Proofs.YtnjkjafhmgcpnaaW.PrintWords
namespace Go.Proofs.YtnjkjafhmgcpnaaW.PrintLast
section
variable {ops : Array Oper} {a : Act} {o og : Oper} {g : Nat} {t : Tmp} {u : Bool}
end
end Go.Proofs.YtnjkjafhmgcpnaaW.PrintLast
