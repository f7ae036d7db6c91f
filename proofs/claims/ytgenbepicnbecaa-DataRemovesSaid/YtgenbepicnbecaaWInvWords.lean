import Derived.Test.YtgenbepicnbecaaWN
import Derived.Test.YtgenbepicnbecaaWInv
section
namespace Go.Proofs.YtgenbepicnbecaaW.PrintWords
open Go.RowKit
namespace Kd
section
variable {α : Type} {d : Kd α} {W : World} {g n : Nat} {S ok : Nat → Prop} {A : Option Addr} {ad : Addr} {xs : List α}
end
end Kd
end Go.Proofs.YtgenbepicnbecaaW.PrintWords
end
section
namespace Go.Proofs.YtgenbepicnbecaaW.PrintWords
open Go.RowKit
end Go.Proofs.YtgenbepicnbecaaW.PrintWords
namespace Go.Proofs.YtgenbepicnbecaaW.PrintLast
section
variable {ops : Array Oper} {a : Act} {o og : Oper} {g : Nat} {t : Tmp} {u : Bool}
end
end Go.Proofs.YtgenbepicnbecaaW.PrintLast
end
