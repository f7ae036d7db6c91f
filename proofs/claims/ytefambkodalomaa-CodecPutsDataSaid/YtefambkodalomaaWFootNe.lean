-- words of the kit's print, cut by a program of the prover's
import Derived.Test.YtefambkodalomaaWN
namespace Go.Proofs.YtefambkodalomaaW.PrintWords
open Go.RowKit
namespace Kd
section
variable {α : Type} {d : Kd α} {W : World} {g n : Nat} {S ok : Nat → Prop} {A : Option Addr} {ad : Addr} {xs : List α}
end
end Kd
end Go.Proofs.YtefambkodalomaaW.PrintWords
