-- words of the kit's print, cut by a program of the prover's
import Derived.Test.YtijoaohckgbneaaWN
namespace Go.Proofs.YtijoaohckgbneaaW.PrintWords
open Go.RowKit
namespace Kd
section
variable {α : Type} {d : Kd α} {W : World} {g n : Nat} {S ok : Nat → Prop} {A : Option Addr} {ad : Addr} {xs : List α}
end
end Kd
end Go.Proofs.YtijoaohckgbneaaW.PrintWords
