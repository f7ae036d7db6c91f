-- words of the kit's print, cut by a program of the prover's
import Derived.Test.YtijoaohckgbneaaWTab
namespace Go.Proofs.YtijoaohckgbneaaW.PrintLast
section
variable {P : Program} {ops : Array Oper} {Q : Exit → Act → World → Prop} {md : Region.Mode} {T : Bool × List (List Nat × List Nat)} {B : List Nat} {O : List Nat} {b : Nat → Bool} {i j n : Nat}
end
end Go.Proofs.YtijoaohckgbneaaW.PrintLast
