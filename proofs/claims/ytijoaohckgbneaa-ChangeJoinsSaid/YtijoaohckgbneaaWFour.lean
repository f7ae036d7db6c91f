-- words of the kit's print, cut by a program of the prover's
import Derived.Test.YtijoaohckgbneaaWTab
namespace Go.Proofs.YtijoaohckgbneaaW.PrintLast
section
variable {P : Program} {ops : Array Oper} {Q : Exit → Act → World → Prop} {md : Region.Mode} {S : World → Prop} {ds : List Nat} {T : Bool × List (List Nat × List Nat)}
end
end Go.Proofs.YtijoaohckgbneaaW.PrintLast
