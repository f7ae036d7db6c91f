-- words of the kit's print, cut by a program of the prover's
import Derived.Test.YtefambkodalomaaWTab
namespace Go.Proofs.YtefambkodalomaaW.PrintLast
section
variable {P : Program} {ops : Array Oper} {Q : Exit → Act → World → Prop} {md : Region.Mode} {S : World → Prop} {ds : List Nat} {T : Bool × List (List Nat × List Nat)}
end
end Go.Proofs.YtefambkodalomaaW.PrintLast
