/- A row of the call's own written over, in the middle, by the cells of whole elements: what a storeCells does; clear. -/
import Derived.Test.YtijoaohckgbneaaGreatGMem
import Derived.Test.YtijoaohckgbneaaGreatWZeros
import Derived.Lib.AppendZerosOnto
namespace Go.Proofs.YtijoaohckgbneaaGreatG
open Go.RowKit Go.Proofs.YtijoaohckgbneaaGreatW.PrintWords
set_option linter.unusedVariables false
set_option linter.unusedSimpArgs false
section
variable {P : Program} {α : Type}
section
variable {ops : Array Oper} {rest : List Oper} {o : Oper} {a : Act} {Q : Exit → Act → World → Prop} {W w1 : World} {v1 : Value}
end
end
end Go.Proofs.YtijoaohckgbneaaGreatG
