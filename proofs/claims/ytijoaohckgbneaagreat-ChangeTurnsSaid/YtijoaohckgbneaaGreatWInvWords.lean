import Derived.Test.YtijoaohckgbneaaGreatWTab
import Derived.Test.YtijoaohckgbneaaGreatWN
section
namespace Go.Proofs.YtijoaohckgbneaaGreatW.PrintLast
section
variable {P : Program} {ops : Array Oper} {Q : Exit → Act → World → Prop} {md : Region.Mode} {T : Bool × List (List Nat × List Nat)} {B : List Nat} {O : List Nat} {b : Nat → Bool} {i j n : Nat}
end
end Go.Proofs.YtijoaohckgbneaaGreatW.PrintLast
end
section
section
namespace Go.Proofs.YtijoaohckgbneaaGreatW.PrintWords
open Go.RowKit
namespace Kd
section
variable {α : Type} {d : Kd α} {W : World} {g n : Nat} {S ok : Nat → Prop} {A : Option Addr} {ad : Addr} {xs : List α}
end
end Kd
end Go.Proofs.YtijoaohckgbneaaGreatW.PrintWords
end
section
namespace Go.Proofs.YtijoaohckgbneaaGreatW.PrintWords
open Go.RowKit
end Go.Proofs.YtijoaohckgbneaaGreatW.PrintWords
namespace Go.Proofs.YtijoaohckgbneaaGreatW.PrintLast
section
variable {ops : Array Oper} {a : Act} {o og : Oper} {g : Nat} {t : Tmp} {u : Bool}
end
end Go.Proofs.YtijoaohckgbneaaGreatW.PrintLast
end
end
