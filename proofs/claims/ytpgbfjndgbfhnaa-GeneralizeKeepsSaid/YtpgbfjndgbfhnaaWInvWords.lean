-- words of the kit's print, cut by a program of the prover's
import Derived.Test.YtpgbfjndgbfhnaaWInv
import Derived.Test.YtpgbfjndgbfhnaaWFootNe
namespace Go.Proofs.YtpgbfjndgbfhnaaW.PrintWords
open Go.RowKit
end Go.Proofs.YtpgbfjndgbfhnaaW.PrintWords
namespace Go.Proofs.YtpgbfjndgbfhnaaW.PrintLast
section
variable {ops : Array Oper} {a : Act} {o og : Oper} {g : Nat} {t : Tmp} {u : Bool}
theorem wanted_on (hg : o.guard = some (g, u)) (ho : ops[g]? = some og) (hd : og.dst = some t) (hv : a.tmps[t]? = some (.bool u)) : Region.wanted o (yielded ops a.tmps) = true := by
  simp [Region.wanted, hg, yielded, ho, hd, hv]
end
end Go.Proofs.YtpgbfjndgbfhnaaW.PrintLast
