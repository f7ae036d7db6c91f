/- c16, plain: the chapter's examples hold. -/
import Derived.Test.YtefambkodalomaaPAllx13
namespace Go.Proofs.Ytefambkodalomaa.Pure
open Go.RowKit Go.Proofs.Ytefambkodalomaa.PAll Go.Proofs.YtefambkodalomaaW.PrintWords Go.Proofs.YtefambkodalomaaW.PrintLast
set_option maxRecDepth 100000 in
theorem lives_ev : Ev (fun k => mapmakerlaw16_lives.f k) true := Ev.of (fun k => mapmakerlaw16_lives.mono k) (k := 40) (by kernel_rfl)
end Go.Proofs.Ytefambkodalomaa.Pure
