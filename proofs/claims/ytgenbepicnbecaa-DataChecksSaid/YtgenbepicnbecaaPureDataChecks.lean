/- DataChecks: Check returns the specified error for any dataset of at most 600 parts. -/
import Derived.Test.YtgenbepicnbecaaPureCheck
namespace Go.Proofs.Ytgenbepicnbecaa.Pure
open Go.RowKit Go.Proofs.Ytgenbepicnbecaa.PAll Go.Proofs.YtgenbepicnbecaaW.PrintWords Go.Proofs.YtgenbepicnbecaaW.PrintLast
theorem DataChecks : mapmakerlaw14_DataChecks.Pure := by
  intro x w
  refine Ev.rounds (g := fun k => mapmakerlaw14_DataChecks.f k x.f0 x.f1 x.f2) ?_
  unfold mapmakerlaw14_DataChecks.f
  have hw := wfD_of x w
  refine Ev.bind (few_ev x w) ?_
  by_cases hf : total x.f0 x.f1 x.f2 ≤ 600
  · simp only [decide_eq_true hf, if_true]
    refine Ev.bind (prog_check _ _ _ hw) (Ev.bind (ref_check _ _ _ hw.1.1 hw.1.2.1 hw.1.2.2) ?_)
    simp only [if_true]
    exact Ev.bind lives_ev (Ev.now true)
  · simp only [decide_eq_false hf, Bool.false_eq_true, if_false]
    exact Ev.bind lives_ev (Ev.now true)
end Go.Proofs.Ytgenbepicnbecaa.Pure
