/- DataSame: Same reports whether two datasets are equal in all fields, for any datasets of at most 600 parts. -/
import Derived.Test.YtgenbepicnbecaaPureSame
namespace Go.Proofs.Ytgenbepicnbecaa.Pure
open Go.RowKit Go.Proofs.Ytgenbepicnbecaa.PAll Go.Proofs.YtgenbepicnbecaaW.PrintWords Go.Proofs.YtgenbepicnbecaaW.PrintLast
theorem DataSame : mapmakerlaw14_DataSame.Pure := by
  intro x y w v
  refine Ev.rounds (g := fun k => mapmakerlaw14_DataSame.f k x.f0 x.f1 x.f2 y.f0 y.f1 y.f2) ?_
  have hj : Ev (fun k => mapmakerlaw14_DataSame.j0 k true x.f0 x.f1 x.f2 y.f0 y.f1 y.f2) true := Ev.step (f := fun k => (mapmakerlaw14_lives.f k).bind fun t => some t) (fun k => by simp only [mapmakerlaw14_DataSame.j0, if_true]) (Ev.bind lives_ev (Ev.now true))
  unfold mapmakerlaw14_DataSame.f
  refine Ev.bind (few_ev x w) ?_
  by_cases hf : total x.f0 x.f1 x.f2 ≤ 600
  · simp only [decide_eq_true hf, if_true]
    refine Ev.bind (few_ev y v) ?_
    by_cases hg : total y.f0 y.f1 y.f2 ≤ 600
    · simp only [decide_eq_true hg, Bool.not_true]
      refine Ev.step (fun k => by simp only [mapmakerlaw14_DataSame.j0, Bool.false_eq_true, if_false]; rfl) ?_
      refine Ev.bind (prog_same x y w) (Ev.bind (ref_same x y w) ?_)
      simp only [beq_self_eq_true, if_true]
      refine Ev.bind (prog_same x x w) ?_
      simp only [dataEq_refl, if_true]
      refine Ev.bind (prog_same y x v) (Ev.bind (prog_same x y w) ?_)
      simp only [dataEq_symm y x, beq_self_eq_true, if_true]
      exact Ev.bind lives_ev (Ev.now true)
    · simp only [decide_eq_false hg, Bool.not_false]; exact hj
  · simp only [decide_eq_false hf, Bool.false_eq_true, if_false]; exact hj
end Go.Proofs.Ytgenbepicnbecaa.Pure
