/- NodingCrosses: Crossings returns the pairs that the reference returns. -/
import Derived.Test.YtmejeiddlhjjmaaPureCrsNodingCrosses
namespace Go.Proofs.Ytmejeiddlhjjmaa.Pure
open Go.RowKit Go.Proofs.Ytmejeiddlhjjmaa.PNodingCrosses Go.Proofs.YtmejeiddlhjjmaaW.PrintWords Go.Proofs.YtmejeiddlhjjmaaW.PrintLast
set_option linter.unusedVariables false
set_option linter.unusedSimpArgs false

theorem crosses0 (a : List S36) (hl : a.length ≤ 20000) (d : Nat) : ∀ (k : Nat) (i : Nat), i ≤ a.length → a.length - i = d → d + 200 < k → mapmakerlaw20_NodingCrosses.l0 k a a (i : Int) = some true := by
  induction d with
  | zero =>
    intro k i hi hd hk
    cases k with
    | zero => omega
    | succ k =>
      simp only [mapmakerlaw20_NodingCrosses.l0]
      rw [if_neg (by omega), lives 100 livesAll k (by omega)]
      rfl
  | succ d ih =>
    intro k i hi hd hk
    cases k with
    | zero => omega
    | succ k =>
      simp only [mapmakerlaw20_NodingCrosses.l0]
      rw [if_pos (by omega), if_pos (by omega), if_pos (by omega), if_neg (by simp), wrap_succ i (by omega)]
      exact ih k (i + 1) (by omega) (by omega) (by omega)
theorem NodingCrosses : mapmakerlaw20_NodingCrosses.Pure := by
  intro l h
  refine ⟨50000, ?_⟩
  unfold mapmakerlaw20_NodingCrosses.f
  rw [few_some, Option.bind_some]
  by_cases hf : (l.length : Int) ≤ 24
  · have hu := unique_length l
    have hc := crossP_length (dd35 eqs35 (sortS (canonP l))) (by omega)
    rw [decide_eq_true hf, if_pos rfl, nCrossings l (by omega) 50000 (by omega), Option.bind_some, rCrossings l (by omega) 50000 (by omega), Option.bind_some, if_pos rfl]
    have := crosses0 (crossP (dd35 eqs35 (sortS (canonP l)))) (by omega) _ 50000 0 (by omega) rfl (by omega)
    exact this
  · rw [decide_eq_false hf, if_neg (by simp), lives 100 livesAll 50000 (by omega)]
    rfl
end Go.Proofs.Ytmejeiddlhjjmaa.Pure
