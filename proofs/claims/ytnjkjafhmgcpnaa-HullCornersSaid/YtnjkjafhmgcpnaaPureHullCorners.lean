/- Of returns the corners of the convex hull of any points (at most 40). -/
import Derived.Test.YtnjkjafhmgcpnaaPureRefHullCorners
import Derived.Test.YtnjkjafhmgcpnaaPureHoldsHullCorners
namespace Go.Proofs.Ytnjkjafhmgcpnaa.Pure
open Go.RowKit Go.Proofs.Ytnjkjafhmgcpnaa.PHullCorners Go.Proofs.YtnjkjafhmgcpnaaW.PrintWords Go.Proofs.YtnjkjafhmgcpnaaW.PrintLast
set_option linter.unusedVariables false
theorem corners (l : List S28) (hl : l.length ≤ 1000000) : ∃ h, Ev (fun k => hull_Of.f k l) h ∧ Ev (fun k => mapmakerref13_Of.f k l) h ∧ h.length ≤ 1000000 := by
  by_cases hne : l = []
  · subst hne
    exact ⟨[], ⟨0, fun k _ => nOf_nil k⟩, rOf_nil, by simp⟩
  · by_cases hg : ∀ q ∈ l, onG q
    · obtain ⟨h, he, hh⟩ := nOf l hl hne hg
      exact ⟨h, he, rOf hl hne hg hh, by have := hull_len hg hh; omega⟩
    · have hex : ∃ q ∈ l, ¬ onG q := by
        by_cases e : ∃ q ∈ l, ¬ onG q
        · exact e
        · exact absurd (fun q hq => Classical.byContradiction fun hn => e ⟨q, hq, hn⟩) hg
      exact ⟨[], ⟨0, fun k _ => nOf_bad l hex k⟩, rOf_bad l hl hex, by simp⟩
theorem HullCorners : mapmakerlaw13_HullCorners.Pure := by
  intro l _
  obtain ⟨K0, e0⟩ := livesAll
  by_cases hl : (l.length : Int) > 40
  · refine ⟨K0, ?_⟩
    have := e0 K0 (Nat.le_refl _)
    dsimp only at this
    unfold mapmakerlaw13_HullCorners.f
    rw [if_pos hl, this]; rfl
  · obtain ⟨h, ⟨K1, e1⟩, ⟨K2, e2⟩, hh⟩ := corners l (by omega)
    obtain ⟨K3, e3⟩ := rSame h h hh
    refine ⟨K0 + K1 + K2 + K3, ?_⟩
    have a0 := e0 (K0 + K1 + K2 + K3) (by omega)
    have a1 := e1 (K0 + K1 + K2 + K3) (by omega)
    have a2 := e2 (K0 + K1 + K2 + K3) (by omega)
    have a3 := e3 (K0 + K1 + K2 + K3) (by omega)
    dsimp only at a0 a1 a2 a3
    unfold mapmakerlaw13_HullCorners.f
    rw [if_neg hl, a1, Option.bind_some, a2, Option.bind_some, a3, Option.bind_some, if_pos (by simp), a0]; rfl
end Go.Proofs.Ytnjkjafhmgcpnaa.Pure
