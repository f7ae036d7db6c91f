/- GeneralizeFixes. -/
import Derived.Test.YtpgbfjndgbfhnaaPureLines
namespace Go.Proofs.Ytpgbfjndgbfhnaa.Pure
open Go.RowKit Go.Proofs.Ytpgbfjndgbfhnaa.PAll Go.Proofs.YtpgbfjndgbfhnaaW.PrintWords Go.Proofs.YtpgbfjndgbfhnaaW.PrintLast
theorem GeneralizeFixes : mapmakerlaw26_GeneralizeFixes.Pure := by
 intro l hl
 obtain ⟨b, ⟨K, hb⟩, hbb⟩ := fewW l hl.1 hl.2
 cases b with
 | false =>
  refine ⟨K + 100, ?_⟩
  have h1 := hb (K + 100) (by omega)
  dsimp only at h1
  have h2 := lives 100 livesAll (K + 100) (by omega)
  unfold mapmakerlaw26_GeneralizeFixes.f
  simp only [h1, h2, Option.bind_some, Bool.false_eq_true, if_false]
 | true =>
  obtain ⟨r, e1, ⟨K2, e2⟩, _, e3, _⟩ := fxEx l (ok_of l hl.2 (hbb rfl))
  have := (ok_of l hl.2 (hbb rfl)).pts
  obtain ⟨K3, e4⟩ := same08 r (by omega)
  refine ⟨K + K2 + K3 + 100, ?_⟩
  have h1 := hb (K + K2 + K3 + 100) (by omega)
  have h2 := lives 100 livesAll (K + K2 + K3 + 100) (by omega)
  have h3 := e2 (K + K2 + K3 + 100) (by omega)
  have h4 := e4 (K + K2 + K3 + 100) (by omega)
  dsimp only at h1 h3 h4
  unfold mapmakerlaw26_GeneralizeFixes.f
  simp only [h1, h2, e1, h3, h4, Option.bind_some, if_true]
end Go.Proofs.Ytpgbfjndgbfhnaa.Pure
