/- GeneralizeLines. -/
import Derived.Test.YtpgbfjndgbfhnaaPureLines
namespace Go.Proofs.Ytpgbfjndgbfhnaa.Pure
open Go.RowKit Go.Proofs.Ytpgbfjndgbfhnaa.PAll Go.Proofs.YtpgbfjndgbfhnaaW.PrintWords Go.Proofs.YtpgbfjndgbfhnaaW.PrintLast
theorem GeneralizeLines : mapmakerlaw26_GeneralizeLines.Pure := by
  intro l lim hl hlim
  obtain ⟨b, ⟨K, hb⟩, hbb⟩ := fewW l hl.1 hl.2
  cases b with
  | false =>
    refine ⟨K + 100, ?_⟩
    have h1 := hb (K + 100) (by omega)
    dsimp only at h1
    have h2 := lives 100 livesAll (K + 100) (by omega)
    unfold mapmakerlaw26_GeneralizeLines.f
    simp only [h1, h2, Option.bind_some, Bool.false_eq_true, if_false]
  | true =>
    have hok := ok_of l hl.2 (hbb rfl)
    obtain ⟨r, e1, e2, _, e3, _⟩ := fxEx l hok
    have hp := hok.pts
    have hn := hok.len
    obtain ⟨K1, n1⟩ := nLines l lim hok e1 (by omega)
    obtain ⟨K2, n2⟩ := rLines l lim hok e2 (by omega)
    obtain ⟨K3, n3⟩ := all26 (l.map (L r lim)) (by rw [List.length_map]; omega) (fun x hx => by
      obtain ⟨y, hy, rfl⟩ := List.mem_map.1 hx
      exact L_sh r lim y (sh_of l (hbb rfl) y hy))
    refine ⟨K + K1 + K2 + K3 + 100, ?_⟩
    have h1 := hb (K + K1 + K2 + K3 + 100) (by omega)
    have h2 := lives 100 livesAll (K + K1 + K2 + K3 + 100) (by omega)
    have h3 := n1 (K + K1 + K2 + K3 + 100) (by omega)
    have h4 := n2 (K + K1 + K2 + K3 + 100) (by omega)
    have h5 := n3 (K + K1 + K2 + K3 + 100) (by omega)
    dsimp only at h1 h3 h4 h5
    unfold mapmakerlaw26_GeneralizeLines.f
    simp only [h1, h2, h3, h4, h5, Option.bind_some, if_true]
end Go.Proofs.Ytpgbfjndgbfhnaa.Pure
