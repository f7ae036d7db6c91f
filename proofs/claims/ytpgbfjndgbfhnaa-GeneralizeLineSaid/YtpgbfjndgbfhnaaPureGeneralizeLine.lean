/- GeneralizeLine. -/
import Derived.Test.YtpgbfjndgbfhnaaPureLines
import Derived.Test.YtpgbfjndgbfhnaaPAllx15
namespace Go.Proofs.Ytpgbfjndgbfhnaa.Pure
open Go.RowKit Go.Proofs.Ytpgbfjndgbfhnaa.PAll Go.Proofs.YtpgbfjndgbfhnaaW.PrintWords Go.Proofs.YtpgbfjndgbfhnaaW.PrintLast
theorem GeneralizeLine : mapmakerlaw26_GeneralizeLine.Pure := by
  intro x fx lim hx hfx hlim
  obtain ⟨b, ⟨K, hb⟩, hbb⟩ := fewW [x] (by simp) (fun y hy => by rw [List.mem_singleton.1 hy]; exact hx)
  cases b with
  | false =>
    refine ⟨K + 101, ?_⟩
    have h1 := hb (K + 101) (by omega)
    dsimp only at h1
    have h2 := lives 100 livesAll (K + 100) (by omega)
    unfold mapmakerlaw26_GeneralizeLine.f
    rw [h1, Option.bind_some, if_neg (by simp)]
    simp only [mapmakerlaw26_GeneralizeLine.j0]
    rw [if_pos trivial, h2]
    rfl
  | true =>
    have hs : Sh x := sh_of [x] (hbb rfl) x (by simp)
    by_cases c : (fx.length : Int) > 80
    · refine ⟨K + 101, ?_⟩
      have h1 := hb (K + 101) (by omega)
      dsimp only at h1
      have h2 := lives 100 livesAll (K + 100) (by omega)
      unfold mapmakerlaw26_GeneralizeLine.f
      rw [h1, Option.bind_some, if_pos rfl, decide_eq_true c]
      simp only [mapmakerlaw26_GeneralizeLine.j0]
      rw [if_pos trivial, h2]
      rfl
    · have hs1 := hs.1
      obtain ⟨K1, n1⟩ := nLine fx lim (by omega) x (by omega)
      obtain ⟨K2, n2⟩ := rLine fx lim (by omega) x (by omega)
      obtain ⟨K3, n3⟩ := same26 (L fx lim x) (L_sh fx lim x hs)
      refine ⟨K + K1 + K2 + K3 + 101, ?_⟩
      have h1 := hb (K + K1 + K2 + K3 + 101) (by omega)
      have h2 := lives 100 livesAll (K + K1 + K2 + K3 + 100) (by omega)
      have h3 := n1 (K + K1 + K2 + K3 + 100) (by omega)
      have h4 := n2 (K + K1 + K2 + K3 + 100) (by omega)
      have h5 := n3 (K + K1 + K2 + K3 + 100) (by omega)
      dsimp only at h1 h3 h4 h5
      unfold mapmakerlaw26_GeneralizeLine.f
      rw [h1, Option.bind_some, if_pos rfl, decide_eq_false c]
      simp only [mapmakerlaw26_GeneralizeLine.j0]
      rw [if_neg (by simp), h3, Option.bind_some, h4, Option.bind_some, h5, Option.bind_some, if_pos rfl, h2]
      rfl
end Go.Proofs.Ytpgbfjndgbfhnaa.Pure
