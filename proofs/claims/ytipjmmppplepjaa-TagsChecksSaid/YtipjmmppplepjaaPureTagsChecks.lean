/- TagsChecks: for any list of tags the program's Check and Canon answer what the reference answers; no condition. -/
import Derived.Test.YtipjmmppplepjaaPureCanon
namespace Go.Proofs.Ytipjmmppplepjaa.Pure
set_option linter.unusedVariables false
set_option linter.unusedSimpArgs false
open Go.RowKit Go.Proofs.Ytipjmmppplepjaa.PAll Go.Proofs.YtipjmmppplepjaaW.PrintWords Go.Proofs.YtipjmmppplepjaaW.PrintLast

theorem TagsChecks : mapmakerlaw06_TagsChecks.Pure := by
  intro l hw
  obtain ⟨x, hx, _⟩ := small l hw.1 (2 * l.length + 100) (by omega)
  obtain ⟨a, e, h1, hp⟩ := tagsCanon l (2 * l.length + 100) (by omega)
  obtain ⟨b, f, h2, hq⟩ := refCanon l (2 * l.length + 100) (by omega)
  obtain ⟨c, h3, _⟩ := check_some l (2 * l.length + 100) (by omega)
  obtain ⟨rfl, rfl⟩ := hp.unique hq (List.Perm.refl _)
  refine ⟨2 * l.length + 100, ?_⟩
  unfold mapmakerlaw06_TagsChecks.f
  have hal := hp.len
  rw [hx, Option.bind_some, lives _ (by omega), h1, h2, check_same, h3]
  simp only [Option.bind_some, if_true]
  rw [refSame a a (by unfold maxLen; omega) _ (by omega)]
  cases x <;> simp
end Go.Proofs.Ytipjmmppplepjaa.Pure
