/- TagsLooks: for any two lists of tags and any key the program's Get, Number and Same answer what the reference answers; no condition. -/
import Derived.Test.YtipjmmppplepjaaPureCore
namespace Go.Proofs.Ytipjmmppplepjaa.Pure
set_option linter.unusedVariables false
set_option linter.unusedSimpArgs false
open Go.RowKit Go.Proofs.Ytipjmmppplepjaa.PAll Go.Proofs.YtipjmmppplepjaaW.PrintWords Go.Proofs.YtipjmmppplepjaaW.PrintLast

theorem looks (a b : List S34) (key : ByteArray) (ha : a.length ≤ maxLen) (x : Bool) (k : Nat) (hk : 2 * a.length + 60 < k) : mapmakerlaw06_TagsLooks.j0 (k + 1) a b key x = some true := by
  simp only [mapmakerlaw06_TagsLooks.j0]
  obtain ⟨r, hr1, hr2⟩ := numbers a key ha k (by omega)
  rw [lives k (by omega), tagsGet, refGet a key ha k (by omega), hr1, hr2, tagsSame a b ha k (by omega), refSame a b ha k (by omega), tagsSame a a ha k (by omega)]
  cases x <;> simp
theorem TagsLooks : mapmakerlaw06_TagsLooks.Pure := by
  intro a b key ha hb _
  obtain ⟨x, hx, _⟩ := small a ha.1 (2 * a.length + 2 * b.length + 62) (by omega)
  obtain ⟨y, hy, _⟩ := small b hb.1 (2 * a.length + 2 * b.length + 62) (by omega)
  refine ⟨2 * a.length + 2 * b.length + 62, ?_⟩
  unfold mapmakerlaw06_TagsLooks.f
  rw [hx, hy, Option.bind_some, Option.bind_some]
  have h := fun z => looks a b key ha.1 z (2 * a.length + 2 * b.length + 61) (by omega)
  simp only [h]
  cases x <;> cases y <;> rfl
end Go.Proofs.Ytipjmmppplepjaa.Pure
