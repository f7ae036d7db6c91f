/- TagsEdits: for any list of at most 40 tags the program's Set and Drop answer what the reference answers. -/
import Derived.Test.YtipjmmppplepjaaPureSetEd
namespace Go.Proofs.Ytipjmmppplepjaa.Pure
set_option linter.unusedVariables false
set_option linter.unusedSimpArgs false
open Go.RowKit Go.Proofs.Ytipjmmppplepjaa.PEd Go.Proofs.YtipjmmppplepjaaW.PrintWords Go.Proofs.YtipjmmppplepjaaW.PrintLast

theorem TagsEdits_out (l : List S34) (a1 a2 : ByteArray) (k : Nat) (hk : 60 ≤ k) : mapmakerlaw06_TagsEdits.j0 (k + 1) l a1 a2 true = some true := by
  simp only [mapmakerlaw06_TagsEdits.j0, if_true]
  rw [lives k hk]
  rfl
theorem TagsEdits_in (l : List S34) (a1 a2 : ByteArray) (hl : l.length ≤ 40) (k : Nat) (hk : 200 ≤ k) : mapmakerlaw06_TagsEdits.j0 (k + 1) l a1 a2 false = some true := by
  simp only [mapmakerlaw06_TagsEdits.j0, Bool.false_eq_true, if_false]
  have h1 := setRest_len a1 a2 (getOf l a1).2 l
  have h2 := List.length_filter_le (fun x => !keyIs a1 x) l
  rw [tagsSet l a1 a2 (by omega), Option.bind_some, refSet l a1 a2 (by omega) k (by omega), Option.bind_some, refSame _ _ (by unfold maxLen; omega) k (by omega), Option.bind_some]
  rw [if_pos (by simp), tagsDrop l a1 (by omega), Option.bind_some, refDrop l a1 (by omega) k (by omega), Option.bind_some, refSame _ _ (by unfold maxLen; omega) k (by omega), Option.bind_some]
  rw [if_pos (by simp), lives k (by omega)]
  rfl
theorem TagsEdits : mapmakerlaw06_TagsEdits.Pure := by
  intro l a1 a2 hw w1 w2
  obtain ⟨b, hb, hs⟩ := small l hw.1 (2 * l.length + 501) (by omega)
  refine ⟨2 * l.length + 500 + 1, ?_⟩
  unfold mapmakerlaw06_TagsEdits.f
  rw [hb, Option.bind_some]
  have ho := TagsEdits_out l a1 a2 (2 * l.length + 500) (by omega)
  cases b with
  | false => rw [if_neg Bool.false_ne_true]; exact ho
  | true =>
    have hin := TagsEdits_in l a1 a2 (hs rfl) (2 * l.length + 500) (by omega)
    rw [if_pos rfl]
    by_cases h1 : (a1.size : Int) > 200
    · rw [if_pos h1]; exact ho
    · rw [if_neg h1]
      cases h2 : decide ((a2.size : Int) > 200) with
      | true => exact ho
      | false => exact hin
end Go.Proofs.Ytipjmmppplepjaa.Pure
