/- ClassifyKeys: a tag with the key colour changes nothing that classify answers. -/
import Derived.Test.YtolhkhaglopioaaPureCoreEd
namespace Go.Proofs.Ytolhkhaglopioaa.Pure
set_option linter.unusedVariables false
set_option linter.unusedSimpArgs false
open Go.RowKit Go.Proofs.Ytolhkhaglopioaa.PEd Go.Proofs.YtolhkhaglopioaaW.PrintWords Go.Proofs.YtolhkhaglopioaaW.PrintLast

theorem ClassifyKeys : mapmakerlaw18_ClassifyKeys.Pure := by
  intro l a1 hw w1
  obtain ⟨b, hb, hs⟩ := small l hw.1 (2 * l.length + 103) (by omega)
  refine ⟨2 * l.length + 102 + 1, ?_⟩
  unfold mapmakerlaw18_ClassifyKeys.f
  rw [hb, Option.bind_some]
  have ho : mapmakerlaw18_ClassifyKeys.j0 (2 * l.length + 102 + 1) l a1 true = some true := by
    simp only [mapmakerlaw18_ClassifyKeys.j0, if_true]
    rw [lives _ (by omega)]
    rfl
  cases b with
  | false => rw [if_neg Bool.false_ne_true]; exact ho
  | true =>
    rw [if_pos rfl]
    cases hd : decide ((a1.size : Int) > 200) with
    | true => exact ho
    | false =>
      have hl := hs rfl
      simp only [mapmakerlaw18_ClassifyKeys.j0, Bool.false_eq_true, if_false]
      rw [tagsSet l _ a1 (by omega), Option.bind_some]
      have h7 := same7 l ⟨#[99, 111, 108, 111, 117, 114]⟩ a1 (getOf l ⟨#[99, 111, 108, 111, 117, 114]⟩).2 (by decide +kernel) (by decide +kernel) (by decide +kernel) (by decide +kernel) (by decide +kernel) (by decide +kernel) (by decide +kernel)
      have e1 := set_oth ⟨#[99, 111, 108, 111, 117, 114]⟩ a1 (getOf l ⟨#[99, 111, 108, 111, 117, 114]⟩).2 ⟨#[97, 114, 101, 97]⟩ (by decide +kernel) l false
      have e2 := set_oth ⟨#[99, 111, 108, 111, 117, 114]⟩ a1 (getOf l ⟨#[99, 111, 108, 111, 117, 114]⟩).2 ⟨#[111, 110, 101, 119, 97, 121]⟩ (by decide +kernel) l false
      have e3 := set_oth ⟨#[99, 111, 108, 111, 117, 114]⟩ a1 (getOf l ⟨#[99, 111, 108, 111, 117, 114]⟩).2 ⟨#[110, 97, 109, 101]⟩ (by decide +kernel) l false
      generalize setRest _ a1 _ false l = m at *
      have ha : areaOf m = areaOf l := by unfold areaOf isOf; rw [h7.theme, e1]
      have hw' : onewayOf m = onewayOf l := by unfold onewayOf hasOf isOf; rw [e2, h7.h3]
      rw [show 2 * l.length + 102 = (2 * l.length + 100) + 1 + 1 by omega, cTheme, Option.bind_some, cTheme, Option.bind_some, if_pos h7.theme, cArea, Option.bind_some, cArea, Option.bind_some, if_pos (by rw [ha]; simp), cZoom, Option.bind_some, cZoom, Option.bind_some, if_pos h7.zoom,
        cClass, Option.bind_some, cClass, Option.bind_some, if_pos h7.klass, cOneway, Option.bind_some, cOneway, Option.bind_some, if_pos hw', cName, Option.bind_some, cName, Option.bind_some, if_pos (by rw [e3]), lives _ (by omega)]
      rfl
end Go.Proofs.Ytolhkhaglopioaa.Pure
