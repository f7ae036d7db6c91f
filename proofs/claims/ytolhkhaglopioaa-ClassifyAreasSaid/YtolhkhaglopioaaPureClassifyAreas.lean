/- ClassifyAreas: what themes an area, an object of a zoom and a road have; area=no makes no area and leaves the theme. -/
import Derived.Test.YtolhkhaglopioaaPureCoreEd
namespace Go.Proofs.Ytolhkhaglopioaa.Pure
set_option linter.unusedVariables false
set_option linter.unusedSimpArgs false
open Go.RowKit Go.Proofs.Ytolhkhaglopioaa.PEd Go.Proofs.YtolhkhaglopioaaW.PrintWords Go.Proofs.YtolhkhaglopioaaW.PrintLast

theorem speed_pos (c : Int) (h0 : 0 < c) (h1 : c < 7) : ∃ s, classify_Speed.f c = some s ∧ 0 < s := by
  unfold classify_Speed.f
  have : c = 1 ∨ c = 2 ∨ c = 3 ∨ c = 4 ∨ c = 5 ∨ c = 6 := by omega
  rcases this with rfl | rfl | rfl | rfl | rfl | rfl
  · exact ⟨1, rfl, by omega⟩
  · exact ⟨2, rfl, by omega⟩
  · exact ⟨3, rfl, by omega⟩
  · exact ⟨5, rfl, by omega⟩
  · exact ⟨8, rfl, by omega⟩
  · exact ⟨10, rfl, by omega⟩
theorem area_theme (l : List S32) (h : areaOf l = true) : themeOf l ≠ 0 ∧ themeOf l ≠ 4 ∧ themeOf l ≠ 6 := by
  unfold areaOf at h
  refine ⟨fun e => ?_, fun e => ?_, fun e => ?_⟩ <;> rw [e] at h <;> simp at h
theorem Areas1 (l : List S32) (hl : l.length ≤ 40) (k : Nat) (hk : 60 ≤ k) : mapmakerlaw18_ClassifyAreas.j1 (k + 1 + 1) l (themeOf l) false = some true := by
  simp only [mapmakerlaw18_ClassifyAreas.j1, Bool.false_eq_true, if_false]
  rw [tagsSet l _ _ (by omega), Option.bind_some]
  have h7 := same7 l ⟨#[97, 114, 101, 97]⟩ ⟨#[110, 111]⟩ (getOf l ⟨#[97, 114, 101, 97]⟩).2 (by decide +kernel) (by decide +kernel) (by decide +kernel) (by decide +kernel) (by decide +kernel) (by decide +kernel) (by decide +kernel)
  have e1 := set_got l ⟨#[97, 114, 101, 97]⟩ ⟨#[110, 111]⟩
  generalize setRest _ _ _ false l = m at *
  have ha : areaOf m = false := by
    have n1 : isOf m ⟨#[97, 114, 101, 97]⟩ ⟨#[110, 111]⟩ = true := by unfold isOf; rw [e1]; exact beq_self_eq_true _
    have n2 : isOf m ⟨#[97, 114, 101, 97]⟩ ⟨#[121, 101, 115]⟩ = false := by unfold isOf; rw [e1]; decide +kernel
    unfold areaOf
    rw [n1, n2]
    (repeat' split) <;> rfl
  rw [cArea, Option.bind_some, ha, if_neg Bool.false_ne_true, cTheme, Option.bind_some, if_pos h7.theme, lives _ (by omega)]
  rfl
theorem Areas0 (l : List S32) (hl : l.length ≤ 40) (k : Nat) (hk : 60 ≤ k) : mapmakerlaw18_ClassifyAreas.j0 (k + 1 + 1 + 1) l (themeOf l) false = some true := by
  have hr := themeOf_range l
  have hc := classV_range l
  simp only [mapmakerlaw18_ClassifyAreas.j0, Bool.false_eq_true, if_false]
  have hd : decide (themeOf l > 6) = false := decide_eq_false (by omega)
  by_cases h4 : themeOf l = 4
  · obtain ⟨s, hs, hs0⟩ := speed_pos (classV l) (theme4 l h4) hc.2
    rw [if_pos h4, cClass, Option.bind_some, hs, Option.bind_some, if_neg (by omega), if_neg (by omega), hd]
    exact Areas1 l hl k hk
  · rw [if_neg h4, if_neg (by omega), hd]
    exact Areas1 l hl k hk
theorem ClassifyAreas : mapmakerlaw18_ClassifyAreas.Pure := by
  intro l hw
  obtain ⟨b, hb, hs⟩ := small l hw.1 (2 * l.length + 103) (by omega)
  refine ⟨2 * l.length + 100 + 1 + 1 + 1, ?_⟩
  unfold mapmakerlaw18_ClassifyAreas.f
  rw [hb, Option.bind_some]
  cases b with
  | false => rw [if_neg Bool.false_ne_true, lives _ (by omega)]; rfl
  | true =>
    have hin := Areas0 l (hs rfl) (2 * l.length + 100) (by omega)
    have hz := zoom_range l
    have hx : ((decide (zoomOf l > 7)) != (themeOf l == 0)) = false := by
      by_cases h : themeOf l = 0
      · rw [decide_eq_true (hz.2.2 h), h]; rfl
      · rw [decide_eq_false (fun h' => h (hz.2.1 h')), beq_eq_false_iff_ne.mpr h]; rfl
    rw [if_pos rfl, cTheme, Option.bind_some, cZoom, Option.bind_some, cArea, Option.bind_some]
    cases ha : areaOf l with
    | true =>
      obtain ⟨t0, t4, t6⟩ := area_theme l ha
      rw [if_pos rfl, if_neg t0, if_neg t4, if_neg t6, if_neg (by omega), hx]
      exact hin
    | false =>
      rw [if_neg Bool.false_ne_true, if_neg (by omega), hx]
      exact hin
end Go.Proofs.Ytolhkhaglopioaa.Pure
