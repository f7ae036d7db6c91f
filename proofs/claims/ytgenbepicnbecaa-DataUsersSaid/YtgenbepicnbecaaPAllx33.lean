-- out of a driver of this session's prover over the kit's print: Lean checks it
import Derived.Test.YtgenbepicnbecaaPAllx0
import Derived.Test.YtgenbepicnbecaaPAllx5
import Derived.Test.YtgenbepicnbecaaPAllx9
import Derived.Test.YtgenbepicnbecaaPAllx10
import Derived.Test.YtgenbepicnbecaaPAllx12
import Derived.Test.YtgenbepicnbecaaPAllx15
import Derived.Test.YtgenbepicnbecaaPAllx22
import Derived.Test.YtgenbepicnbecaaPAllx24
import Derived.Test.YtgenbepicnbecaaPAllx32
namespace Go.Proofs.Ytgenbepicnbecaa.PAll
open Go.Proofs.YtgenbepicnbecaaG Go.Shelf Go.Lib
open Go.RowKit Go.Proofs.YtgenbepicnbecaaW.PrintWords Go.Proofs.YtgenbepicnbecaaW.PrintLast Go.Proofs.YtgenbepicnbecaaW.PrintMore
attribute [local go_sem] max2_int min2_int max_two min_two max_three min_three max_four min_four   -- for this text's walks alone
set_option linter.unusedVariables false
set_option linter.unusedSimpArgs false
mutual
def mapmakerlaw14_DataUsers.j0 : Nat → Bool → List (S39) → List (S45) → List (S51) → Option (Bool)
 | 0, _, _, _, _ => none
 | k + 1, x19, x585000, x585001, x585002 => if x19 = true then ((mapmakerlaw14_lives.f k).bind fun t587 => (some t587)) else (mapmakerlaw14_DataUsers.l0 k 0 0 x585000 x585001 x585002)
def mapmakerlaw14_DataUsers.l0 : Nat → Int → Int → List (S39) → List (S45) → List (S51) → Option (Bool)
 | 0, _, _, _, _, _ => none
 | k + 1, x3, x4, x585000, x585001, x585002 => if x4 < (x585001.length : Int) then (mapmakerlaw14_DataUsers.l1 k x3 x4 0 x585000 x585001 x585002) else (mapmakerlaw14_DataUsers.l2 k x3 0 x585000 x585001 x585002)
def mapmakerlaw14_DataUsers.l1 : Nat → Int → Int → Int → List (S39) → List (S45) → List (S51) → Option (Bool)
 | 0, _, _, _, _, _, _ => none
 | k + 1, x3, x4, x5, x585000, x585001, x585002 => if 0 ≤ x4 then (if x4 < (x585001.length : Int) then (if x5 < (((rd_T45 x585001 x4).f1).length : Int) then (if 0 ≤ x5 then ((data_Users.f k x585000 x585001 x585002 1 (rd ((rd_T45 x585001 x4).f1) x5)).bind fun t591 => ((mapmakerlaw14_has.f k t591 2 ((rd_T45 x585001 x4).f0)).bind fun t595 => (if t595 = true then (mapmakerlaw14_DataUsers.l1 k x3 x4 (wrap64 (x5 + 1)) x585000 x585001 x585002) else (some false)))) else (none)) else (mapmakerlaw14_DataUsers.l0 k x3 (wrap64 (x4 + 1)) x585000 x585001 x585002)) else (none)) else (none)
def mapmakerlaw14_DataUsers.l2 : Nat → Int → Int → List (S39) → List (S45) → List (S51) → Option (Bool)
 | 0, _, _, _, _, _ => none
 | k + 1, x3, x6, x585000, x585001, x585002 => if x6 < (x585002.length : Int) then (mapmakerlaw14_DataUsers.l3 k x3 x6 0 x585000 x585001 x585002) else ((data_Refs.f k x585000 x585001 x585002).bind fun t604 => (mapmakerlaw14_DataUsers.l4 k x3 t604 0 x585000 x585001 x585002))
def mapmakerlaw14_DataUsers.l3 : Nat → Int → Int → Int → List (S39) → List (S45) → List (S51) → Option (Bool)
 | 0, _, _, _, _, _, _ => none
 | k + 1, x3, x6, x7, x585000, x585001, x585002 => if 0 ≤ x6 then (if x6 < (x585002.length : Int) then (if x7 < (((rd_T51 x585002 x6).f1).length : Int) then (if 0 ≤ x7 then ((data_Users.f k x585000 x585001 x585002 ((rd_T67 ((rd_T51 x585002 x6).f1) x7).f0.f0) ((rd_T67 ((rd_T51 x585002 x6).f1) x7).f0.f1)).bind fun t599 => ((mapmakerlaw14_has.f k t599 3 ((rd_T51 x585002 x6).f0)).bind fun t603 => (if t603 = true then (mapmakerlaw14_DataUsers.l3 k x3 x6 (wrap64 (x7 + 1)) x585000 x585001 x585002) else (some false)))) else (none)) else (mapmakerlaw14_DataUsers.l2 k x3 (wrap64 (x6 + 1)) x585000 x585001 x585002)) else (none)) else (none)
def mapmakerlaw14_DataUsers.l4 : Nat → Int → List (S34) → Int → List (S39) → List (S45) → List (S51) → Option (Bool)
 | 0, _, _, _, _, _, _ => none
 | k + 1, x3, x8, x9, x585000, x585001, x585002 => if x9 < (x8.length : Int) then (if 0 ≤ x9 then ((data_Users.f k x585000 x585001 x585002 ((rd_T34 x8 x9).f0) ((rd_T34 x8 x9).f1)).bind fun t611 => (mapmakerlaw14_DataUsers.l5 k x3 x8 x9 t611 0 x585000 x585001 x585002)) else (none)) else (if (x585001.length : Int) > 0 then (if ((decide (x3 > 0)) == true) = true then ((mapmakerlaw14_lives.f k).bind fun t607 => (some t607)) else (some false)) else ((mapmakerlaw14_members.f k x585000 x585001 x585002).bind fun t608 => (if ((decide (x3 > 0)) == (decide (t608 > 0))) = true then ((mapmakerlaw14_lives.f k).bind fun t609 => (some t609)) else (some false))))
def mapmakerlaw14_DataUsers.l5 : Nat → Int → List (S34) → Int → List (S34) → Int → List (S39) → List (S45) → List (S51) → Option (Bool)
 | 0, _, _, _, _, _, _, _, _ => none
 | k + 1, x3, x8, x9, x10, x11, x585000, x585001, x585002 => if x11 < (x10.length : Int) then (if 0 ≤ x11 then ((data_Has.f k x585000 x585001 x585002 ((rd_T34 x10 x11).f0) ((rd_T34 x10 x11).f1)).bind fun t615 => (if t615 = true then (if x11 > 0 then (if 0 ≤ (wrap64 (x11 - 1)) then (if (wrap64 (x11 - 1)) < (x10.length : Int) then ((mapmakerref14_Less.f ((rd_T34 x10 (wrap64 (x11 - 1))).f0) ((rd_T34 x10 (wrap64 (x11 - 1))).f1) ((rd_T34 x10 x11).f0) ((rd_T34 x10 x11).f1)).bind fun t618 => (if t618 = true then (mapmakerlaw14_DataUsers.l5 k (wrap64 (x3 + 1)) x8 x9 x10 (wrap64 (x11 + 1)) x585000 x585001 x585002) else (some false))) else (none)) else (none)) else (mapmakerlaw14_DataUsers.l5 k (wrap64 (x3 + 1)) x8 x9 x10 (wrap64 (x11 + 1)) x585000 x585001 x585002)) else (some false))) else (none)) else (mapmakerlaw14_DataUsers.l4 k x3 x8 (wrap64 (x9 + 1)) x585000 x585001 x585002)
end
def mapmakerlaw14_DataUsers.f (k : Nat) (l0_0 : List (S39)) (l0_1 : List (S45)) (l0_2 : List (S51)) : Option (Bool) := (mapmakerref14_Few.f k l0_0 l0_1 l0_2 600).bind fun t585 => (if t585 = true then ((data_Check.f k l0_0 l0_1 l0_2).bind fun t586 => (mapmakerlaw14_DataUsers.j0 k (t586 != 0) l0_0 l0_1 l0_2)) else (mapmakerlaw14_DataUsers.j0 k true l0_0 l0_1 l0_2))
theorem mapmakerlaw14_DataUsers.mono_l : ∀ k, (∀ y0 y1 y2 y3, LeO (mapmakerlaw14_DataUsers.j0 k y0 y1 y2 y3) (mapmakerlaw14_DataUsers.j0 (k + 1) y0 y1 y2 y3)) ∧ (∀ y0 y1 y2 y3 y4, LeO (mapmakerlaw14_DataUsers.l0 k y0 y1 y2 y3 y4) (mapmakerlaw14_DataUsers.l0 (k + 1) y0 y1 y2 y3 y4)) ∧ (∀ y0 y1 y2 y3 y4 y5, LeO (mapmakerlaw14_DataUsers.l1 k y0 y1 y2 y3 y4 y5) (mapmakerlaw14_DataUsers.l1 (k + 1) y0 y1 y2 y3 y4 y5)) ∧ (∀ y0 y1 y2 y3 y4, LeO (mapmakerlaw14_DataUsers.l2 k y0 y1 y2 y3 y4) (mapmakerlaw14_DataUsers.l2 (k + 1) y0 y1 y2 y3 y4)) ∧ (∀ y0 y1 y2 y3 y4 y5, LeO (mapmakerlaw14_DataUsers.l3 k y0 y1 y2 y3 y4 y5) (mapmakerlaw14_DataUsers.l3 (k + 1) y0 y1 y2 y3 y4 y5)) ∧ (∀ y0 y1 y2 y3 y4 y5, LeO (mapmakerlaw14_DataUsers.l4 k y0 y1 y2 y3 y4 y5) (mapmakerlaw14_DataUsers.l4 (k + 1) y0 y1 y2 y3 y4 y5)) ∧ (∀ y0 y1 y2 y3 y4 y5 y6 y7, LeO (mapmakerlaw14_DataUsers.l5 k y0 y1 y2 y3 y4 y5 y6 y7) (mapmakerlaw14_DataUsers.l5 (k + 1) y0 y1 y2 y3 y4 y5 y6 y7))
 | 0 => ⟨fun _ _ _ _ r h => by simp [mapmakerlaw14_DataUsers.j0] at h, fun _ _ _ _ _ r h => by simp [mapmakerlaw14_DataUsers.l0] at h, fun _ _ _ _ _ _ r h => by simp [mapmakerlaw14_DataUsers.l1] at h, fun _ _ _ _ _ r h => by simp [mapmakerlaw14_DataUsers.l2] at h, fun _ _ _ _ _ _ r h => by simp [mapmakerlaw14_DataUsers.l3] at h, fun _ _ _ _ _ _ r h => by simp [mapmakerlaw14_DataUsers.l4] at h, fun _ _ _ _ _ _ _ _ r h => by simp [mapmakerlaw14_DataUsers.l5] at h⟩
 | k + 1 => by
  obtain ⟨ih0, ih1, ih2, ih3, ih4, ih5, ih6⟩ := mapmakerlaw14_DataUsers.mono_l k
  refine ⟨?_, ?_, ?_, ?_, ?_, ?_, ?_⟩
  ·intro y0 y1 y2 y3
   unfold mapmakerlaw14_DataUsers.j0
   repeat' first
   | (with_reducible exact ih0 _ _ _ _)
   | (with_reducible exact ih1 _ _ _ _ _)
   | (with_reducible exact ih2 _ _ _ _ _ _)
   | (with_reducible exact ih3 _ _ _ _ _)
   | (with_reducible exact ih4 _ _ _ _ _ _)
   | (with_reducible exact ih5 _ _ _ _ _ _)
   | (with_reducible exact ih6 _ _ _ _ _ _ _ _)
   | (with_reducible exact data_Check.mono _ _ _ _)
   | (with_reducible exact data_Has.mono _ _ _ _ _ _)
   | (with_reducible exact data_Refs.mono _ _ _ _)
   | (with_reducible exact data_Users.mono _ _ _ _ _ _)
   | (with_reducible exact mapmakerlaw14_has.mono _ _ _ _)
   | (with_reducible exact mapmakerlaw14_lives.mono _)
   | (with_reducible exact mapmakerlaw14_members.mono _ _ _ _)
   | (with_reducible exact mapmakerref14_Few.mono _ _ _ _ _)
   | (with_reducible exact LeO.refl _)
   | (with_reducible exact LeO.none _)
   | (with_reducible refine LeO.ite ?_ ?_)
   | (with_reducible refine LeO.bind ?_ (fun _ => ?_))
   | exact ih0 _ _ _ _
   | exact ih1 _ _ _ _ _
   | exact ih2 _ _ _ _ _ _
   | exact ih3 _ _ _ _ _
   | exact ih4 _ _ _ _ _ _
   | exact ih5 _ _ _ _ _ _
   | exact ih6 _ _ _ _ _ _ _ _
   | exact data_Check.mono _ _ _ _
   | exact data_Has.mono _ _ _ _ _ _
   | exact data_Refs.mono _ _ _ _
   | exact data_Users.mono _ _ _ _ _ _
   | exact mapmakerlaw14_has.mono _ _ _ _
   | exact mapmakerlaw14_lives.mono _
   | exact mapmakerlaw14_members.mono _ _ _ _
   | exact mapmakerref14_Few.mono _ _ _ _ _
   | exact LeO.none _
   | refine LeO.ite ?_ ?_
   | refine LeO.bind ?_ (fun _ => ?_)
  ·intro y0 y1 y2 y3 y4
   unfold mapmakerlaw14_DataUsers.l0
   repeat' first
   | (with_reducible exact ih0 _ _ _ _)
   | (with_reducible exact ih1 _ _ _ _ _)
   | (with_reducible exact ih2 _ _ _ _ _ _)
   | (with_reducible exact ih3 _ _ _ _ _)
   | (with_reducible exact ih4 _ _ _ _ _ _)
   | (with_reducible exact ih5 _ _ _ _ _ _)
   | (with_reducible exact ih6 _ _ _ _ _ _ _ _)
   | (with_reducible exact data_Check.mono _ _ _ _)
   | (with_reducible exact data_Has.mono _ _ _ _ _ _)
   | (with_reducible exact data_Refs.mono _ _ _ _)
   | (with_reducible exact data_Users.mono _ _ _ _ _ _)
   | (with_reducible exact mapmakerlaw14_has.mono _ _ _ _)
   | (with_reducible exact mapmakerlaw14_lives.mono _)
   | (with_reducible exact mapmakerlaw14_members.mono _ _ _ _)
   | (with_reducible exact mapmakerref14_Few.mono _ _ _ _ _)
   | (with_reducible exact LeO.refl _)
   | (with_reducible exact LeO.none _)
   | (with_reducible refine LeO.ite ?_ ?_)
   | (with_reducible refine LeO.bind ?_ (fun _ => ?_))
   | exact ih0 _ _ _ _
   | exact ih1 _ _ _ _ _
   | exact ih2 _ _ _ _ _ _
   | exact ih3 _ _ _ _ _
   | exact ih4 _ _ _ _ _ _
   | exact ih5 _ _ _ _ _ _
   | exact ih6 _ _ _ _ _ _ _ _
   | exact data_Check.mono _ _ _ _
   | exact data_Has.mono _ _ _ _ _ _
   | exact data_Refs.mono _ _ _ _
   | exact data_Users.mono _ _ _ _ _ _
   | exact mapmakerlaw14_has.mono _ _ _ _
   | exact mapmakerlaw14_lives.mono _
   | exact mapmakerlaw14_members.mono _ _ _ _
   | exact mapmakerref14_Few.mono _ _ _ _ _
   | exact LeO.none _
   | refine LeO.ite ?_ ?_
   | refine LeO.bind ?_ (fun _ => ?_)
  ·intro y0 y1 y2 y3 y4 y5
   unfold mapmakerlaw14_DataUsers.l1
   repeat' first
   | (with_reducible exact ih0 _ _ _ _)
   | (with_reducible exact ih1 _ _ _ _ _)
   | (with_reducible exact ih2 _ _ _ _ _ _)
   | (with_reducible exact ih3 _ _ _ _ _)
   | (with_reducible exact ih4 _ _ _ _ _ _)
   | (with_reducible exact ih5 _ _ _ _ _ _)
   | (with_reducible exact ih6 _ _ _ _ _ _ _ _)
   | (with_reducible exact data_Check.mono _ _ _ _)
   | (with_reducible exact data_Has.mono _ _ _ _ _ _)
   | (with_reducible exact data_Refs.mono _ _ _ _)
   | (with_reducible exact data_Users.mono _ _ _ _ _ _)
   | (with_reducible exact mapmakerlaw14_has.mono _ _ _ _)
   | (with_reducible exact mapmakerlaw14_lives.mono _)
   | (with_reducible exact mapmakerlaw14_members.mono _ _ _ _)
   | (with_reducible exact mapmakerref14_Few.mono _ _ _ _ _)
   | (with_reducible exact LeO.refl _)
   | (with_reducible exact LeO.none _)
   | (with_reducible refine LeO.ite ?_ ?_)
   | (with_reducible refine LeO.bind ?_ (fun _ => ?_))
   | exact ih0 _ _ _ _
   | exact ih1 _ _ _ _ _
   | exact ih2 _ _ _ _ _ _
   | exact ih3 _ _ _ _ _
   | exact ih4 _ _ _ _ _ _
   | exact ih5 _ _ _ _ _ _
   | exact ih6 _ _ _ _ _ _ _ _
   | exact data_Check.mono _ _ _ _
   | exact data_Has.mono _ _ _ _ _ _
   | exact data_Refs.mono _ _ _ _
   | exact data_Users.mono _ _ _ _ _ _
   | exact mapmakerlaw14_has.mono _ _ _ _
   | exact mapmakerlaw14_lives.mono _
   | exact mapmakerlaw14_members.mono _ _ _ _
   | exact mapmakerref14_Few.mono _ _ _ _ _
   | exact LeO.none _
   | refine LeO.ite ?_ ?_
   | refine LeO.bind ?_ (fun _ => ?_)
  ·intro y0 y1 y2 y3 y4
   unfold mapmakerlaw14_DataUsers.l2
   repeat' first
   | (with_reducible exact ih0 _ _ _ _)
   | (with_reducible exact ih1 _ _ _ _ _)
   | (with_reducible exact ih2 _ _ _ _ _ _)
   | (with_reducible exact ih3 _ _ _ _ _)
   | (with_reducible exact ih4 _ _ _ _ _ _)
   | (with_reducible exact ih5 _ _ _ _ _ _)
   | (with_reducible exact ih6 _ _ _ _ _ _ _ _)
   | (with_reducible exact data_Check.mono _ _ _ _)
   | (with_reducible exact data_Has.mono _ _ _ _ _ _)
   | (with_reducible exact data_Refs.mono _ _ _ _)
   | (with_reducible exact data_Users.mono _ _ _ _ _ _)
   | (with_reducible exact mapmakerlaw14_has.mono _ _ _ _)
   | (with_reducible exact mapmakerlaw14_lives.mono _)
   | (with_reducible exact mapmakerlaw14_members.mono _ _ _ _)
   | (with_reducible exact mapmakerref14_Few.mono _ _ _ _ _)
   | (with_reducible exact LeO.refl _)
   | (with_reducible exact LeO.none _)
   | (with_reducible refine LeO.ite ?_ ?_)
   | (with_reducible refine LeO.bind ?_ (fun _ => ?_))
   | exact ih0 _ _ _ _
   | exact ih1 _ _ _ _ _
   | exact ih2 _ _ _ _ _ _
   | exact ih3 _ _ _ _ _
   | exact ih4 _ _ _ _ _ _
   | exact ih5 _ _ _ _ _ _
   | exact ih6 _ _ _ _ _ _ _ _
   | exact data_Check.mono _ _ _ _
   | exact data_Has.mono _ _ _ _ _ _
   | exact data_Refs.mono _ _ _ _
   | exact data_Users.mono _ _ _ _ _ _
   | exact mapmakerlaw14_has.mono _ _ _ _
   | exact mapmakerlaw14_lives.mono _
   | exact mapmakerlaw14_members.mono _ _ _ _
   | exact mapmakerref14_Few.mono _ _ _ _ _
   | exact LeO.none _
   | refine LeO.ite ?_ ?_
   | refine LeO.bind ?_ (fun _ => ?_)
  ·intro y0 y1 y2 y3 y4 y5
   unfold mapmakerlaw14_DataUsers.l3
   repeat' first
   | (with_reducible exact ih0 _ _ _ _)
   | (with_reducible exact ih1 _ _ _ _ _)
   | (with_reducible exact ih2 _ _ _ _ _ _)
   | (with_reducible exact ih3 _ _ _ _ _)
   | (with_reducible exact ih4 _ _ _ _ _ _)
   | (with_reducible exact ih5 _ _ _ _ _ _)
   | (with_reducible exact ih6 _ _ _ _ _ _ _ _)
   | (with_reducible exact data_Check.mono _ _ _ _)
   | (with_reducible exact data_Has.mono _ _ _ _ _ _)
   | (with_reducible exact data_Refs.mono _ _ _ _)
   | (with_reducible exact data_Users.mono _ _ _ _ _ _)
   | (with_reducible exact mapmakerlaw14_has.mono _ _ _ _)
   | (with_reducible exact mapmakerlaw14_lives.mono _)
   | (with_reducible exact mapmakerlaw14_members.mono _ _ _ _)
   | (with_reducible exact mapmakerref14_Few.mono _ _ _ _ _)
   | (with_reducible exact LeO.refl _)
   | (with_reducible exact LeO.none _)
   | (with_reducible refine LeO.ite ?_ ?_)
   | (with_reducible refine LeO.bind ?_ (fun _ => ?_))
   | exact ih0 _ _ _ _
   | exact ih1 _ _ _ _ _
   | exact ih2 _ _ _ _ _ _
   | exact ih3 _ _ _ _ _
   | exact ih4 _ _ _ _ _ _
   | exact ih5 _ _ _ _ _ _
   | exact ih6 _ _ _ _ _ _ _ _
   | exact data_Check.mono _ _ _ _
   | exact data_Has.mono _ _ _ _ _ _
   | exact data_Refs.mono _ _ _ _
   | exact data_Users.mono _ _ _ _ _ _
   | exact mapmakerlaw14_has.mono _ _ _ _
   | exact mapmakerlaw14_lives.mono _
   | exact mapmakerlaw14_members.mono _ _ _ _
   | exact mapmakerref14_Few.mono _ _ _ _ _
   | exact LeO.none _
   | refine LeO.ite ?_ ?_
   | refine LeO.bind ?_ (fun _ => ?_)
  ·intro y0 y1 y2 y3 y4 y5
   unfold mapmakerlaw14_DataUsers.l4
   repeat' first
   | (with_reducible exact ih0 _ _ _ _)
   | (with_reducible exact ih1 _ _ _ _ _)
   | (with_reducible exact ih2 _ _ _ _ _ _)
   | (with_reducible exact ih3 _ _ _ _ _)
   | (with_reducible exact ih4 _ _ _ _ _ _)
   | (with_reducible exact ih5 _ _ _ _ _ _)
   | (with_reducible exact ih6 _ _ _ _ _ _ _ _)
   | (with_reducible exact data_Check.mono _ _ _ _)
   | (with_reducible exact data_Has.mono _ _ _ _ _ _)
   | (with_reducible exact data_Refs.mono _ _ _ _)
   | (with_reducible exact data_Users.mono _ _ _ _ _ _)
   | (with_reducible exact mapmakerlaw14_has.mono _ _ _ _)
   | (with_reducible exact mapmakerlaw14_lives.mono _)
   | (with_reducible exact mapmakerlaw14_members.mono _ _ _ _)
   | (with_reducible exact mapmakerref14_Few.mono _ _ _ _ _)
   | (with_reducible exact LeO.refl _)
   | (with_reducible exact LeO.none _)
   | (with_reducible refine LeO.ite ?_ ?_)
   | (with_reducible refine LeO.bind ?_ (fun _ => ?_))
   | exact ih0 _ _ _ _
   | exact ih1 _ _ _ _ _
   | exact ih2 _ _ _ _ _ _
   | exact ih3 _ _ _ _ _
   | exact ih4 _ _ _ _ _ _
   | exact ih5 _ _ _ _ _ _
   | exact ih6 _ _ _ _ _ _ _ _
   | exact data_Check.mono _ _ _ _
   | exact data_Has.mono _ _ _ _ _ _
   | exact data_Refs.mono _ _ _ _
   | exact data_Users.mono _ _ _ _ _ _
   | exact mapmakerlaw14_has.mono _ _ _ _
   | exact mapmakerlaw14_lives.mono _
   | exact mapmakerlaw14_members.mono _ _ _ _
   | exact mapmakerref14_Few.mono _ _ _ _ _
   | exact LeO.none _
   | refine LeO.ite ?_ ?_
   | refine LeO.bind ?_ (fun _ => ?_)
  ·intro y0 y1 y2 y3 y4 y5 y6 y7
   unfold mapmakerlaw14_DataUsers.l5
   repeat' first
   | (with_reducible exact ih0 _ _ _ _)
   | (with_reducible exact ih1 _ _ _ _ _)
   | (with_reducible exact ih2 _ _ _ _ _ _)
   | (with_reducible exact ih3 _ _ _ _ _)
   | (with_reducible exact ih4 _ _ _ _ _ _)
   | (with_reducible exact ih5 _ _ _ _ _ _)
   | (with_reducible exact ih6 _ _ _ _ _ _ _ _)
   | (with_reducible exact data_Check.mono _ _ _ _)
   | (with_reducible exact data_Has.mono _ _ _ _ _ _)
   | (with_reducible exact data_Refs.mono _ _ _ _)
   | (with_reducible exact data_Users.mono _ _ _ _ _ _)
   | (with_reducible exact mapmakerlaw14_has.mono _ _ _ _)
   | (with_reducible exact mapmakerlaw14_lives.mono _)
   | (with_reducible exact mapmakerlaw14_members.mono _ _ _ _)
   | (with_reducible exact mapmakerref14_Few.mono _ _ _ _ _)
   | (with_reducible exact LeO.refl _)
   | (with_reducible exact LeO.none _)
   | (with_reducible refine LeO.ite ?_ ?_)
   | (with_reducible refine LeO.bind ?_ (fun _ => ?_))
   | exact ih0 _ _ _ _
   | exact ih1 _ _ _ _ _
   | exact ih2 _ _ _ _ _ _
   | exact ih3 _ _ _ _ _
   | exact ih4 _ _ _ _ _ _
   | exact ih5 _ _ _ _ _ _
   | exact ih6 _ _ _ _ _ _ _ _
   | exact data_Check.mono _ _ _ _
   | exact data_Has.mono _ _ _ _ _ _
   | exact data_Refs.mono _ _ _ _
   | exact data_Users.mono _ _ _ _ _ _
   | exact mapmakerlaw14_has.mono _ _ _ _
   | exact mapmakerlaw14_lives.mono _
   | exact mapmakerlaw14_members.mono _ _ _ _
   | exact mapmakerref14_Few.mono _ _ _ _ _
   | exact LeO.none _
   | refine LeO.ite ?_ ?_
   | refine LeO.bind ?_ (fun _ => ?_)
theorem mapmakerlaw14_DataUsers.mono : ∀ a0 a1 a2 k, LeO (mapmakerlaw14_DataUsers.f k a0 a1 a2) (mapmakerlaw14_DataUsers.f (k + 1) a0 a1 a2) := by
 intro a0 a1 a2 k
 obtain ⟨ih0, ih1, ih2, ih3, ih4, ih5, ih6⟩ := mapmakerlaw14_DataUsers.mono_l k
 unfold mapmakerlaw14_DataUsers.f
 repeat' first
   | (with_reducible exact ih0 _ _ _ _)
   | (with_reducible exact ih1 _ _ _ _ _)
   | (with_reducible exact ih2 _ _ _ _ _ _)
   | (with_reducible exact ih3 _ _ _ _ _)
   | (with_reducible exact ih4 _ _ _ _ _ _)
   | (with_reducible exact ih5 _ _ _ _ _ _)
   | (with_reducible exact ih6 _ _ _ _ _ _ _ _)
   | (with_reducible exact data_Check.mono _ _ _ _)
   | (with_reducible exact data_Has.mono _ _ _ _ _ _)
   | (with_reducible exact data_Refs.mono _ _ _ _)
   | (with_reducible exact data_Users.mono _ _ _ _ _ _)
   | (with_reducible exact mapmakerlaw14_has.mono _ _ _ _)
   | (with_reducible exact mapmakerlaw14_lives.mono _)
   | (with_reducible exact mapmakerlaw14_members.mono _ _ _ _)
   | (with_reducible exact mapmakerref14_Few.mono _ _ _ _ _)
   | (with_reducible exact LeO.refl _)
   | (with_reducible exact LeO.none _)
   | (with_reducible refine LeO.ite ?_ ?_)
   | (with_reducible refine LeO.bind ?_ (fun _ => ?_))
   | exact ih0 _ _ _ _
   | exact ih1 _ _ _ _ _
   | exact ih2 _ _ _ _ _ _
   | exact ih3 _ _ _ _ _
   | exact ih4 _ _ _ _ _ _
   | exact ih5 _ _ _ _ _ _
   | exact ih6 _ _ _ _ _ _ _ _
   | exact data_Check.mono _ _ _ _
   | exact data_Has.mono _ _ _ _ _ _
   | exact data_Refs.mono _ _ _ _
   | exact data_Users.mono _ _ _ _ _ _
   | exact mapmakerlaw14_has.mono _ _ _ _
   | exact mapmakerlaw14_lives.mono _
   | exact mapmakerlaw14_members.mono _ _ _ _
   | exact mapmakerref14_Few.mono _ _ _ _ _
   | exact LeO.none _
   | refine LeO.ite ?_ ?_
   | refine LeO.bind ?_ (fun _ => ?_)
def mapmakerlaw14_DataUsers.T10 : Bool × List (List Nat × List Nat) := (true, [([], []), ([], []), ([1], [1]), ([], []), ([2, 3], [2, 3]), ([4], [4]), ([5], [5]), ([], []), ([6, 7], [6, 7]), ([8], [8]), ([9], [9]), ([0, 10], [0, 10]), ([], []), ([12], [12]), ([], []), ([13, 14], [13, 14]), ([15], [15]), ([16], [16]), ([17], [17]), ([11, 18, 11], [11, 18]), ([19], [19])])
def mapmakerlaw14_DataUsers.B10 : List Nat := [0, 0, 2, 0, 14, 30, 62, 0, 254, 510, 1022, 2047, 0, 4096, 0, 28672, 61440, 126976, 258048, 524287, 1048575]
theorem mapmakerlaw14_DataUsers.tab10 : rtab .any (opsOf Try.f7 10) = mapmakerlaw14_DataUsers.T10 := by kernel_rfl
theorem mapmakerlaw14_DataUsers.bits10 : waitsOk mapmakerlaw14_DataUsers.T10.2 mapmakerlaw14_DataUsers.B10 = true := by kernel_rfl
def mapmakerlaw14_DataUsers.T18 : Bool × List (List Nat × List Nat) := (true, [([], []), ([], []), ([1], [1]), ([], []), ([2, 3], [2, 3]), ([4], [4]), ([5], [5]), ([], []), ([6, 7], [6, 7]), ([8], [8]), ([9], [9]), ([0, 10], [0, 10]), ([], []), ([12], [12]), ([], []), ([13, 14], [13, 14]), ([15], [15]), ([16], [16]), ([17], [17]), ([11, 18, 11], [11, 18]), ([19], [19])])
def mapmakerlaw14_DataUsers.B18 : List Nat := [0, 0, 2, 0, 14, 30, 62, 0, 254, 510, 1022, 2047, 0, 4096, 0, 28672, 61440, 126976, 258048, 524287, 1048575]
theorem mapmakerlaw14_DataUsers.tab18 : rtab .any (opsOf Try.f7 18) = mapmakerlaw14_DataUsers.T18 := by kernel_rfl
theorem mapmakerlaw14_DataUsers.bits18 : waitsOk mapmakerlaw14_DataUsers.T18.2 mapmakerlaw14_DataUsers.B18 = true := by kernel_rfl
def mapmakerlaw14_DataUsers.T29 : Bool × List (List Nat × List Nat) := (true, [([], []), ([], []), ([], []), ([1, 2], [1, 2]), ([3], [3]), ([0, 4], [0, 4]), ([5], [5]), ([6, 5], [6]), ([7], [7]), ([8, 7], [7, 8]), ([9, 7, 7], [7, 9]), ([10], [10]), ([10], [10]), ([12, 10], [10, 12]), ([11, 13, 10], [10, 11, 13]), ([14, 10], [10, 14]), ([10], [10]), ([10], [10]), ([16, 17, 10], [10, 16, 17]), ([18, 10], [10, 18]), ([15, 19, 10, 10], [10, 15, 19]), ([20, 10], [10, 20]), ([10, 21, 7], [7, 10, 21]), ([7, 22], [7, 22])])
def mapmakerlaw14_DataUsers.B29 : List Nat := [0, 0, 0, 6, 14, 31, 63, 127, 255, 511, 1023, 2047, 2047, 6143, 16383, 32767, 2047, 2047, 198655, 460799, 1048575, 2097151, 4194303, 8388607]
theorem mapmakerlaw14_DataUsers.tab29 : rtab .any (opsOf Try.f7 29) = mapmakerlaw14_DataUsers.T29 := by kernel_rfl
theorem mapmakerlaw14_DataUsers.bits29 : waitsOk mapmakerlaw14_DataUsers.T29.2 mapmakerlaw14_DataUsers.B29 = true := by kernel_rfl
set_option maxHeartbeats 8000000 in
set_option maxRecDepth 100000 in
theorem mapmakerlaw14_DataUsers.callsT (k : Nat) (A0_0 : Option Addr) (c0_0 : Nat) (l0_0 : List (S39)) (A0_1 : Option Addr) (c0_1 : Nat) (l0_1 : List (S45)) (A0_2 : Option Addr) (c0_2 : Nat) (l0_2 : List (S51)) (r : Bool) (w : World) (hr0_0 : Kd.C k39 w A0_0 l0_0.length l0_0) (hc0_0 : l0_0.length ≤ c0_0) (hr0_1 : Kd.C k45 w A0_1 l0_1.length l0_1) (hc0_1 : l0_1.length ≤ c0_1) (hr0_2 : Kd.C k51 w A0_2 l0_2.length l0_2) (hc0_2 : l0_2.length ≤ c0_2) (h : mapmakerlaw14_DataUsers.f k l0_0 l0_1 l0_2 = some r) (hT : r = true) :
  Calls Try.prog 7 #[.agg #[.slice A0_0 l0_0.length c0_0, .slice A0_1 l0_1.length c0_1, .slice A0_2 l0_2.length c0_2]] w fun e w' => e = .returned (.bool r) ∧ Below w.heap.size w w' := by
 have hu26 := Try.underlying26
 have hu34 := Try.underlying34
 have HR0_0 := aM hr0_0
 have HC0_0 := aM hc0_0
 clear hr0_0 hc0_0
 have HR0_1 := aM hr0_1
 have HC0_1 := aM hc0_1
 clear hr0_1 hc0_1
 have HR0_2 := aM hr0_2
 have HC0_2 := aM hc0_2
 clear hr0_2 hc0_2
 have HB := aM (Below.refl w.heap.size w)
 have H : ((mapmakerref14_Few.f k l0_0 l0_1 l0_2 600).bind fun t585 => (if t585 = true then ((data_Check.f k l0_0 l0_1 l0_2).bind fun t586 => (mapmakerlaw14_DataUsers.j0 k (t586 != 0) l0_0 l0_1 l0_2)) else (mapmakerlaw14_DataUsers.j0 k true l0_0 l0_1 l0_2))) = some r := h
 clear h
 have HC2 := aM H
 clear H
 go_enter Try.func7, Try.ntmps7
 go_upto_region 1 with (first | ((with_reducible refine gate_dst (N := 1) rfl ?_); refine bx (N := 1) (cs := #[.slice A0_0 l0_0.length c0_0, .slice A0_1 l0_1.length c0_1, .slice A0_2 l0_2.length c0_2]) (t := 26) ?_; intro gb584 hg w3 hbox hb; have BK584 := aM (hbox); have GE584 := aM (gw (w := w) hg); replace HB := aM (bS (bl) hb); clear hb hbox hg))
 (try simp only [Act.put, sA, sB, sC])
 go_cut [19] (fun v19 wc => ∃ (kq : Nat) (x19_1 : Bool), v19 = .bool x19_1 ∧ Aside0 (mapmakerlaw14_DataUsers.j0 kq x19_1 l0_0 l0_1 l0_2 = some r) ∧ Aside0 (kq ≤ k) ∧ Aside0 (wc.heap[gb584]? = some (.cells #[(.slice A0_0 l0_0.length c0_0), (.slice A0_1 l0_1.length c0_1), (.slice A0_2 l0_2.length c0_2)] 26 (0, 0))) ∧ Aside0 (Below w.heap.size w wc))
 case first =>
  have H := HC2.out
  clear HC2
  replace H := Option.bind_eq_some_iff.mp H
  obtain ⟨t585, A40, H⟩ := H
  try dsimp only at H
  have A4 := aM A40
  clear A40
  by_cases c5 : t585 = true
  ·subst c5
   have H1 : ((data_Check.f k l0_0 l0_1 l0_2).bind fun t586 => (mapmakerlaw14_DataUsers.j0 k (t586 != 0) l0_0 l0_1 l0_2)) = some r := by rw [if_pos rfl] at H; exact H
   clear H
   have H := H1
   clear H1
   replace H := Option.bind_eq_some_iff.mp H
   obtain ⟨t586, A60, H⟩ := H
   try dsimp only at H
   have A6 := aM A60
   clear A60
   have H' := aM H
   clear H
   obtain ⟨hcz7_0, hcz7_1, hcz7_2, hfz7_0, hfz7_1, hfz7_2⟩ := bc3 BK584
   go_wp2_with (first | ((with_reducible refine gate_callee (f := 8) rfl ?_); refine gL (some 13) Try.func8 #[.agg #[.slice A0_0 l0_0.length c0_0, .slice A0_1 l0_1.length c0_1, .slice A0_2 l0_2.length c0_2], .int .i64 600] ?_; (with_reducible refine (mapmakerref14_Few.calls k _ _ l0_0 _ _ l0_1 _ _ l0_2 600 true _ ?side1 ?side2 ?side3 ?side4 ?side5 ?side6 A4.out).mono ?_); (case side1 => exact cl HR0_0); (case side2 => exact HC0_0.out); (case side3 => exact cl HR0_1); (case side4 => exact HC0_1.out); (case side5 => exact cl HR0_2); (case side6 => exact HC0_2.out); rintro e w8 ⟨rfl, hb⟩; refine ⟨_, rfl, ?_⟩; replace BK584 := aM (kB (kl BK584) hb); replace HB := aM (bS (bl) hb); (try clear hb); obtain ⟨hcz9_0, hcz9_1, hcz9_2, hfz9_0, hfz9_1, hfz9_2⟩ := bc3 BK584) | (go_at_call 10; (with_reducible refine (data_Check.calls k _ _ l0_0 _ _ l0_1 _ _ l0_2 t586 _ ?side1 ?side2 ?side3 ?side4 ?side5 ?side6 A6.out).mono ?_); (case side1 => exact cl HR0_0); (case side2 => exact HC0_0.out); (case side3 => exact cl HR0_1); (case side4 => exact HC0_1.out); (case side5 => exact cl HR0_2); (case side6 => exact HC0_2.out); rintro e w10 ⟨rfl, hb⟩; replace BK584 := aM (kB (kl BK584) hb); replace HB := aM (bS (bl) hb); (try clear hb)))
   go_meet
   case rel => exact ⟨_, ((t586 != 0)), (by first | rfl | (simp; done) | (simp [*]; done)), H', ⟨by first | omega | exact Nat.le_refl _⟩, ⟨by (with_reducible repeat (first | refine kN ?_ _ | refine kD ?_ | refine kA ?_ _)); exact BK584.out⟩, ⟨bl⟩⟩
  ·replace c5 := Bool.eq_false_iff.mpr c5
   subst c5
   have H1 : (mapmakerlaw14_DataUsers.j0 k true l0_0 l0_1 l0_2) = some r := by rw [if_neg (show ¬ (false = true) by decide)] at H; exact H
   clear H
   have H := H1
   clear H1
   have H' := aM H
   clear H
   obtain ⟨hcz11_0, hcz11_1, hcz11_2, hfz11_0, hfz11_1, hfz11_2⟩ := bc3 BK584
   go_wp2_with (first | ((with_reducible refine gate_callee (f := 8) rfl ?_); refine gL (some 13) Try.func8 #[.agg #[.slice A0_0 l0_0.length c0_0, .slice A0_1 l0_1.length c0_1, .slice A0_2 l0_2.length c0_2], .int .i64 600] ?_; (with_reducible refine (mapmakerref14_Few.calls k _ _ l0_0 _ _ l0_1 _ _ l0_2 600 false _ ?side1 ?side2 ?side3 ?side4 ?side5 ?side6 A4.out).mono ?_); (case side1 => exact cl HR0_0); (case side2 => exact HC0_0.out); (case side3 => exact cl HR0_1); (case side4 => exact HC0_1.out); (case side5 => exact cl HR0_2); (case side6 => exact HC0_2.out); rintro e w12 ⟨rfl, hb⟩; refine ⟨_, rfl, ?_⟩; replace BK584 := aM (kB (kl BK584) hb); replace HB := aM (bS (bl) hb); (try clear hb)))
   go_meet
   case rel => exact ⟨_, (true), (by first | rfl | (simp; done) | (simp [*]; done)), H', ⟨by first | omega | exact Nat.le_refl _⟩, ⟨by (with_reducible repeat (first | refine kN ?_ _ | refine kD ?_ | refine kA ?_ _)); exact BK584.out⟩, ⟨bl⟩⟩
 case rest =>
  clear HC2
  try clear p2
  try clear c5
  try clear c7
  try clear c8
  try clear hcz11_0 hcz11_1 hcz11_2 hfz11_0 hfz11_1 hfz11_2
  try clear hcz7_0 hcz7_1 hcz7_2 hfz7_0 hfz7_1 hfz7_2
  try clear hcz9_0 hcz9_1 hcz9_2 hfz9_0 hfz9_1 hfz9_2
  obtain ⟨kq, x19_1, rfl, HA, HJ1, BK584, HB⟩ := hcut
  cases kq with
  | zero => exact absurd HA.out (by simp [mapmakerlaw14_DataUsers.j0])
  | succ kj1 =>
   have H := HA.out
   clear HA
   simp only [mapmakerlaw14_DataUsers.j0] at H
   by_cases c13 : x19_1 = true
   ·subst c13
    have H1 : ((mapmakerlaw14_lives.f kj1).bind fun t587 => (some t587)) = some r := by rw [if_pos rfl] at H; exact H
    clear H
    have H := H1
    clear H1
    replace H := Option.bind_eq_some_iff.mp H
    obtain ⟨t587, A140, H⟩ := H
    try dsimp only at H
    have A14 := aM A140
    clear A140
    obtain rfl := Option.some.inj H
    go_wp2_with (first | ((with_reducible refine gate_callee (f := 9) rfl ?_); refine gL (some 20) Try.func9 #[] ?_; (with_reducible refine (mapmakerlaw14_lives.calls kj1  t587 _ A14.out).mono ?_); rintro e w15 ⟨rfl, hb⟩; refine ⟨_, rfl, ?_⟩; replace HB := aM (bS (bl) hb); clear BK584; (try clear hb)))
    go_ret
    exact ⟨by first | rfl | (simp [errW_none, errW_some] <;> rfl) | (simp [*, errW_none, errW_some] <;> rfl), bl⟩
   ·replace c13 := Bool.eq_false_iff.mpr c13
    subst c13
    have H1 : (mapmakerlaw14_DataUsers.l0 kj1 0 0 l0_0 l0_1 l0_2) = some r := by rw [if_neg (show ¬ (false = true) by decide)] at H; exact H
    clear H
    have H := H1
    clear H1
    have H' := aM H
    clear H
    go_wp2
    go_loopg [4] kj1 (fun kq v4 w' => ∃ (x4_2 : Int), v4 = .int .i64 x4_2 ∧ Aside0 (mapmakerlaw14_DataUsers.l0 kq 0 x4_2 l0_0 l0_1 l0_2 = some r) ∧ Aside0 (kq ≤ kj1) ∧ Aside0 (w'.heap[gb584]? = some (.cells #[(.slice A0_0 l0_0.length c0_0), (.slice A0_1 l0_1.length c0_1), (.slice A0_2 l0_2.length c0_2)] 26 (0, 0))) ∧ Aside0 (Below w.heap.size w w'))
    case atStart => exact ⟨(0), (by first | rfl | (simp; done) | (simp [*]; done)), H', ⟨Nat.le_refl _⟩, ⟨by (with_reducible repeat (first | refine kN ?_ _ | refine kD ?_ | refine kA ?_ _)); exact BK584.out⟩, ⟨bl⟩⟩
    case round =>
     clear H'
     try clear c1
     try clear p2
     try clear c5
     try clear c7
     try clear c8
     try clear c9
     try clear c13
     try clear hcz11_0 hcz11_1 hcz11_2 hfz11_0 hfz11_1 hfz11_2
     try clear hcz7_0 hcz7_1 hcz7_2 hfz7_0 hfz7_1 hfz7_2
     try clear hcz9_0 hcz9_1 hcz9_2 hfz9_0 hfz9_1 hfz9_2
     try clear p2
     obtain ⟨x4_2, rfl, HA, HK2, BK584, HB⟩ := hrel
     cases gk with
     | zero => exact absurd HA.out (by simp [mapmakerlaw14_DataUsers.l0])
     | succ k2 =>
      have H := HA.out
      clear HA
      simp only [mapmakerlaw14_DataUsers.l0] at H
      by_cases c16 : x4_2 < (l0_1.length : Int)
      ·rw [if_pos c16] at H
       have c16b0 : decide (x4_2 < (l0_1.length : Int)) = true := decide_eq_true c16
       clear c16
       have H' := aM H
       clear H
       obtain ⟨hcz17_0, hcz17_1, hcz17_2, hfz17_0, hfz17_1, hfz17_2⟩ := bc3 BK584
       go_wp2
       go_loopg [5] k2 (fun kq v5 w' => ∃ (x5_3 : Int), v5 = .int .i64 x5_3 ∧ Aside0 (mapmakerlaw14_DataUsers.l1 kq 0 x4_2 x5_3 l0_0 l0_1 l0_2 = some r) ∧ Aside0 (kq ≤ k2) ∧ Aside0 (w'.heap[gb584]? = some (.cells #[(.slice A0_0 l0_0.length c0_0), (.slice A0_1 l0_1.length c0_1), (.slice A0_2 l0_2.length c0_2)] 26 (0, 0))) ∧ Aside0 (Below w.heap.size w w'))
       case atStart => exact ⟨(0), (by first | rfl | (simp; done) | (simp [*]; done)), H', ⟨Nat.le_refl _⟩, ⟨by (with_reducible repeat (first | refine kN ?_ _ | refine kD ?_ | refine kA ?_ _)); exact BK584.out⟩, ⟨bl⟩⟩
       case round =>
        clear H'
        try clear c1
        try clear p2
        try clear c5
        try clear c7
        try clear c8
        try clear c9
        try clear c13
        try clear c16
        try clear c16b0
        try clear hcz11_0 hcz11_1 hcz11_2 hfz11_0 hfz11_1 hfz11_2
        try clear hcz17_0 hcz17_1 hcz17_2 hfz17_0 hfz17_1 hfz17_2
        try clear hcz7_0 hcz7_1 hcz7_2 hfz7_0 hfz7_1 hfz7_2
        try clear hcz9_0 hcz9_1 hcz9_2 hfz9_0 hfz9_1 hfz9_2
        try clear p2
        obtain ⟨x5_3, rfl, HA, HK3, BK584, HB⟩ := hrel
        cases gk with
        | zero => exact absurd HA.out (by simp [mapmakerlaw14_DataUsers.l1])
        | succ k3 =>
         have H := HA.out
         clear HA
         simp only [mapmakerlaw14_DataUsers.l1] at H
         by_cases c18 : 0 ≤ x4_2
         ·rw [if_pos c18] at H
          have c18b0 : decide (0 ≤ x4_2) = true := decide_eq_true c18
          clear c18
          by_cases c19 : x4_2 < (l0_1.length : Int)
          ·rw [if_pos c19] at H
           have c19b0 : decide (x4_2 < (l0_1.length : Int)) = true := decide_eq_true c19
           clear c19
           by_cases c20 : x5_3 < (((rd_T45 l0_1 x4_2).f1).length : Int)
           ·rw [if_pos c20] at H
            have c20b0 : decide (x5_3 < (((rd_T45 l0_1 x4_2).f1).length : Int)) = true := decide_eq_true c20
            clear c20
            by_cases c21 : 0 ≤ x5_3
            ·rw [if_pos c21] at H
             have c21b0 : decide (0 ≤ x5_3) = true := decide_eq_true c21
             clear c21
             replace H := Option.bind_eq_some_iff.mp H
             obtain ⟨t591, A220, H⟩ := H
             try dsimp only at H
             have A22 := aM A220
             clear A220
             replace H := Option.bind_eq_some_iff.mp H
             obtain ⟨t595, A230, H⟩ := H
             try dsimp only at H
             have A23 := aM A230
             clear A230
             by_cases c24 : t595 = true
             ·subst c24
              have H1 : (mapmakerlaw14_DataUsers.l1 k3 0 x4_2 (wrap64 (x5_3 + 1)) l0_0 l0_1 l0_2) = some r := by rw [if_pos rfl] at H; exact H
              clear H
              have H := H1
              clear H1
              have H' := aM H
              clear H
              obtain ⟨hcz25_0, hcz25_1, hcz25_2, hfz25_0, hfz25_1, hfz25_2⟩ := bc3 BK584
              have p588 : 0 ≤ (x4_2 : Int) := oT
              have q588 : x4_2 < (l0_1.length : Int) := oT
              obtain ⟨ad588, A588_1, c588_1, A588_2, c588_2, e588, hx588_0, hx588_1, hx588_2, hl588_1, hi588_1, hl588_2, hi588_2⟩ := at_T45 HR0_1.out x4_2 p588 q588
              cases e588
              replace hx588_0 := hs HB.out hx588_0
              replace hx588_1 := hs HB.out hx588_1
              replace hx588_2 := hs HB.out hx588_2
              have HR588_1 := aM hi588_1
              have HC588_1 := aM hl588_1
              clear hi588_1 hl588_1
              have HR588_2 := aM hi588_2
              have HC588_2 := aM hl588_2
              clear hi588_2 hl588_2
              replace p588 := eq_true p588
              replace q588 := eq_true q588
              try go_wp2
              replace BK584 := aM (kD BK584.out)
              replace HB := aM (bD HB.out)
              have p589 : 0 ≤ (x4_2 : Int) := oT
              have q589 : x4_2 < (l0_1.length : Int) := oT
              obtain ⟨ad589, A589_1, c589_1, A589_2, c589_2, e589, hx589_0, hx589_1, hx589_2, hl589_1, hi589_1, hl589_2, hi589_2⟩ := at_T45 HR0_1.out x4_2 p589 q589
              have hw589_2 := hx589_2
              have hw589_1 := hx589_1
              have hw589_0 := hx589_0
              obtain rfl : ad588 = ad589 := (by injection e589)
              replace hx589_0 := hs HB.out hx589_0
              replace hx589_1 := hs HB.out hx589_1
              replace hx589_2 := hs HB.out hx589_2
              have HR589_1 := aM hi589_1
              have HC589_1 := aM hl589_1
              clear hi589_1 hl589_1
              have HR589_2 := aM hi589_2
              have HC589_2 := aM hl589_2
              clear hi589_2 hl589_2
              replace p589 := eq_true p589
              replace q589 := eq_true q589
              have p590 : 0 ≤ (x5_3 : Int) := oT
              have q590 : x5_3 < (((rd_T45 l0_1 x4_2).f1).length : Int) := oT
              obtain ⟨ad590, e590, hx590_0⟩ := Kd.at_int HR589_1.out x5_3 p590 q590
              have hw590_0 := hx590_0
              cases e590
              replace hx590_0 := hs HB.out hx590_0
              replace p590 := eq_true p590
              replace q590 := eq_true q590
              have p594 : 0 ≤ (x4_2 : Int) := oT
              have q594 : x4_2 < (l0_1.length : Int) := oT
              obtain ⟨ad594, A594_1, c594_1, A594_2, c594_2, e594, hx594_0, hx594_1, hx594_2, hl594_1, hi594_1, hl594_2, hi594_2⟩ := at_T45 HR0_1.out x4_2 p594 q594
              have hw594_2 := hx594_2
              have hw594_1 := hx594_1
              have hw594_0 := hx594_0
              obtain rfl : ad588 = ad594 := (by injection e594)
              replace hx594_0 := hs HB.out hx594_0
              replace hx594_1 := hs HB.out hx594_1
              replace hx594_2 := hs HB.out hx594_2
              have HR594_1 := aM hi594_1
              have HC594_1 := aM hl594_1
              clear hi594_1 hl594_1
              have HR594_2 := aM hi594_2
              have HC594_2 := aM hl594_2
              clear hi594_2 hl594_2
              replace p594 := eq_true p594
              replace q594 := eq_true q594
              have ea_ := Option.some.inj (hx589_1.symm.trans hx594_1)
              injection ea_ with ea_ en_ ec_
              subst ea_
              subst ec_
              clear en_
              have ea_ := Option.some.inj (hx589_2.symm.trans hx594_2)
              injection ea_ with ea_ en_ ec_
              subst ea_
              subst ec_
              clear en_
              refine start_ (n := 21) (S := fun w' => w'.cell? ⟨gb584, 0, none⟩ = some (.slice A0_0 l0_0.length c0_0) ∧ w'.cell? ⟨gb584, 1, none⟩ = some (.slice (some ad588) l0_1.length c0_1) ∧ w'.cell? ⟨gb584, 2, none⟩ = some (.slice A0_2 l0_2.length c0_2) ∧ w'.cell? (ad588.add ((x4_2).toNat * 3)) = some (.int .i64 ((rd_T45 l0_1 x4_2).f0)) ∧ w'.cell? ⟨(ad588.add ((x4_2).toNat * 3)).block, (ad588.add ((x4_2).toNat * 3)).off + 1, none⟩ = some (.slice (some ad590) ((rd_T45 l0_1 x4_2).f1).length c589_1) ∧ w'.cell? ⟨(ad588.add ((x4_2).toNat * 3)).block, (ad588.add ((x4_2).toNat * 3)).off + 2, none⟩ = some (.slice A589_2 ((rd_T45 l0_1 x4_2).f2).length c589_2) ∧ w'.cell? (ad590.add (x5_3).toNat) = some (.int .i64 (rd ((rd_T45 l0_1 x4_2).f1) x5_3)) ∧ w'.cell? (ad588.add ((x4_2).toNat * 3)) = some (.int .i64 ((rd_T45 l0_1 x4_2).f0)) ∧ w'.cell? ⟨(ad588.add ((x4_2).toNat * 3)).block, (ad588.add ((x4_2).toNat * 3)).off + 1, none⟩ = some (.slice (some ad590) ((rd_T45 l0_1 x4_2).f1).length c589_1) ∧ w'.cell? ⟨(ad588.add ((x4_2).toNat * 3)).block, (ad588.add ((x4_2).toNat * 3)).off + 2, none⟩ = some (.slice A589_2 ((rd_T45 l0_1 x4_2).f2).length c589_2)) (ds := []) #[false, false, false, false, false, false, false, false, false, false, false, false, false, false, false, false, false, false, false, false, false] (by kernel_rfl) rfl rfl ⟨(kC BK584.out 0).trans rfl, (kC BK584.out 1).trans rfl, (kC BK584.out 2).trans rfl, ((HB.out.cell (World.block_lt_of_cell? w _ hw589_0)).trans hw589_0), ((HB.out.cell (World.block_lt_of_cell? w _ hw589_1)).trans hw589_1), ((HB.out.cell (World.block_lt_of_cell? w _ hw589_2)).trans hw589_2), ((HB.out.cell (World.block_lt_of_cell? w _ hw590_0)).trans hw590_0), ((HB.out.cell (World.block_lt_of_cell? w _ hw594_0)).trans hw594_0), ((HB.out.cell (World.block_lt_of_cell? w _ hw594_1)).trans hw594_1), ((HB.out.cell (World.block_lt_of_cell? w _ hw594_2)).trans hw594_2)⟩ (fun hHeld => ?_); refine with_tabW mapmakerlaw14_DataUsers.tab10 mapmakerlaw14_DataUsers.bits10 (fun HT_ HW_ => ?_)
              generalize wr.drew = w26 at BK584 HB HR589_1 HR589_2 HR594_1 HR594_2 hx589_0 hx589_1 hx589_2 hx590_0 hx594_0 hx594_1 hx594_2 hHeld ⊢
              refine pure_ (i := 1) (N := some 40) (v := ?_) (a' := ?_) (ba 21 2) rfl rfl (any_of HT_.out (by kernel_rfl)) (fun _ _ _ h => h) (Or.inl ⟨by rfl, ?_⟩) ?_ ?_
              rotate_left
              ·intro w'
               go_simp
               with_reducible rfl
              rotate_left
              ·simp only [Act.put, sA, sB, sC, i64_w, i32_w]
               rfl
              refine pure_ (i := 3) (N := some 42) (v := ?_) (a' := ?_) (ba 21 10) rfl rfl (any_of HT_.out (by kernel_rfl)) (fun _ _ _ h => h) (Or.inl ⟨by rfl, ?_⟩) ?_ ?_
              rotate_left
              ·intro w'
               go_simp
               with_reducible rfl
              rotate_left
              ·simp only [Act.put, sA, sB, sC, i64_w, i32_w]
               rfl
              refine pure_ (i := 7) (N := some 46) (v := ?_) (a' := ?_) (ba 21 138) rfl rfl (any_of HT_.out (by kernel_rfl)) (fun _ _ _ h => h) (Or.inl ⟨by rfl, ?_⟩) ?_ ?_
              rotate_left
              ·intro w'
               go_simp
               with_reducible rfl
              rotate_left
              ·simp only [Act.put, sA, sB, sC, i64_w, i32_w]
               rfl
              refine pure_ (i := 12) (N := some 51) (v := ?_) (a' := ?_) (ba 21 4234) rfl rfl (any_of HT_.out (by kernel_rfl)) (fun _ _ _ h => h) (Or.inl ⟨by rfl, ?_⟩) ?_ ?_
              rotate_left
              ·intro w'
               go_simp
               with_reducible rfl
              rotate_left
              ·simp only [Act.put, sA, sB, sC, i64_w, i32_w]
               rfl
              refine pure_ (i := 14) (N := some 53) (v := ?_) (a' := ?_) (ba 21 20618) rfl rfl (any_of HT_.out (by kernel_rfl)) (fun _ _ _ h => h) (Or.inl ⟨by rfl, ?_⟩) ?_ ?_
              rotate_left
              ·intro w'
               go_simp
               with_reducible rfl
              rotate_left
              ·simp only [Act.put, sA, sB, sC, i64_w, i32_w]
               rfl
              refine take_ (i := 0) (N := some 39) (v := ?_) (a' := ?_) (ba 21 20619) rfl rfl (take_ofW HT_.out HW_.out (by kernel_rfl)) (fun _ _ _ h => h) (Or.inl ⟨by rfl, ?_⟩) hHeld ?_ ?_
              rotate_left
              ·rintro w' ⟨s0, s1, s2, s3, s4, s5, s6, s7, s8, s9⟩
               go_simp
               with_reducible rfl
              rotate_left
              ·simp only [Act.put, sA, sB, sC, i64_w, i32_w]
               rfl
              refine take_ (i := 2) (N := some 41) (v := ?_) (a' := ?_) (ba 21 20623) rfl rfl (take_ofW HT_.out HW_.out (by kernel_rfl)) (fun _ _ _ h => h) (Or.inl ⟨by rfl, ?_⟩) hHeld ?_ ?_
              rotate_left
              ·rintro w' ⟨s0, s1, s2, s3, s4, s5, s6, s7, s8, s9⟩
               go_simp
               with_reducible rfl
              rotate_left
              ·simp only [Act.put, sA, sB, sC, i64_w, i32_w]
               rfl
              refine pure_ (i := 4) (N := some 43) (v := ?_) (a' := ?_) (ba 21 20639) rfl rfl (any_of HT_.out (by kernel_rfl)) (fun _ _ _ h => h) (Or.inl ⟨by rfl, ?_⟩) ?_ ?_
              rotate_left
              ·intro w'
               go_simp
               with_reducible rfl
              rotate_left
              ·simp only [Act.put, sA, sB, sC, i64_w, i32_w]
               rfl
              refine pure_ (i := 5) (N := some 44) (v := ?_) (a' := ?_) (ba 21 20671) rfl rfl (any_of HT_.out (by kernel_rfl)) (fun _ _ _ h => h) (Or.inl ⟨by rfl, ?_⟩) ?_ ?_
              rotate_left
              ·intro w'
               go_simp
               with_reducible rfl
              rotate_left
              ·simp only [Act.put, sA, sB, sC, i64_w, i32_w]
               rfl
              refine take_ (i := 6) (N := some 45) (v := ?_) (a' := ?_) (ba 21 20735) rfl rfl (take_ofW HT_.out HW_.out (by kernel_rfl)) (fun _ _ _ h => h) (Or.inl ⟨by rfl, ?_⟩) hHeld ?_ ?_
              rotate_left
              ·rintro w' ⟨s0, s1, s2, s3, s4, s5, s6, s7, s8, s9⟩
               go_simp
               with_reducible rfl
              rotate_left
              ·simp only [Act.put, sA, sB, sC, i64_w, i32_w]
               rfl
              refine pure_ (i := 8) (N := some 47) (v := ?_) (a' := ?_) (ba 21 20991) rfl rfl (any_of HT_.out (by kernel_rfl)) (fun _ _ _ h => h) (Or.inl ⟨by rfl, ?_⟩) ?_ ?_
              rotate_left
              ·intro w'
               go_simp
               with_reducible rfl
              rotate_left
              ·simp only [Act.put, sA, sB, sC, i64_w, i32_w]
               rfl
              refine take_ (i := 9) (N := some 48) (v := ?_) (a' := ?_) (ba 21 21503) rfl rfl (take_ofW HT_.out HW_.out (by kernel_rfl)) (fun _ _ _ h => h) (Or.inl ⟨by rfl, ?_⟩) hHeld ?_ ?_
              rotate_left
              ·rintro w' ⟨s0, s1, s2, s3, s4, s5, s6, s7, s8, s9⟩
               go_simp
               with_reducible rfl
              rotate_left
              ·simp only [Act.put, sA, sB, sC, i64_w, i32_w]
               rfl
              refine pure_ (i := 10) (N := some 49) (v := ?_) (a' := ?_) (ba 21 22527) rfl rfl (any_of HT_.out (by kernel_rfl)) (fun _ _ _ h => h) (Or.inl ⟨by rfl, ?_⟩) ?_ ?_
              rotate_left
              ·intro w'
               go_simp
               with_reducible rfl
              rotate_left
              ·simp only [Act.put, sA, sB, sC, i64_w, i32_w]
               rfl
              refine take_ (i := 13) (N := some 52) (v := ?_) (a' := ?_) (ba 21 30719) rfl rfl (take_ofW HT_.out HW_.out (by kernel_rfl)) (fun _ _ _ h => h) (Or.inl ⟨by rfl, ?_⟩) hHeld ?_ ?_
              rotate_left
              ·rintro w' ⟨s0, s1, s2, s3, s4, s5, s6, s7, s8, s9⟩
               go_simp
               with_reducible rfl
              rotate_left
              ·simp only [Act.put, sA, sB, sC, i64_w, i32_w]
               rfl
              refine pure_ (i := 15) (N := some 54) (v := ?_) (a' := ?_) (ba 21 63487) rfl rfl (any_of HT_.out (by kernel_rfl)) (fun _ _ _ h => h) (Or.inl ⟨by rfl, ?_⟩) ?_ ?_
              rotate_left
              ·intro w'
               go_simp
               with_reducible rfl
              rotate_left
              ·simp only [Act.put, sA, sB, sC, i64_w, i32_w]
               rfl
              refine pure_ (i := 16) (N := some 55) (v := ?_) (a' := ?_) (ba 21 129023) rfl rfl (any_of HT_.out (by kernel_rfl)) (fun _ _ _ h => h) (Or.inl ⟨by rfl, ?_⟩) ?_ ?_
              rotate_left
              ·intro w'
               go_simp
               with_reducible rfl
              rotate_left
              ·simp only [Act.put, sA, sB, sC, i64_w, i32_w]
               rfl
              refine take_ (i := 17) (N := some 56) (v := ?_) (a' := ?_) (ba 21 260095) rfl rfl (take_ofW HT_.out HW_.out (by kernel_rfl)) (fun _ _ _ h => h) (Or.inl ⟨by rfl, ?_⟩) hHeld ?_ ?_
              rotate_left
              ·rintro w' ⟨s0, s1, s2, s3, s4, s5, s6, s7, s8, s9⟩
               go_simp
               with_reducible rfl
              rotate_left
              ·simp only [Act.put, sA, sB, sC, i64_w, i32_w]
               rfl
              refine pure_ (i := 18) (N := some 57) (v := ?_) (a' := ?_) (ba 21 522239) rfl rfl (any_of HT_.out (by kernel_rfl)) (fun _ _ _ h => h) (Or.inl ⟨by rfl, ?_⟩) ?_ ?_
              rotate_left
              ·intro w'
               go_simp
               with_reducible rfl
              rotate_left
              ·simp only [Act.put, sA, sB, sC, i64_w, i32_w]
               rfl
              refine one_ (i := 11) (N := some 50) (ba 21 524287) rfl rfl (one_of HT_.out (by kernel_rfl)) (by decide) (fun K hK => ?_)
              refine goes_ Try.func24 (by kernel_rfl) rfl #[.agg #[.slice A0_0 l0_0.length c0_0, .slice (some ad588) l0_1.length c0_1, .slice A0_2 l0_2.length c0_2], .agg #[.int .i64 1, .int .i64 (rd ((rd_T45 l0_1 x4_2).f1) x5_3)]] (by rfl) rfl rfl (by (try simp only [List.map_toArray, List.map_cons, List.map_nil]); first | done | rfl | (simp only [List.length_drop, List.length_take]; rfl)) ?_
              with_reducible refine (data_Users.calls k3 _ _ l0_0 _ _ l0_1 _ _ l0_2 1 (rd ((rd_T45 l0_1 x4_2).f1) x5_3) t591 _ ?side1 ?side2 ?side3 ?side4 ?side5 ?side6 A22.out).mono ?_
              (case side1 => exact cl HR0_0)
              (case side2 => exact HC0_0.out)
              (case side3 => exact cl HR0_1)
              (case side4 => exact HC0_1.out)
              (case side5 => exact cl HR0_2)
              (case side6 => exact HC0_2.out)
              rintro e w27 ⟨v592, rfl, ho0, hb⟩
              refine ⟨_, rfl, ?_⟩
              have HO593 := aM (Kd.R_lower ho0 (below_size (bl)))
              replace BK584 := aM (kB (kl BK584) hb)
              replace HB := aM (bS (bl) hb)
              (try clear hb)
              (try clear hb2)
              (try clear hk)
              (try clear hi)
              (try clear ho0)
              obtain ⟨Ao28, co28, eo28⟩ := Kd.R_slice HO593.out
              (first | subst eo28 | (injection eo28 with f1_ f2_ f3_; have f4_ := f1_.symm; have f5_ := f3_.symm; clear f1_ f2_ f3_; subst f4_; subst f5_))
              refine hK.out _ _ ⟨(kC BK584.out 0).trans rfl, (kC BK584.out 1).trans rfl, (kC BK584.out 2).trans rfl, ((HB.out.cell (World.block_lt_of_cell? w _ hw589_0)).trans hw589_0), ((HB.out.cell (World.block_lt_of_cell? w _ hw589_1)).trans hw589_1), ((HB.out.cell (World.block_lt_of_cell? w _ hw589_2)).trans hw589_2), ((HB.out.cell (World.block_lt_of_cell? w _ hw590_0)).trans hw590_0), ((HB.out.cell (World.block_lt_of_cell? w _ hw594_0)).trans hw594_0), ((HB.out.cell (World.block_lt_of_cell? w _ hw594_1)).trans hw594_1), ((HB.out.cell (World.block_lt_of_cell? w _ hw594_2)).trans hw594_2)⟩ (fun hHeld => ?_)
              clear hK K
              refine norm_ (a' := ?_) ?_ ?_
              rotate_left
              ·show Act.put _ (some 50) _ = _
               simp only [Act.put, sA, sB, sC, i64_w, i32_w]
               rfl
              refine one_ (i := 19) (N := some 58) (ba 21 1048575) rfl rfl (one_of HT_.out (by kernel_rfl)) (by decide) (fun K hK => ?_)
              refine goes_ Try.func34 (by kernel_rfl) rfl #[.slice Ao28 t591.length co28, .agg #[.int .i64 2, .int .i64 ((rd_T45 l0_1 x4_2).f0)]] (by rfl) rfl rfl (by (try simp only [List.map_toArray, List.map_cons, List.map_nil]); first | done | rfl | (simp only [List.length_drop, List.length_take]; rfl)) ?_
              with_reducible refine (mapmakerlaw14_has.calls k3 _ _ t591 2 ((rd_T45 l0_1 x4_2).f0) true _ ?side1 ?side2 A23.out).mono ?_
              (case side1 => repeat (first | exact (rR HO593.out).2.2 | (with_reducible refine cA ?_ _) | (with_reducible refine cN ?_ _) | (with_reducible refine cD ?_)))
              (case side2 => exact (rR HO593.out).2.1)
              rintro e w29 ⟨rfl, hb⟩
              refine ⟨_, rfl, ?_⟩
              replace BK584 := aM (kB (kl BK584) hb)
              replace HB := aM (bS (bl) hb)
              clear HO593
              (try clear hb)
              (try clear hb2)
              (try clear hk)
              (try clear hi)
              refine hK.out _ _ ⟨(kC BK584.out 0).trans rfl, (kC BK584.out 1).trans rfl, (kC BK584.out 2).trans rfl, ((HB.out.cell (World.block_lt_of_cell? w _ hw589_0)).trans hw589_0), ((HB.out.cell (World.block_lt_of_cell? w _ hw589_1)).trans hw589_1), ((HB.out.cell (World.block_lt_of_cell? w _ hw589_2)).trans hw589_2), ((HB.out.cell (World.block_lt_of_cell? w _ hw590_0)).trans hw590_0), ((HB.out.cell (World.block_lt_of_cell? w _ hw594_0)).trans hw594_0), ((HB.out.cell (World.block_lt_of_cell? w _ hw594_1)).trans hw594_1), ((HB.out.cell (World.block_lt_of_cell? w _ hw594_2)).trans hw594_2)⟩ (fun hHeld => ?_)
              clear hK K
              refine norm_ (a' := ?_) ?_ ?_
              rotate_left
              ·show Act.put _ (some 58) _ = _
               simp only [Act.put, sA, sB, sC, i64_w, i32_w]
               rfl
              refine pure_ (i := 20) (N := some 59) (v := ?_) (a' := ?_) (ba 21 2097151) rfl rfl (any_of HT_.out (by kernel_rfl)) (fun _ _ _ h => h) (Or.inl ⟨by rfl, ?_⟩) ?_ ?_
              rotate_left
              ·intro w'
               go_simp
               with_reducible rfl
              rotate_left
              ·simp only [Act.put, sA, sB, sC, i64_w, i32_w]
               rfl
              refine done_ (done_of HT_.out (by kernel_rfl)) ?_
              try go_wp2
              go_roundg k3
              case measure => have := HJ1.out; have := HK2.out; have := HK3.out; omega
              case rel => exact ⟨(wrap64 (x5_3 + 1)), (by first | rfl | (simp; done) | (simp [*]; done)), H', ⟨by have := HJ1.out; have := HK2.out; have := HK3.out; omega⟩, ⟨by (with_reducible repeat (first | refine kN ?_ _ | refine kD ?_ | refine kA ?_ _)); exact BK584.out⟩, ⟨bl⟩⟩
             ·replace c24 := Bool.eq_false_iff.mpr c24
              subst c24
              have H1 : (some false) = some r := by rw [if_neg (show ¬ (false = true) by decide)] at H; exact H
              clear H
              have H := H1
              clear H1
              obtain rfl := Option.some.inj H
              cases hT
            ·rw [if_neg c21] at H
             exact absurd H (by simp)
           ·rw [if_neg c20] at H
            have c20b0 : decide (x5_3 < (((rd_T45 l0_1 x4_2).f1).length : Int)) = false := decide_eq_false c20
            clear c20
            have H' := aM H
            clear H
            obtain ⟨hcz35_0, hcz35_1, hcz35_2, hfz35_0, hfz35_1, hfz35_2⟩ := bc3 BK584
            have p588 : 0 ≤ (x4_2 : Int) := oT
            have q588 : x4_2 < (l0_1.length : Int) := oT
            obtain ⟨ad588, A588_1, c588_1, A588_2, c588_2, e588, hx588_0, hx588_1, hx588_2, hl588_1, hi588_1, hl588_2, hi588_2⟩ := at_T45 HR0_1.out x4_2 p588 q588
            cases e588
            replace hx588_0 := hs HB.out hx588_0
            replace hx588_1 := hs HB.out hx588_1
            replace hx588_2 := hs HB.out hx588_2
            have HR588_1 := aM hi588_1
            have HC588_1 := aM hl588_1
            clear hi588_1 hl588_1
            have HR588_2 := aM hi588_2
            have HC588_2 := aM hl588_2
            clear hi588_2 hl588_2
            replace p588 := eq_true p588
            replace q588 := eq_true q588
            go_wp2
            go_roundg k3
            case measure => have := HJ1.out; have := HK2.out; have := HK3.out; omega
            case rel => exact ⟨(wrap64 (x4_2 + 1)), (by first | rfl | (simp; done) | (simp [*]; done)), H', ⟨by have := HJ1.out; have := HK2.out; have := HK3.out; omega⟩, ⟨by (with_reducible repeat (first | refine kN ?_ _ | refine kD ?_ | refine kA ?_ _)); exact BK584.out⟩, ⟨bl⟩⟩
          ·rw [if_neg c19] at H
           exact absurd H (by simp)
         ·rw [if_neg c18] at H
          exact absurd H (by simp)
      ·rw [if_neg c16] at H
       have c16b0 : decide (x4_2 < (l0_1.length : Int)) = false := decide_eq_false c16
       clear c16
       have H' := aM H
       clear H
       obtain ⟨hcz36_0, hcz36_1, hcz36_2, hfz36_0, hfz36_1, hfz36_2⟩ := bc3 BK584
       go_wp2
       go_loopg [6] k2 (fun kq v6 w' => ∃ (x6_3 : Int), v6 = .int .i64 x6_3 ∧ Aside0 (mapmakerlaw14_DataUsers.l2 kq 0 x6_3 l0_0 l0_1 l0_2 = some r) ∧ Aside0 (kq ≤ k2) ∧ Aside0 (w'.heap[gb584]? = some (.cells #[(.slice A0_0 l0_0.length c0_0), (.slice A0_1 l0_1.length c0_1), (.slice A0_2 l0_2.length c0_2)] 26 (0, 0))) ∧ Aside0 (Below w.heap.size w w'))
       case atStart => exact ⟨(0), (by first | rfl | (simp; done) | (simp [*]; done)), H', ⟨Nat.le_refl _⟩, ⟨by (with_reducible repeat (first | refine kN ?_ _ | refine kD ?_ | refine kA ?_ _)); exact BK584.out⟩, ⟨bl⟩⟩
       case round =>
        clear H'
        try clear c1
        try clear c2
        try clear p2
        try clear c3
        try clear c5
        try clear p5
        try clear q5
        try clear hx5
        try clear p6
        try clear c16
        try clear c16b0
        try clear c18
        try clear c19
        try clear c20
        try clear c20b0
        try clear c21
        try clear c24
        try clear c34
        try clear hcz30_0 hcz30_1 hcz30_2 hfz30_0 hfz30_1 hfz30_2
        try clear hcz35_0 hcz35_1 hcz35_2 hfz35_0 hfz35_1 hfz35_2
        try clear hcz36_0 hcz36_1 hcz36_2 hfz36_0 hfz36_1 hfz36_2
        try clear hx588_0
        try clear hx588_1
        try clear hx588_2
        try clear hx589_0
        try clear hx589_1
        try clear hx589_2
        try clear hx590_0
        try clear hx594_0
        try clear hx594_1
        try clear hx594_2
        try clear p588
        try clear p589
        try clear p590
        try clear p594
        try clear q588
        try clear q589
        try clear q590
        try clear q594
        obtain ⟨x6_3, rfl, HA, HK3, BK584, HB⟩ := hrel
        cases gk with
        | zero => exact absurd HA.out (by simp [mapmakerlaw14_DataUsers.l2])
        | succ k3 =>
         have H := HA.out
         clear HA
         simp only [mapmakerlaw14_DataUsers.l2] at H
         by_cases c37 : x6_3 < (l0_2.length : Int)
         ·rw [if_pos c37] at H
          have c37b0 : decide (x6_3 < (l0_2.length : Int)) = true := decide_eq_true c37
          clear c37
          have H' := aM H
          clear H
          obtain ⟨hcz38_0, hcz38_1, hcz38_2, hfz38_0, hfz38_1, hfz38_2⟩ := bc3 BK584
          go_wp2
          go_loopg [7] k3 (fun kq v7 w' => ∃ (x7_4 : Int), v7 = .int .i64 x7_4 ∧ Aside0 (mapmakerlaw14_DataUsers.l3 kq 0 x6_3 x7_4 l0_0 l0_1 l0_2 = some r) ∧ Aside0 (kq ≤ k3) ∧ Aside0 (w'.heap[gb584]? = some (.cells #[(.slice A0_0 l0_0.length c0_0), (.slice A0_1 l0_1.length c0_1), (.slice A0_2 l0_2.length c0_2)] 26 (0, 0))) ∧ Aside0 (Below w.heap.size w w'))
          case atStart => exact ⟨(0), (by first | rfl | (simp; done) | (simp [*]; done)), H', ⟨Nat.le_refl _⟩, ⟨by (with_reducible repeat (first | refine kN ?_ _ | refine kD ?_ | refine kA ?_ _)); exact BK584.out⟩, ⟨bl⟩⟩
          case round =>
           clear H'
           try clear c1
           try clear c2
           try clear p2
           try clear c3
           try clear c5
           try clear p5
           try clear q5
           try clear hx5
           try clear p6
           try clear c16
           try clear c16b0
           try clear c18
           try clear c19
           try clear c20
           try clear c20b0
           try clear c21
           try clear c24
           try clear c34
           try clear c37
           try clear c37b0
           try clear hcz30_0 hcz30_1 hcz30_2 hfz30_0 hfz30_1 hfz30_2
           try clear hcz35_0 hcz35_1 hcz35_2 hfz35_0 hfz35_1 hfz35_2
           try clear hcz36_0 hcz36_1 hcz36_2 hfz36_0 hfz36_1 hfz36_2
           try clear hcz38_0 hcz38_1 hcz38_2 hfz38_0 hfz38_1 hfz38_2
           try clear hx588_0
           try clear hx588_1
           try clear hx588_2
           try clear hx589_0
           try clear hx589_1
           try clear hx589_2
           try clear hx590_0
           try clear hx594_0
           try clear hx594_1
           try clear hx594_2
           try clear p2
           try clear p5
           try clear p588
           try clear p589
           try clear p590
           try clear p594
           try clear p6
           try clear q5
           try clear q588
           try clear q589
           try clear q590
           try clear q594
           obtain ⟨x7_4, rfl, HA, HK4, BK584, HB⟩ := hrel
           cases gk with
           | zero => exact absurd HA.out (by simp [mapmakerlaw14_DataUsers.l3])
           | succ k4 =>
            have H := HA.out
            clear HA
            simp only [mapmakerlaw14_DataUsers.l3] at H
            by_cases c39 : 0 ≤ x6_3
            ·rw [if_pos c39] at H
             have c39b0 : decide (0 ≤ x6_3) = true := decide_eq_true c39
             clear c39
             by_cases c40 : x6_3 < (l0_2.length : Int)
             ·rw [if_pos c40] at H
              have c40b0 : decide (x6_3 < (l0_2.length : Int)) = true := decide_eq_true c40
              clear c40
              by_cases c41 : x7_4 < (((rd_T51 l0_2 x6_3).f1).length : Int)
              ·rw [if_pos c41] at H
               have c41b0 : decide (x7_4 < (((rd_T51 l0_2 x6_3).f1).length : Int)) = true := decide_eq_true c41
               clear c41
               by_cases c42 : 0 ≤ x7_4
               ·rw [if_pos c42] at H
                have c42b0 : decide (0 ≤ x7_4) = true := decide_eq_true c42
                clear c42
                replace H := Option.bind_eq_some_iff.mp H
                obtain ⟨t599, A430, H⟩ := H
                try dsimp only at H
                have A43 := aM A430
                clear A430
                replace H := Option.bind_eq_some_iff.mp H
                obtain ⟨t603, A440, H⟩ := H
                try dsimp only at H
                have A44 := aM A440
                clear A440
                by_cases c45 : t603 = true
                ·subst c45
                 have H1 : (mapmakerlaw14_DataUsers.l3 k4 0 x6_3 (wrap64 (x7_4 + 1)) l0_0 l0_1 l0_2) = some r := by rw [if_pos rfl] at H; exact H
                 clear H
                 have H := H1
                 clear H1
                 have H' := aM H
                 clear H
                 obtain ⟨hcz46_0, hcz46_1, hcz46_2, hfz46_0, hfz46_1, hfz46_2⟩ := bc3 BK584
                 have p596 : 0 ≤ (x6_3 : Int) := oT
                 have q596 : x6_3 < (l0_2.length : Int) := oT
                 obtain ⟨ad596, A596_1, c596_1, A596_2, c596_2, e596, hx596_0, hx596_1, hx596_2, hl596_1, hi596_1, hl596_2, hi596_2⟩ := at_T51 HR0_2.out x6_3 p596 q596
                 cases e596
                 replace hx596_0 := hs HB.out hx596_0
                 replace hx596_1 := hs HB.out hx596_1
                 replace hx596_2 := hs HB.out hx596_2
                 have HR596_1 := aM hi596_1
                 have HC596_1 := aM hl596_1
                 clear hi596_1 hl596_1
                 have HR596_2 := aM hi596_2
                 have HC596_2 := aM hl596_2
                 clear hi596_2 hl596_2
                 replace p596 := eq_true p596
                 replace q596 := eq_true q596
                 try go_wp2
                 replace BK584 := aM (kD BK584.out)
                 replace HB := aM (bD HB.out)
                 have p597 : 0 ≤ (x6_3 : Int) := oT
                 have q597 : x6_3 < (l0_2.length : Int) := oT
                 obtain ⟨ad597, A597_1, c597_1, A597_2, c597_2, e597, hx597_0, hx597_1, hx597_2, hl597_1, hi597_1, hl597_2, hi597_2⟩ := at_T51 HR0_2.out x6_3 p597 q597
                 have hw597_2 := hx597_2
                 have hw597_1 := hx597_1
                 have hw597_0 := hx597_0
                 obtain rfl : ad596 = ad597 := (by injection e597)
                 replace hx597_0 := hs HB.out hx597_0
                 replace hx597_1 := hs HB.out hx597_1
                 replace hx597_2 := hs HB.out hx597_2
                 have HR597_1 := aM hi597_1
                 have HC597_1 := aM hl597_1
                 clear hi597_1 hl597_1
                 have HR597_2 := aM hi597_2
                 have HC597_2 := aM hl597_2
                 clear hi597_2 hl597_2
                 replace p597 := eq_true p597
                 replace q597 := eq_true q597
                 have p598 : 0 ≤ (x7_4 : Int) := oT
                 have q598 : x7_4 < (((rd_T51 l0_2 x6_3).f1).length : Int) := oT
                 obtain ⟨ad598, e598, hx598_0, hx598_1, hx598_2⟩ := at_T67 HR597_1.out x7_4 p598 q598
                 have hw598_2 := hx598_2
                 have hw598_1 := hx598_1
                 have hw598_0 := hx598_0
                 cases e598
                 replace hx598_0 := hs HB.out hx598_0
                 replace hx598_1 := hs HB.out hx598_1
                 replace hx598_2 := hs HB.out hx598_2
                 replace p598 := eq_true p598
                 replace q598 := eq_true q598
                 have p602 : 0 ≤ (x6_3 : Int) := oT
                 have q602 : x6_3 < (l0_2.length : Int) := oT
                 obtain ⟨ad602, A602_1, c602_1, A602_2, c602_2, e602, hx602_0, hx602_1, hx602_2, hl602_1, hi602_1, hl602_2, hi602_2⟩ := at_T51 HR0_2.out x6_3 p602 q602
                 have hw602_2 := hx602_2
                 have hw602_1 := hx602_1
                 have hw602_0 := hx602_0
                 obtain rfl : ad596 = ad602 := (by injection e602)
                 replace hx602_0 := hs HB.out hx602_0
                 replace hx602_1 := hs HB.out hx602_1
                 replace hx602_2 := hs HB.out hx602_2
                 have HR602_1 := aM hi602_1
                 have HC602_1 := aM hl602_1
                 clear hi602_1 hl602_1
                 have HR602_2 := aM hi602_2
                 have HC602_2 := aM hl602_2
                 clear hi602_2 hl602_2
                 replace p602 := eq_true p602
                 replace q602 := eq_true q602
                 have ea_ := Option.some.inj (hx597_1.symm.trans hx602_1)
                 injection ea_ with ea_ en_ ec_
                 subst ea_
                 subst ec_
                 clear en_
                 have ea_ := Option.some.inj (hx597_2.symm.trans hx602_2)
                 injection ea_ with ea_ en_ ec_
                 subst ea_
                 subst ec_
                 clear en_
                 refine start_ (n := 21) (S := fun w' => w'.cell? ⟨gb584, 0, none⟩ = some (.slice A0_0 l0_0.length c0_0) ∧ w'.cell? ⟨gb584, 1, none⟩ = some (.slice A0_1 l0_1.length c0_1) ∧ w'.cell? ⟨gb584, 2, none⟩ = some (.slice (some ad596) l0_2.length c0_2) ∧ w'.cell? (ad596.add ((x6_3).toNat * 3)) = some (.int .i64 ((rd_T51 l0_2 x6_3).f0)) ∧ w'.cell? ⟨(ad596.add ((x6_3).toNat * 3)).block, (ad596.add ((x6_3).toNat * 3)).off + 1, none⟩ = some (.slice (some ad598) ((rd_T51 l0_2 x6_3).f1).length c597_1) ∧ w'.cell? ⟨(ad596.add ((x6_3).toNat * 3)).block, (ad596.add ((x6_3).toNat * 3)).off + 2, none⟩ = some (.slice A597_2 ((rd_T51 l0_2 x6_3).f2).length c597_2) ∧ w'.cell? (ad598.add ((x7_4).toNat * 3)) = some (.int .i64 ((rd_T67 ((rd_T51 l0_2 x6_3).f1) x7_4).f0.f0)) ∧ w'.cell? ⟨(ad598.add ((x7_4).toNat * 3)).block, (ad598.add ((x7_4).toNat * 3)).off + 1, none⟩ = some (.int .i64 ((rd_T67 ((rd_T51 l0_2 x6_3).f1) x7_4).f0.f1)) ∧ w'.cell? ⟨(ad598.add ((x7_4).toNat * 3)).block, (ad598.add ((x7_4).toNat * 3)).off + 2, none⟩ = some (.string ((rd_T67 ((rd_T51 l0_2 x6_3).f1) x7_4).f1)) ∧ w'.cell? (ad596.add ((x6_3).toNat * 3)) = some (.int .i64 ((rd_T51 l0_2 x6_3).f0)) ∧ w'.cell? ⟨(ad596.add ((x6_3).toNat * 3)).block, (ad596.add ((x6_3).toNat * 3)).off + 1, none⟩ = some (.slice (some ad598) ((rd_T51 l0_2 x6_3).f1).length c597_1) ∧ w'.cell? ⟨(ad596.add ((x6_3).toNat * 3)).block, (ad596.add ((x6_3).toNat * 3)).off + 2, none⟩ = some (.slice A597_2 ((rd_T51 l0_2 x6_3).f2).length c597_2)) (ds := []) #[false, false, false, false, false, false, false, false, false, false, false, false, false, false, false, false, false, false, false, false, false] (by kernel_rfl) rfl rfl ⟨(kC BK584.out 0).trans rfl, (kC BK584.out 1).trans rfl, (kC BK584.out 2).trans rfl, ((HB.out.cell (World.block_lt_of_cell? w _ hw597_0)).trans hw597_0), ((HB.out.cell (World.block_lt_of_cell? w _ hw597_1)).trans hw597_1), ((HB.out.cell (World.block_lt_of_cell? w _ hw597_2)).trans hw597_2), ((HB.out.cell (World.block_lt_of_cell? w _ hw598_0)).trans hw598_0), ((HB.out.cell (World.block_lt_of_cell? w _ hw598_1)).trans hw598_1), ((HB.out.cell (World.block_lt_of_cell? w _ hw598_2)).trans hw598_2), ((HB.out.cell (World.block_lt_of_cell? w _ hw602_0)).trans hw602_0), ((HB.out.cell (World.block_lt_of_cell? w _ hw602_1)).trans hw602_1), ((HB.out.cell (World.block_lt_of_cell? w _ hw602_2)).trans hw602_2)⟩ (fun hHeld => ?_); refine with_tabW mapmakerlaw14_DataUsers.tab18 mapmakerlaw14_DataUsers.bits18 (fun HT_ HW_ => ?_)
                 generalize wr.drew = w47 at BK584 HB HR597_1 HR597_2 HR602_1 HR602_2 hx597_0 hx597_1 hx597_2 hx598_0 hx598_1 hx598_2 hx602_0 hx602_1 hx602_2 hHeld ⊢
                 refine pure_ (i := 1) (N := some 79) (v := ?_) (a' := ?_) (ba 21 2) rfl rfl (any_of HT_.out (by kernel_rfl)) (fun _ _ _ h => h) (Or.inl ⟨by rfl, ?_⟩) ?_ ?_
                 rotate_left
                 ·intro w'
                  go_simp
                  with_reducible rfl
                 rotate_left
                 ·simp only [Act.put, sA, sB, sC, i64_w, i32_w]
                  rfl
                 refine pure_ (i := 3) (N := some 81) (v := ?_) (a' := ?_) (ba 21 10) rfl rfl (any_of HT_.out (by kernel_rfl)) (fun _ _ _ h => h) (Or.inl ⟨by rfl, ?_⟩) ?_ ?_
                 rotate_left
                 ·intro w'
                  go_simp
                  with_reducible rfl
                 rotate_left
                 ·simp only [Act.put, sA, sB, sC, i64_w, i32_w]
                  rfl
                 refine pure_ (i := 7) (N := some 85) (v := ?_) (a' := ?_) (ba 21 138) rfl rfl (any_of HT_.out (by kernel_rfl)) (fun _ _ _ h => h) (Or.inl ⟨by rfl, ?_⟩) ?_ ?_
                 rotate_left
                 ·intro w'
                  go_simp
                  with_reducible rfl
                 rotate_left
                 ·simp only [Act.put, sA, sB, sC, i64_w, i32_w]
                  rfl
                 refine pure_ (i := 12) (N := some 90) (v := ?_) (a' := ?_) (ba 21 4234) rfl rfl (any_of HT_.out (by kernel_rfl)) (fun _ _ _ h => h) (Or.inl ⟨by rfl, ?_⟩) ?_ ?_
                 rotate_left
                 ·intro w'
                  go_simp
                  with_reducible rfl
                 rotate_left
                 ·simp only [Act.put, sA, sB, sC, i64_w, i32_w]
                  rfl
                 refine pure_ (i := 14) (N := some 92) (v := ?_) (a' := ?_) (ba 21 20618) rfl rfl (any_of HT_.out (by kernel_rfl)) (fun _ _ _ h => h) (Or.inl ⟨by rfl, ?_⟩) ?_ ?_
                 rotate_left
                 ·intro w'
                  go_simp
                  with_reducible rfl
                 rotate_left
                 ·simp only [Act.put, sA, sB, sC, i64_w, i32_w]
                  rfl
                 refine take_ (i := 0) (N := some 78) (v := ?_) (a' := ?_) (ba 21 20619) rfl rfl (take_ofW HT_.out HW_.out (by kernel_rfl)) (fun _ _ _ h => h) (Or.inl ⟨by rfl, ?_⟩) hHeld ?_ ?_
                 rotate_left
                 ·rintro w' ⟨s0, s1, s2, s3, s4, s5, s6, s7, s8, s9, s10, s11⟩
                  go_simp
                  with_reducible rfl
                 rotate_left
                 ·simp only [Act.put, sA, sB, sC, i64_w, i32_w]
                  rfl
                 refine take_ (i := 2) (N := some 80) (v := ?_) (a' := ?_) (ba 21 20623) rfl rfl (take_ofW HT_.out HW_.out (by kernel_rfl)) (fun _ _ _ h => h) (Or.inl ⟨by rfl, ?_⟩) hHeld ?_ ?_
                 rotate_left
                 ·rintro w' ⟨s0, s1, s2, s3, s4, s5, s6, s7, s8, s9, s10, s11⟩
                  go_simp
                  with_reducible rfl
                 rotate_left
                 ·simp only [Act.put, sA, sB, sC, i64_w, i32_w]
                  rfl
                 refine pure_ (i := 4) (N := some 82) (v := ?_) (a' := ?_) (ba 21 20639) rfl rfl (any_of HT_.out (by kernel_rfl)) (fun _ _ _ h => h) (Or.inl ⟨by rfl, ?_⟩) ?_ ?_
                 rotate_left
                 ·intro w'
                  go_simp
                  with_reducible rfl
                 rotate_left
                 ·simp only [Act.put, sA, sB, sC, i64_w, i32_w]
                  rfl
                 refine pure_ (i := 5) (N := some 83) (v := ?_) (a' := ?_) (ba 21 20671) rfl rfl (any_of HT_.out (by kernel_rfl)) (fun _ _ _ h => h) (Or.inl ⟨by rfl, ?_⟩) ?_ ?_
                 rotate_left
                 ·intro w'
                  go_simp
                  with_reducible rfl
                 rotate_left
                 ·simp only [Act.put, sA, sB, sC, i64_w, i32_w]
                  rfl
                 refine take_ (i := 6) (N := some 84) (v := ?_) (a' := ?_) (ba 21 20735) rfl rfl (take_ofW HT_.out HW_.out (by kernel_rfl)) (fun _ _ _ h => h) (Or.inl ⟨by rfl, ?_⟩) hHeld ?_ ?_
                 rotate_left
                 ·rintro w' ⟨s0, s1, s2, s3, s4, s5, s6, s7, s8, s9, s10, s11⟩
                  go_simp
                  with_reducible rfl
                 rotate_left
                 ·simp only [Act.put, sA, sB, sC, i64_w, i32_w]
                  rfl
                 refine pure_ (i := 8) (N := some 86) (v := ?_) (a' := ?_) (ba 21 20991) rfl rfl (any_of HT_.out (by kernel_rfl)) (fun _ _ _ h => h) (Or.inl ⟨by rfl, ?_⟩) ?_ ?_
                 rotate_left
                 ·intro w'
                  go_simp
                  with_reducible rfl
                 rotate_left
                 ·simp only [Act.put, sA, sB, sC, i64_w, i32_w]
                  rfl
                 refine pure_ (i := 9) (N := some 87) (v := ?_) (a' := ?_) (ba 21 21503) rfl rfl (any_of HT_.out (by kernel_rfl)) (fun _ _ _ h => h) (Or.inl ⟨by rfl, ?_⟩) ?_ ?_
                 rotate_left
                 ·intro w'
                  go_simp
                  with_reducible rfl
                 rotate_left
                 ·simp only [Act.put, sA, sB, sC, i64_w, i32_w]
                  rfl
                 refine take_ (i := 10) (N := some 88) (v := ?_) (a' := ?_) (ba 21 22527) rfl rfl (take_ofW HT_.out HW_.out (by kernel_rfl)) (fun _ _ _ h => h) (Or.inl ⟨by rfl, ?_⟩) hHeld ?_ ?_
                 rotate_left
                 ·rintro w' ⟨s0, s1, s2, s3, s4, s5, s6, s7, s8, s9, s10, s11⟩
                  go_simp
                  with_reducible rfl
                 rotate_left
                 ·simp only [Act.put, sA, sB, sC, i64_w, i32_w]
                  rfl
                 refine take_ (i := 13) (N := some 91) (v := ?_) (a' := ?_) (ba 21 30719) rfl rfl (take_ofW HT_.out HW_.out (by kernel_rfl)) (fun _ _ _ h => h) (Or.inl ⟨by rfl, ?_⟩) hHeld ?_ ?_
                 rotate_left
                 ·rintro w' ⟨s0, s1, s2, s3, s4, s5, s6, s7, s8, s9, s10, s11⟩
                  go_simp
                  with_reducible rfl
                 rotate_left
                 ·simp only [Act.put, sA, sB, sC, i64_w, i32_w]
                  rfl
                 refine pure_ (i := 15) (N := some 93) (v := ?_) (a' := ?_) (ba 21 63487) rfl rfl (any_of HT_.out (by kernel_rfl)) (fun _ _ _ h => h) (Or.inl ⟨by rfl, ?_⟩) ?_ ?_
                 rotate_left
                 ·intro w'
                  go_simp
                  with_reducible rfl
                 rotate_left
                 ·simp only [Act.put, sA, sB, sC, i64_w, i32_w]
                  rfl
                 refine pure_ (i := 16) (N := some 94) (v := ?_) (a' := ?_) (ba 21 129023) rfl rfl (any_of HT_.out (by kernel_rfl)) (fun _ _ _ h => h) (Or.inl ⟨by rfl, ?_⟩) ?_ ?_
                 rotate_left
                 ·intro w'
                  go_simp
                  with_reducible rfl
                 rotate_left
                 ·simp only [Act.put, sA, sB, sC, i64_w, i32_w]
                  rfl
                 refine take_ (i := 17) (N := some 95) (v := ?_) (a' := ?_) (ba 21 260095) rfl rfl (take_ofW HT_.out HW_.out (by kernel_rfl)) (fun _ _ _ h => h) (Or.inl ⟨by rfl, ?_⟩) hHeld ?_ ?_
                 rotate_left
                 ·rintro w' ⟨s0, s1, s2, s3, s4, s5, s6, s7, s8, s9, s10, s11⟩
                  go_simp
                  with_reducible rfl
                 rotate_left
                 ·simp only [Act.put, sA, sB, sC, i64_w, i32_w]
                  rfl
                 refine pure_ (i := 18) (N := some 96) (v := ?_) (a' := ?_) (ba 21 522239) rfl rfl (any_of HT_.out (by kernel_rfl)) (fun _ _ _ h => h) (Or.inl ⟨by rfl, ?_⟩) ?_ ?_
                 rotate_left
                 ·intro w'
                  go_simp
                  with_reducible rfl
                 rotate_left
                 ·simp only [Act.put, sA, sB, sC, i64_w, i32_w]
                  rfl
                 refine one_ (i := 11) (N := some 89) (ba 21 524287) rfl rfl (one_of HT_.out (by kernel_rfl)) (by decide) (fun K hK => ?_)
                 refine goes_ Try.func24 (by kernel_rfl) rfl #[.agg #[.slice A0_0 l0_0.length c0_0, .slice A0_1 l0_1.length c0_1, .slice (some ad596) l0_2.length c0_2], .agg #[.int .i64 ((rd_T67 ((rd_T51 l0_2 x6_3).f1) x7_4).f0.f0), .int .i64 ((rd_T67 ((rd_T51 l0_2 x6_3).f1) x7_4).f0.f1)]] (by rfl) rfl rfl (by (try simp only [List.map_toArray, List.map_cons, List.map_nil]); first | done | rfl | (simp only [List.length_drop, List.length_take]; rfl)) ?_
                 with_reducible refine (data_Users.calls k4 _ _ l0_0 _ _ l0_1 _ _ l0_2 ((rd_T67 ((rd_T51 l0_2 x6_3).f1) x7_4).f0.f0) ((rd_T67 ((rd_T51 l0_2 x6_3).f1) x7_4).f0.f1) t599 _ ?side1 ?side2 ?side3 ?side4 ?side5 ?side6 A43.out).mono ?_
                 (case side1 => exact cl HR0_0)
                 (case side2 => exact HC0_0.out)
                 (case side3 => exact cl HR0_1)
                 (case side4 => exact HC0_1.out)
                 (case side5 => exact cl HR0_2)
                 (case side6 => exact HC0_2.out)
                 rintro e w48 ⟨v600, rfl, ho0, hb⟩
                 refine ⟨_, rfl, ?_⟩
                 have HO601 := aM (Kd.R_lower ho0 (below_size (bl)))
                 replace BK584 := aM (kB (kl BK584) hb)
                 replace HB := aM (bS (bl) hb)
                 (try clear hb)
                 (try clear hb2)
                 (try clear hk)
                 (try clear hi)
                 (try clear ho0)
                 obtain ⟨Ao49, co49, eo49⟩ := Kd.R_slice HO601.out
                 (first | subst eo49 | (injection eo49 with f1_ f2_ f3_; have f4_ := f1_.symm; have f5_ := f3_.symm; clear f1_ f2_ f3_; subst f4_; subst f5_))
                 refine hK.out _ _ ⟨(kC BK584.out 0).trans rfl, (kC BK584.out 1).trans rfl, (kC BK584.out 2).trans rfl, ((HB.out.cell (World.block_lt_of_cell? w _ hw597_0)).trans hw597_0), ((HB.out.cell (World.block_lt_of_cell? w _ hw597_1)).trans hw597_1), ((HB.out.cell (World.block_lt_of_cell? w _ hw597_2)).trans hw597_2), ((HB.out.cell (World.block_lt_of_cell? w _ hw598_0)).trans hw598_0), ((HB.out.cell (World.block_lt_of_cell? w _ hw598_1)).trans hw598_1), ((HB.out.cell (World.block_lt_of_cell? w _ hw598_2)).trans hw598_2), ((HB.out.cell (World.block_lt_of_cell? w _ hw602_0)).trans hw602_0), ((HB.out.cell (World.block_lt_of_cell? w _ hw602_1)).trans hw602_1), ((HB.out.cell (World.block_lt_of_cell? w _ hw602_2)).trans hw602_2)⟩ (fun hHeld => ?_)
                 clear hK K
                 refine norm_ (a' := ?_) ?_ ?_
                 rotate_left
                 ·show Act.put _ (some 89) _ = _
                  simp only [Act.put, sA, sB, sC, i64_w, i32_w]
                  rfl
                 refine one_ (i := 19) (N := some 97) (ba 21 1048575) rfl rfl (one_of HT_.out (by kernel_rfl)) (by decide) (fun K hK => ?_)
                 refine goes_ Try.func34 (by kernel_rfl) rfl #[.slice Ao49 t599.length co49, .agg #[.int .i64 3, .int .i64 ((rd_T51 l0_2 x6_3).f0)]] (by rfl) rfl rfl (by (try simp only [List.map_toArray, List.map_cons, List.map_nil]); first | done | rfl | (simp only [List.length_drop, List.length_take]; rfl)) ?_
                 with_reducible refine (mapmakerlaw14_has.calls k4 _ _ t599 3 ((rd_T51 l0_2 x6_3).f0) true _ ?side1 ?side2 A44.out).mono ?_
                 (case side1 => repeat (first | exact (rR HO601.out).2.2 | (with_reducible refine cA ?_ _) | (with_reducible refine cN ?_ _) | (with_reducible refine cD ?_)))
                 (case side2 => exact (rR HO601.out).2.1)
                 rintro e w50 ⟨rfl, hb⟩
                 refine ⟨_, rfl, ?_⟩
                 replace BK584 := aM (kB (kl BK584) hb)
                 replace HB := aM (bS (bl) hb)
                 clear HO601
                 (try clear hb)
                 (try clear hb2)
                 (try clear hk)
                 (try clear hi)
                 refine hK.out _ _ ⟨(kC BK584.out 0).trans rfl, (kC BK584.out 1).trans rfl, (kC BK584.out 2).trans rfl, ((HB.out.cell (World.block_lt_of_cell? w _ hw597_0)).trans hw597_0), ((HB.out.cell (World.block_lt_of_cell? w _ hw597_1)).trans hw597_1), ((HB.out.cell (World.block_lt_of_cell? w _ hw597_2)).trans hw597_2), ((HB.out.cell (World.block_lt_of_cell? w _ hw598_0)).trans hw598_0), ((HB.out.cell (World.block_lt_of_cell? w _ hw598_1)).trans hw598_1), ((HB.out.cell (World.block_lt_of_cell? w _ hw598_2)).trans hw598_2), ((HB.out.cell (World.block_lt_of_cell? w _ hw602_0)).trans hw602_0), ((HB.out.cell (World.block_lt_of_cell? w _ hw602_1)).trans hw602_1), ((HB.out.cell (World.block_lt_of_cell? w _ hw602_2)).trans hw602_2)⟩ (fun hHeld => ?_)
                 clear hK K
                 refine norm_ (a' := ?_) ?_ ?_
                 rotate_left
                 ·show Act.put _ (some 97) _ = _
                  simp only [Act.put, sA, sB, sC, i64_w, i32_w]
                  rfl
                 refine pure_ (i := 20) (N := some 98) (v := ?_) (a' := ?_) (ba 21 2097151) rfl rfl (any_of HT_.out (by kernel_rfl)) (fun _ _ _ h => h) (Or.inl ⟨by rfl, ?_⟩) ?_ ?_
                 rotate_left
                 ·intro w'
                  go_simp
                  with_reducible rfl
                 rotate_left
                 ·simp only [Act.put, sA, sB, sC, i64_w, i32_w]
                  rfl
                 refine done_ (done_of HT_.out (by kernel_rfl)) ?_
                 try go_wp2
                 go_roundg k4
                 case measure => have := HJ1.out; have := HK2.out; have := HK3.out; have := HK4.out; omega
                 case rel => exact ⟨(wrap64 (x7_4 + 1)), (by first | rfl | (simp; done) | (simp [*]; done)), H', ⟨by have := HJ1.out; have := HK2.out; have := HK3.out; have := HK4.out; omega⟩, ⟨by (with_reducible repeat (first | refine kN ?_ _ | refine kD ?_ | refine kA ?_ _)); exact BK584.out⟩, ⟨bl⟩⟩
                ·replace c45 := Bool.eq_false_iff.mpr c45
                 subst c45
                 have H1 : (some false) = some r := by rw [if_neg (show ¬ (false = true) by decide)] at H; exact H
                 clear H
                 have H := H1
                 clear H1
                 obtain rfl := Option.some.inj H
                 cases hT
               ·rw [if_neg c42] at H
                exact absurd H (by simp)
              ·rw [if_neg c41] at H
               have c41b0 : decide (x7_4 < (((rd_T51 l0_2 x6_3).f1).length : Int)) = false := decide_eq_false c41
               clear c41
               have H' := aM H
               clear H
               obtain ⟨hcz56_0, hcz56_1, hcz56_2, hfz56_0, hfz56_1, hfz56_2⟩ := bc3 BK584
               have p596 : 0 ≤ (x6_3 : Int) := oT
               have q596 : x6_3 < (l0_2.length : Int) := oT
               obtain ⟨ad596, A596_1, c596_1, A596_2, c596_2, e596, hx596_0, hx596_1, hx596_2, hl596_1, hi596_1, hl596_2, hi596_2⟩ := at_T51 HR0_2.out x6_3 p596 q596
               cases e596
               replace hx596_0 := hs HB.out hx596_0
               replace hx596_1 := hs HB.out hx596_1
               replace hx596_2 := hs HB.out hx596_2
               have HR596_1 := aM hi596_1
               have HC596_1 := aM hl596_1
               clear hi596_1 hl596_1
               have HR596_2 := aM hi596_2
               have HC596_2 := aM hl596_2
               clear hi596_2 hl596_2
               replace p596 := eq_true p596
               replace q596 := eq_true q596
               go_wp2
               go_roundg k4
               case measure => have := HJ1.out; have := HK2.out; have := HK3.out; have := HK4.out; omega
               case rel => exact ⟨(wrap64 (x6_3 + 1)), (by first | rfl | (simp; done) | (simp [*]; done)), H', ⟨by have := HJ1.out; have := HK2.out; have := HK3.out; have := HK4.out; omega⟩, ⟨by (with_reducible repeat (first | refine kN ?_ _ | refine kD ?_ | refine kA ?_ _)); exact BK584.out⟩, ⟨bl⟩⟩
             ·rw [if_neg c40] at H
              exact absurd H (by simp)
            ·rw [if_neg c39] at H
             exact absurd H (by simp)
         ·rw [if_neg c37] at H
          have c37b0 : decide (x6_3 < (l0_2.length : Int)) = false := decide_eq_false c37
          clear c37
          replace H := Option.bind_eq_some_iff.mp H
          obtain ⟨t604, A570, H⟩ := H
          try dsimp only at H
          have A57 := aM A570
          clear A570
          have H' := aM H
          clear H
          obtain ⟨hcz58_0, hcz58_1, hcz58_2, hfz58_0, hfz58_1, hfz58_2⟩ := bc3 BK584
          go_wp2_with (first | ((with_reducible refine gate_callee (f := 26) rfl ?_); refine gL (some 100) Try.func26 #[.agg #[.slice A0_0 l0_0.length c0_0, .slice A0_1 l0_1.length c0_1, .slice A0_2 l0_2.length c0_2]] ?_; (with_reducible refine (data_Refs.calls k3 _ _ l0_0 _ _ l0_1 _ _ l0_2 t604 _ ?side1 ?side2 ?side3 ?side4 ?side5 ?side6 A57.out).mono ?_); (case side1 => exact cl HR0_0); (case side2 => exact HC0_0.out); (case side3 => exact cl HR0_1); (case side4 => exact HC0_1.out); (case side5 => exact cl HR0_2); (case side6 => exact HC0_2.out); rintro e w59 ⟨v605, rfl, ho0, hb⟩; refine ⟨_, rfl, ?_⟩; have HO606 := aM (Kd.R_lower ho0 (below_size (bl))); replace BK584 := aM (kB (kl BK584) hb); replace HB := aM (bS (bl) hb); (try clear hb); (try clear ho0)))
          go_loopg [3, 9] k3 (fun kq v3 v9 w' => ∃ (x3_4 : Int) (x9_4 : Int), v3 = .int .i64 x3_4 ∧ v9 = .int .i64 x9_4 ∧ Aside0 (mapmakerlaw14_DataUsers.l4 kq x3_4 t604 x9_4 l0_0 l0_1 l0_2 = some r) ∧ Aside0 (kq ≤ k3) ∧ Aside0 (Kd.R k34 34 w' w.heap.size (fun _ => True) v605 t604) ∧ Aside0 (w'.heap[gb584]? = some (.cells #[(.slice A0_0 l0_0.length c0_0), (.slice A0_1 l0_1.length c0_1), (.slice A0_2 l0_2.length c0_2)] 26 (0, 0))) ∧ Aside0 (Below w.heap.size w w'))
          case atStart => exact ⟨(0), (0), (by first | rfl | (simp; done) | (simp [*]; done)), (by first | rfl | (simp; done) | (simp [*]; done)), H', ⟨Nat.le_refl _⟩, ⟨by (with_reducible repeat (first | apply rA | apply rN | apply rD)); exact HO606.out⟩, ⟨by (with_reducible repeat (first | refine kN ?_ _ | refine kD ?_ | refine kA ?_ _)); exact BK584.out⟩, ⟨bl⟩⟩
          case round =>
           clear H'
           try clear c2
           try clear p2
           try clear c3
           try clear c4
           try clear c5
           try clear p5
           try clear q5
           try clear hx5
           try clear c6
           try clear p6
           try clear q6
           try clear hx6
           try clear c24
           try clear c26
           try clear c34
           try clear c37
           try clear c37b0
           try clear c39
           try clear c40
           try clear c41
           try clear c41b0
           try clear c42
           try clear c45
           try clear c59
           try clear p59
           try clear q59
           try clear hx59
           try clear hcz51_0 hcz51_1 hcz51_2 hfz51_0 hfz51_1 hfz51_2
           try clear hcz56_0 hcz56_1 hcz56_2 hfz56_0 hfz56_1 hfz56_2
           try clear hcz58_0 hcz58_1 hcz58_2 hfz58_0 hfz58_1 hfz58_2
           try clear hx596_0
           try clear hx596_1
           try clear hx596_2
           try clear hx597_0
           try clear hx597_1
           try clear hx597_2
           try clear hx598_0
           try clear hx598_1
           try clear hx598_2
           try clear hx602_0
           try clear hx602_1
           try clear hx602_2
           try clear p596
           try clear p597
           try clear p598
           try clear p602
           try clear q596
           try clear q597
           try clear q598
           try clear q602
           obtain ⟨x3_4, x9_4, rfl, rfl, HA, HK4, HO_8, BK584, HB⟩ := hrel
           cases gk with
           | zero => exact absurd HA.out (by simp [mapmakerlaw14_DataUsers.l4])
           | succ k4 =>
            have H := HA.out
            clear HA
            simp only [mapmakerlaw14_DataUsers.l4] at H
            by_cases c60 : x9_4 < (t604.length : Int)
            ·rw [if_pos c60] at H
             have c60b0 : decide (x9_4 < (t604.length : Int)) = true := decide_eq_true c60
             clear c60
             by_cases c61 : 0 ≤ x9_4
             ·rw [if_pos c61] at H
              have c61b0 : decide (0 ≤ x9_4) = true := decide_eq_true c61
              clear c61
              replace H := Option.bind_eq_some_iff.mp H
              obtain ⟨t611, A620, H⟩ := H
              try dsimp only at H
              have A62 := aM A620
              clear A620
              have H' := aM H
              clear H
              obtain ⟨Ao63, co63, eo63⟩ := Kd.R_slice HO_8.out
              subst eo63
              try go_wp2
              replace HO_8 := aM (rD HO_8.out)
              replace BK584 := aM (kD BK584.out)
              replace HB := aM (bD HB.out)
              have p610 : 0 ≤ (x9_4 : Int) := oT
              have q610 : x9_4 < (t604.length : Int) := oT
              obtain ⟨ad610, e610, hx610_0, hx610_1⟩ := at_T34 (rR HO_8.out).2.2 x9_4 p610 q610
              cases e610
              replace p610 := eq_true p610
              replace q610 := eq_true q610
              refine start_ (n := 7) (S := fun w' => w'.cell? ⟨gb584, 0, none⟩ = some (.slice A0_0 l0_0.length c0_0) ∧ w'.cell? ⟨gb584, 1, none⟩ = some (.slice A0_1 l0_1.length c0_1) ∧ w'.cell? ⟨gb584, 2, none⟩ = some (.slice A0_2 l0_2.length c0_2) ∧ w'.cell? (ad610.add ((x9_4).toNat * 2)) = some (.int .i64 ((rd_T34 t604 x9_4).f0)) ∧ w'.cell? ⟨(ad610.add ((x9_4).toNat * 2)).block, (ad610.add ((x9_4).toNat * 2)).off + 1, none⟩ = some (.int .i64 ((rd_T34 t604 x9_4).f1))) (ds := []) #[false, false, false, false, false, false, false] (by kernel_rfl) rfl rfl ⟨(kC BK584.out 0).trans rfl, (kC BK584.out 1).trans rfl, (kC BK584.out 2).trans rfl, hx610_0, hx610_1⟩ (fun hHeld => ?_)
              generalize wr.drew = w64 at HO_8 BK584 HB hx610_0 hx610_1 hHeld ⊢
              refine pure_ (i := 1) (N := some 108) (v := ?_) (a' := ?_) (ba 7 2) rfl rfl (by kernel_rfl) (fun _ _ _ h => h) (Or.inl ⟨by rfl, ?_⟩) ?_ ?_
              rotate_left
              ·intro w'
               go_simp
               with_reducible rfl
              rotate_left
              ·simp only [Act.put, sA, sB, sC, i64_w, i32_w]
               rfl
              refine pure_ (i := 2) (N := some 109) (v := ?_) (a' := ?_) (ba 7 6) rfl rfl (by kernel_rfl) (fun _ _ _ h => h) (Or.inl ⟨by rfl, ?_⟩) ?_ ?_
              rotate_left
              ·intro w'
               go_simp
               with_reducible rfl
              rotate_left
              ·simp only [Act.put, sA, sB, sC, i64_w, i32_w]
               rfl
              refine pure_ (i := 3) (N := some 110) (v := ?_) (a' := ?_) (ba 7 14) rfl rfl (by kernel_rfl) (fun _ _ _ h => h) (Or.inl ⟨by rfl, ?_⟩) ?_ ?_
              rotate_left
              ·intro w'
               go_simp
               with_reducible rfl
              rotate_left
              ·simp only [Act.put, sA, sB, sC, i64_w, i32_w]
               rfl
              refine take_ (i := 0) (N := some 107) (v := ?_) (a' := ?_) (ba 7 15) rfl rfl (by kernel_rfl) (fun _ _ _ h => h) (Or.inl ⟨by rfl, ?_⟩) hHeld ?_ ?_
              rotate_left
              ·rintro w' ⟨s0, s1, s2, s3, s4⟩
               go_simp
               with_reducible rfl
              rotate_left
              ·simp only [Act.put, sA, sB, sC, i64_w, i32_w]
               rfl
              refine take_ (i := 4) (N := some 111) (v := ?_) (a' := ?_) (ba 7 31) rfl rfl (by kernel_rfl) (fun _ _ _ h => h) (Or.inl ⟨by rfl, ?_⟩) hHeld ?_ ?_
              rotate_left
              ·rintro w' ⟨s0, s1, s2, s3, s4⟩
               go_simp
               with_reducible rfl
              rotate_left
              ·simp only [Act.put, sA, sB, sC, i64_w, i32_w]
               rfl
              refine one_ (i := 5) (N := some 112) (ba 7 63) rfl rfl (by kernel_rfl) (by decide) (fun K hK => ?_)
              refine goes_ Try.func24 (by kernel_rfl) rfl #[.agg #[.slice A0_0 l0_0.length c0_0, .slice A0_1 l0_1.length c0_1, .slice A0_2 l0_2.length c0_2], .agg #[.int .i64 ((rd_T34 t604 x9_4).f0), .int .i64 ((rd_T34 t604 x9_4).f1)]] (by rfl) rfl rfl (by (try simp only [List.map_toArray, List.map_cons, List.map_nil]); first | done | rfl | (simp only [List.length_drop, List.length_take]; rfl)) ?_
              with_reducible refine (data_Users.calls k4 _ _ l0_0 _ _ l0_1 _ _ l0_2 ((rd_T34 t604 x9_4).f0) ((rd_T34 t604 x9_4).f1) t611 _ ?side1 ?side2 ?side3 ?side4 ?side5 ?side6 A62.out).mono ?_
              (case side1 => exact cl HR0_0)
              (case side2 => exact HC0_0.out)
              (case side3 => exact cl HR0_1)
              (case side4 => exact HC0_1.out)
              (case side5 => exact cl HR0_2)
              (case side6 => exact HC0_2.out)
              rintro e w65 ⟨v612, rfl, ho0, hb⟩
              have HS3_ := (hb.cell (World.block_lt_of_cell? _ _ (hHeld.2.2.2.1))).trans (hHeld.2.2.2.1)
              have HS4_ := (hb.cell (World.block_lt_of_cell? _ _ (hHeld.2.2.2.2))).trans (hHeld.2.2.2.2)
              refine ⟨_, rfl, ?_⟩
              have HO613 := aM (Kd.R_lower (Kd.R_new' ho0 (Kd.R_lt (rl HO_8))) (below_size (bl)))
              replace HO_8 := aM (rE (rl HO_8) (Kd.R_base ho0) hb)
              replace BK584 := aM (kB (kl BK584) hb)
              replace HB := aM (bS (bl) hb)
              (try clear hb)
              (try clear hb2)
              (try clear hk)
              (try clear hi)
              (try clear ho0)
              refine hK.out _ _ ⟨(kC BK584.out 0).trans rfl, (kC BK584.out 1).trans rfl, (kC BK584.out 2).trans rfl, HS3_, HS4_⟩ (fun hHeld => ?_)
              clear hK K
              refine norm_ (a' := ?_) ?_ ?_
              rotate_left
              ·show Act.put _ (some 112) _ = _
               simp only [Act.put, sA, sB, sC, i64_w, i32_w]
               rfl
              refine pure_ (i := 6) (N := some 10) (v := ?_) (a' := ?_) (ba 7 127) rfl rfl (by kernel_rfl) (fun _ _ _ h => h) (Or.inl ⟨by rfl, ?_⟩) ?_ ?_
              rotate_left
              ·intro w'
               go_simp
               with_reducible rfl
              rotate_left
              ·simp only [Act.put, sA, sB, sC, i64_w, i32_w]
               rfl
              refine done_ (by kernel_rfl) ?_
              try go_wp2
              go_loopg [3, 11] k4 (fun kq v3 v11 w' => ∃ (x3_5 : Int) (x11_5 : Int), v3 = .int .i64 x3_5 ∧ v11 = .int .i64 x11_5 ∧ Aside0 (mapmakerlaw14_DataUsers.l5 kq x3_5 t604 x9_4 t611 x11_5 l0_0 l0_1 l0_2 = some r) ∧ Aside0 (kq ≤ k4) ∧ Aside0 (Kd.R k34 34 w' w.heap.size (fun k_ => some k_ ≠ (v612 : Value).ownBlock) (.slice (some ad610) t604.length co63) t604) ∧ Aside0 (Kd.R k34 34 w' w.heap.size (fun k_ => some k_ ≠ ((.slice (some ad610) t604.length co63) : Value).ownBlock) v612 t611) ∧ Aside0 (w'.heap[gb584]? = some (.cells #[(.slice A0_0 l0_0.length c0_0), (.slice A0_1 l0_1.length c0_1), (.slice A0_2 l0_2.length c0_2)] 26 (0, 0))) ∧ Aside0 (Below w.heap.size w w'))
              case atStart => exact ⟨(x3_4), (0), (by first | rfl | (simp; done) | (simp [*]; done)), (by first | rfl | (simp; done) | (simp [*]; done)), H', ⟨Nat.le_refl _⟩, ⟨by (with_reducible repeat (first | apply rA | apply rN | apply rD)); exact rM HO_8.out (fun _ hk => hk.2)⟩, ⟨by (with_reducible repeat (first | apply rA | apply rN | apply rD)); exact rM HO613.out (fun _ hk => hk.2)⟩, ⟨by (with_reducible repeat (first | refine kN ?_ _ | refine kD ?_ | refine kA ?_ _)); exact BK584.out⟩, ⟨bl⟩⟩
              case round =>
               clear H'
               try clear c2
               try clear p2
               try clear c3
               try clear c4
               try clear c5
               try clear p5
               try clear q5
               try clear hx5
               try clear c6
               try clear p6
               try clear q6
               try clear hx6
               try clear c24
               try clear c26
               try clear c34
               try clear c37
               try clear c37b0
               try clear c39
               try clear c40
               try clear c41
               try clear c41b0
               try clear c42
               try clear c45
               try clear c59
               try clear p59
               try clear q59
               try clear hx59
               try clear c60
               try clear c60b0
               try clear p60
               try clear q60
               try clear hx60
               try clear c61
               try clear c61b0
               try clear p61
               try clear q61
               try clear hx61
               try clear p64
               try clear hcz51_0 hcz51_1 hcz51_2 hfz51_0 hfz51_1 hfz51_2
               try clear hcz56_0 hcz56_1 hcz56_2 hfz56_0 hfz56_1 hfz56_2
               try clear hcz58_0 hcz58_1 hcz58_2 hfz58_0 hfz58_1 hfz58_2
               try clear hx596_0
               try clear hx596_1
               try clear hx596_2
               try clear hx597_0
               try clear hx597_1
               try clear hx597_2
               try clear hx598_0
               try clear hx598_1
               try clear hx598_2
               try clear hx602_0
               try clear hx602_1
               try clear hx602_2
               try clear hx610_0
               try clear hx610_1
               try clear p2
               try clear p5
               try clear p59
               try clear p596
               try clear p597
               try clear p598
               try clear p6
               try clear p602
               try clear p610
               try clear q5
               try clear q59
               try clear q596
               try clear q597
               try clear q598
               try clear q6
               try clear q602
               try clear q610
               obtain ⟨x3_5, x11_5, rfl, rfl, HA, HK5, HO_8, HO_10, BK584, HB⟩ := hrel
               cases gk with
               | zero => exact absurd HA.out (by simp [mapmakerlaw14_DataUsers.l5])
               | succ k5 =>
                have H := HA.out
                clear HA
                simp only [mapmakerlaw14_DataUsers.l5] at H
                by_cases c66 : x11_5 < (t611.length : Int)
                ·rw [if_pos c66] at H
                 have c66b0 : decide (x11_5 < (t611.length : Int)) = true := decide_eq_true c66
                 clear c66
                 by_cases c67 : 0 ≤ x11_5
                 ·rw [if_pos c67] at H
                  have c67b0 : decide (0 ≤ x11_5) = true := decide_eq_true c67
                  clear c67
                  replace H := Option.bind_eq_some_iff.mp H
                  obtain ⟨t615, A680, H⟩ := H
                  try dsimp only at H
                  have A68 := aM A680
                  clear A680
                  by_cases c69 : t615 = true
                  ·subst c69
                   have H1 : (if x11_5 > 0 then (if 0 ≤ (wrap64 (x11_5 - 1)) then (if (wrap64 (x11_5 - 1)) < (t611.length : Int) then ((mapmakerref14_Less.f ((rd_T34 t611 (wrap64 (x11_5 - 1))).f0) ((rd_T34 t611 (wrap64 (x11_5 - 1))).f1) ((rd_T34 t611 x11_5).f0) ((rd_T34 t611 x11_5).f1)).bind fun t618 => (if t618 = true then (mapmakerlaw14_DataUsers.l5 k5 (wrap64 (x3_5 + 1)) t604 x9_4 t611 (wrap64 (x11_5 + 1)) l0_0 l0_1 l0_2) else (some false))) else (none)) else (none)) else (mapmakerlaw14_DataUsers.l5 k5 (wrap64 (x3_5 + 1)) t604 x9_4 t611 (wrap64 (x11_5 + 1)) l0_0 l0_1 l0_2)) = some r := by rw [if_pos rfl] at H; exact H
                   clear H
                   have H := H1
                   clear H1
                   by_cases c70 : x11_5 > 0
                   ·rw [if_pos c70] at H
                    have c70b0 : decide (0 < x11_5) = true := decide_eq_true c70
                    clear c70
                    obtain ⟨ji71, hji71⟩ : ∃ j_ : Int, (wrap64 (x11_5 - 1)) = j_ := ⟨_, rfl⟩
                    replace H : (if 0 ≤ (ji71) then (if (ji71) < (t611.length : Int) then ((mapmakerref14_Less.f ((rd_T34 t611 (ji71)).f0) ((rd_T34 t611 (ji71)).f1) ((rd_T34 t611 x11_5).f0) ((rd_T34 t611 x11_5).f1)).bind fun t618 => (if t618 = true then (mapmakerlaw14_DataUsers.l5 k5 (wrap64 (x3_5 + 1)) t604 x9_4 t611 (wrap64 (x11_5 + 1)) l0_0 l0_1 l0_2) else (some false))) else (none)) else (none)) = some r := by first | (rw [hji71] at H; exact H) | (simp only [hji71] at H ⊢; exact H)
                    (try rw [hji71] at A68)
                    have hji71w : (IntKind.i64.wrap (x11_5 - 1)) = ji71 := (i64_w _).trans hji71
                    by_cases c72 : 0 ≤ (ji71)
                    ·rw [if_pos c72] at H
                     have c72b0 : decide (0 ≤ (ji71)) = true := decide_eq_true c72
                     clear c72
                     by_cases c73 : (ji71) < (t611.length : Int)
                     ·rw [if_pos c73] at H
                      have c73b0 : decide ((ji71) < (t611.length : Int)) = true := decide_eq_true c73
                      clear c73
                      replace H := Option.bind_eq_some_iff.mp H
                      obtain ⟨t618, A740, H⟩ := H
                      try dsimp only at H
                      have A74 := aM A740
                      clear A740
                      by_cases c75 : t618 = true
                      ·subst c75
                       have H1 : (mapmakerlaw14_DataUsers.l5 k5 (wrap64 (x3_5 + 1)) t604 x9_4 t611 (wrap64 (x11_5 + 1)) l0_0 l0_1 l0_2) = some r := by rw [if_pos rfl] at H; exact H
                       clear H
                       have H := H1
                       clear H1
                       have H' := aM H
                       clear H
                       obtain ⟨Ao76, co76, eo76⟩ := Kd.R_slice HO_10.out
                       subst eo76
                       try go_wp2
                       replace HO_8 := aM (rD HO_8.out)
                       replace HO_10 := aM (rD HO_10.out)
                       replace BK584 := aM (kD BK584.out)
                       replace HB := aM (bD HB.out)
                       have p614 : 0 ≤ (x11_5 : Int) := oT
                       have q614 : x11_5 < (t611.length : Int) := oT
                       obtain ⟨ad614, e614, hx614_0, hx614_1⟩ := at_T34 (rR HO_10.out).2.2 x11_5 p614 q614
                       cases e614
                       replace p614 := eq_true p614
                       replace q614 := eq_true q614
                       have p616 : 0 ≤ ((ji71) : Int) := oT
                       have q616 : (ji71) < (t611.length : Int) := oT
                       obtain ⟨ad616, e616, hx616_0, hx616_1⟩ := at_T34 (rR HO_10.out).2.2 (ji71) p616 q616
                       obtain rfl : ad614 = ad616 := (by injection e616)
                       replace p616 := eq_true p616
                       replace q616 := eq_true q616
                       have p617 : 0 ≤ (x11_5 : Int) := oT
                       have q617 : x11_5 < (t611.length : Int) := oT
                       obtain ⟨ad617, e617, hx617_0, hx617_1⟩ := at_T34 (rR HO_10.out).2.2 x11_5 p617 q617
                       obtain rfl : ad614 = ad617 := (by injection e617)
                       replace p617 := eq_true p617
                       replace q617 := eq_true q617
                       refine start_ (n := 24) (S := fun w' => w'.cell? ⟨gb584, 0, none⟩ = some (.slice A0_0 l0_0.length c0_0) ∧ w'.cell? ⟨gb584, 1, none⟩ = some (.slice A0_1 l0_1.length c0_1) ∧ w'.cell? ⟨gb584, 2, none⟩ = some (.slice A0_2 l0_2.length c0_2) ∧ w'.cell? (ad614.add ((x11_5).toNat * 2)) = some (.int .i64 ((rd_T34 t611 x11_5).f0)) ∧ w'.cell? ⟨(ad614.add ((x11_5).toNat * 2)).block, (ad614.add ((x11_5).toNat * 2)).off + 1, none⟩ = some (.int .i64 ((rd_T34 t611 x11_5).f1)) ∧ w'.cell? (ad614.add (((ji71)).toNat * 2)) = some (.int .i64 ((rd_T34 t611 (ji71)).f0)) ∧ w'.cell? ⟨(ad614.add (((ji71)).toNat * 2)).block, (ad614.add (((ji71)).toNat * 2)).off + 1, none⟩ = some (.int .i64 ((rd_T34 t611 (ji71)).f1)) ∧ w'.cell? (ad614.add ((x11_5).toNat * 2)) = some (.int .i64 ((rd_T34 t611 x11_5).f0)) ∧ w'.cell? ⟨(ad614.add ((x11_5).toNat * 2)).block, (ad614.add ((x11_5).toNat * 2)).off + 1, none⟩ = some (.int .i64 ((rd_T34 t611 x11_5).f1))) (ds := []) #[false, false, false, false, false, false, false, false, false, false, false, false, false, false, false, false, false, false, false, false, false, false, false, false] (by kernel_rfl) rfl rfl ⟨(kC BK584.out 0).trans rfl, (kC BK584.out 1).trans rfl, (kC BK584.out 2).trans rfl, hx614_0, hx614_1, hx616_0, hx616_1, hx617_0, hx617_1⟩ (fun hHeld => ?_); refine with_tabW mapmakerlaw14_DataUsers.tab29 mapmakerlaw14_DataUsers.bits29 (fun HT_ HW_ => ?_)
                       generalize wr.drew = w77 at HO_8 HO_10 BK584 HB hx614_0 hx614_1 hx616_0 hx616_1 hx617_0 hx617_1 hHeld ⊢
                       refine pure_ (i := 1) (N := some 122) (v := ?_) (a' := ?_) (ba 24 2) rfl rfl (any_of HT_.out (by kernel_rfl)) (fun _ _ _ h => h) (Or.inl ⟨by rfl, ?_⟩) ?_ ?_
                       rotate_left
                       ·intro w'
                        go_simp
                        with_reducible rfl
                       rotate_left
                       ·simp only [Act.put, sA, sB, sC, i64_w, i32_w]
                        rfl
                       refine pure_ (i := 2) (N := some 123) (v := ?_) (a' := ?_) (ba 24 6) rfl rfl (any_of HT_.out (by kernel_rfl)) (fun _ _ _ h => h) (Or.inl ⟨by rfl, ?_⟩) ?_ ?_
                       rotate_left
                       ·intro w'
                        go_simp
                        with_reducible rfl
                       rotate_left
                       ·simp only [Act.put, sA, sB, sC, i64_w, i32_w]
                        rfl
                       refine pure_ (i := 3) (N := some 124) (v := ?_) (a' := ?_) (ba 24 14) rfl rfl (any_of HT_.out (by kernel_rfl)) (fun _ _ _ h => h) (Or.inl ⟨by rfl, ?_⟩) ?_ ?_
                       rotate_left
                       ·intro w'
                        go_simp
                        with_reducible rfl
                       rotate_left
                       ·simp only [Act.put, sA, sB, sC, i64_w, i32_w]
                        rfl
                       refine take_ (i := 0) (N := some 121) (v := ?_) (a' := ?_) (ba 24 15) rfl rfl (take_ofW HT_.out HW_.out (by kernel_rfl)) (fun _ _ _ h => h) (Or.inl ⟨by rfl, ?_⟩) hHeld ?_ ?_
                       rotate_left
                       ·rintro w' ⟨s0, s1, s2, s3, s4, s5, s6, s7, s8⟩
                        go_simp
                        with_reducible rfl
                       rotate_left
                       ·simp only [Act.put, sA, sB, sC, i64_w, i32_w]
                        rfl
                       refine take_ (i := 4) (N := some 125) (v := ?_) (a' := ?_) (ba 24 31) rfl rfl (take_ofW HT_.out HW_.out (by kernel_rfl)) (fun _ _ _ h => h) (Or.inl ⟨by rfl, ?_⟩) hHeld ?_ ?_
                       rotate_left
                       ·rintro w' ⟨s0, s1, s2, s3, s4, s5, s6, s7, s8⟩
                        go_simp
                        with_reducible rfl
                       rotate_left
                       ·simp only [Act.put, sA, sB, sC, i64_w, i32_w]
                        rfl
                       refine one_ (i := 5) (N := some 126) (ba 24 63) rfl rfl (one_of HT_.out (by kernel_rfl)) (by decide) (fun K hK => ?_)
                       refine goes_ Try.func21 (by kernel_rfl) rfl #[.agg #[.slice A0_0 l0_0.length c0_0, .slice A0_1 l0_1.length c0_1, .slice A0_2 l0_2.length c0_2], .agg #[.int .i64 ((rd_T34 t611 x11_5).f0), .int .i64 ((rd_T34 t611 x11_5).f1)]] (by rfl) rfl rfl (by (try simp only [List.map_toArray, List.map_cons, List.map_nil]); first | done | rfl | (simp only [List.length_drop, List.length_take]; rfl)) ?_
                       with_reducible refine (data_Has.calls k5 _ _ l0_0 _ _ l0_1 _ _ l0_2 ((rd_T34 t611 x11_5).f0) ((rd_T34 t611 x11_5).f1) true _ ?side1 ?side2 ?side3 ?side4 ?side5 ?side6 A68.out).mono ?_
                       (case side1 => exact cl HR0_0)
                       (case side2 => exact HC0_0.out)
                       (case side3 => exact cl HR0_1)
                       (case side4 => exact HC0_1.out)
                       (case side5 => exact cl HR0_2)
                       (case side6 => exact HC0_2.out)
                       rintro e w78 ⟨rfl, hb⟩
                       have HS3_ := (hb.cell (World.block_lt_of_cell? _ _ (hHeld.2.2.2.1))).trans (hHeld.2.2.2.1)
                       have HS4_ := (hb.cell (World.block_lt_of_cell? _ _ (hHeld.2.2.2.2.1))).trans (hHeld.2.2.2.2.1)
                       have HS5_ := (hb.cell (World.block_lt_of_cell? _ _ (hHeld.2.2.2.2.2.1))).trans (hHeld.2.2.2.2.2.1)
                       have HS6_ := (hb.cell (World.block_lt_of_cell? _ _ (hHeld.2.2.2.2.2.2.1))).trans (hHeld.2.2.2.2.2.2.1)
                       have HS7_ := (hb.cell (World.block_lt_of_cell? _ _ (hHeld.2.2.2.2.2.2.2.1))).trans (hHeld.2.2.2.2.2.2.2.1)
                       have HS8_ := (hb.cell (World.block_lt_of_cell? _ _ (hHeld.2.2.2.2.2.2.2.2))).trans (hHeld.2.2.2.2.2.2.2.2)
                       refine ⟨_, rfl, ?_⟩
                       replace HO_8 := aM (rB (rl HO_8) hb)
                       replace HO_10 := aM (rB (rl HO_10) hb)
                       replace BK584 := aM (kB (kl BK584) hb)
                       replace HB := aM (bS (bl) hb)
                       (try clear hb)
                       (try clear hb2)
                       (try clear hk)
                       (try clear hi)
                       refine hK.out _ _ ⟨(kC BK584.out 0).trans rfl, (kC BK584.out 1).trans rfl, (kC BK584.out 2).trans rfl, HS3_, HS4_, HS5_, HS6_, HS7_, HS8_⟩ (fun hHeld => ?_)
                       clear hK K
                       refine norm_ (a' := ?_) ?_ ?_
                       rotate_left
                       ·show Act.put _ (some 126) _ = _
                        simp only [Act.put, sA, sB, sC, i64_w, i32_w]
                        rfl
                       refine pure_ (i := 6) (N := some 127) (v := ?_) (a' := ?_) (ba 24 127) rfl rfl (any_of HT_.out (by kernel_rfl)) (fun _ _ _ h => h) (Or.inl ⟨by rfl, ?_⟩) ?_ ?_
                       rotate_left
                       ·intro w'
                        go_simp
                        with_reducible rfl
                       rotate_left
                       ·simp only [Act.put, sA, sB, sC, i64_w, i32_w]
                        rfl
                       refine pure_ (i := 7) (N := some 128) (v := ?_) (a' := ?_) (ba 24 255) rfl rfl (any_of HT_.out (by kernel_rfl)) (fun _ _ _ h => h) (Or.inl ⟨by rfl, ?_⟩) ?_ ?_
                       rotate_left
                       ·intro w'
                        go_simp
                        with_reducible rfl
                       rotate_left
                       ·simp only [Act.put, sA, sB, sC, i64_w, i32_w]
                        rfl
                       refine pure_ (i := 8) (N := some 129) (v := ?_) (a' := ?_) (ba 24 511) rfl rfl (any_of HT_.out (by kernel_rfl)) (fun _ _ _ h => h) (Or.inl ⟨by rfl, ?_⟩) ?_ ?_
                       rotate_left
                       ·intro w'
                        go_simp
                        with_reducible rfl
                       rotate_left
                       ·simp only [Act.put, sA, sB, sC, i64_w, i32_w]
                        rfl
                       refine pure_ (i := 9) (N := some 130) (v := ?_) (a' := ?_) (ba 24 1023) rfl rfl (any_of HT_.out (by kernel_rfl)) (fun _ _ _ h => h) (Or.inl ⟨by rfl, ?_⟩) ?_ ?_
                       rotate_left
                       ·intro w'
                        go_simp
                        with_reducible rfl
                       rotate_left
                       ·simp only [Act.put, sA, sB, sC, i64_w, i32_w]
                        rfl
                       refine pure_ (i := 10) (N := some 131) (v := ?_) (a' := ?_) (ba 24 2047) rfl rfl (any_of HT_.out (by kernel_rfl)) (fun _ _ _ h => h) (Or.inl ⟨by rfl, ?_⟩) ?_ ?_
                       rotate_left
                       ·intro w'
                        go_simp
                        with_reducible rfl
                       rotate_left
                       ·simp only [Act.put, sA, sB, sC, i64_w, i32_w]
                        rfl
                       refine pure_ (i := 11) (N := some 132) (v := ?_) (a' := ?_) (ba 24 4095) rfl rfl (any_of HT_.out (by kernel_rfl)) (fun _ _ _ h => h) (Or.inl ⟨by rfl, ?_⟩) ?_ ?_
                       rotate_left
                       ·intro w'
                        go_simp
                        with_reducible rfl
                       rotate_left
                       ·simp only [Act.put, sA, sB, sC, i64_w, i32_w]
                        rfl
                       refine pure_ (i := 12) (N := some 133) (v := ?_) (a' := ?_) (ba 24 8191) rfl rfl (any_of HT_.out (by kernel_rfl)) (fun _ _ _ h => h) (Or.inl ⟨by rfl, ?_⟩) ?_ ?_
                       rotate_left
                       ·intro w'
                        go_simp
                        with_reducible rfl
                       rotate_left
                       ·simp only [Act.put, sA, sB, sC, i64_w, i32_w]
                        rfl
                       refine pure_ (i := 13) (N := some 134) (v := ?_) (a' := ?_) (ba 24 16383) rfl rfl (any_of HT_.out (by kernel_rfl)) (fun _ _ _ h => h) (Or.inl ⟨by rfl, ?_⟩) ?_ ?_
                       rotate_left
                       ·intro w'
                        go_simp
                        with_reducible rfl
                       rotate_left
                       ·simp only [Act.put, sA, sB, sC, i64_w, i32_w]
                        rfl
                       refine pure_ (i := 14) (N := some 135) (v := ?_) (a' := ?_) (ba 24 32767) rfl rfl (any_of HT_.out (by kernel_rfl)) (fun _ _ _ h => h) (Or.inl ⟨by rfl, ?_⟩) ?_ ?_
                       rotate_left
                       ·intro w'
                        go_simp
                        with_reducible rfl
                       rotate_left
                       ·simp only [Act.put, sA, sB, sC, i64_w, i32_w]
                        rfl
                       refine pure_ (i := 16) (N := some 137) (v := ?_) (a' := ?_) (ba 24 98303) rfl rfl (any_of HT_.out (by kernel_rfl)) (fun _ _ _ h => h) (Or.inl ⟨by rfl, ?_⟩) ?_ ?_
                       rotate_left
                       ·intro w'
                        go_simp
                        with_reducible rfl
                       rotate_left
                       ·simp only [Act.put, sA, sB, sC, i64_w, i32_w]
                        rfl
                       refine pure_ (i := 17) (N := some 138) (v := ?_) (a' := ?_) (ba 24 229375) rfl rfl (any_of HT_.out (by kernel_rfl)) (fun _ _ _ h => h) (Or.inl ⟨by rfl, ?_⟩) ?_ ?_
                       rotate_left
                       ·intro w'
                        go_simp
                        with_reducible rfl
                       rotate_left
                       ·simp only [Act.put, sA, sB, sC, i64_w, i32_w]
                        rfl
                       refine pure_ (i := 18) (N := some 139) (v := ?_) (a' := ?_) (ba 24 491519) rfl rfl (any_of HT_.out (by kernel_rfl)) (fun _ _ _ h => h) (Or.inl ⟨by rfl, ?_⟩) ?_ ?_
                       rotate_left
                       ·intro w'
                        go_simp
                        with_reducible rfl
                       rotate_left
                       ·simp only [Act.put, sA, sB, sC, i64_w, i32_w]
                        rfl
                       refine take_ (i := 15) (N := some 136) (v := ?_) (a' := ?_) (ba 24 524287) rfl rfl (take_ofW HT_.out HW_.out (by kernel_rfl)) (fun _ _ _ h => h) (Or.inl ⟨by rfl, ?_⟩) hHeld ?_ ?_
                       rotate_left
                       ·rintro w' ⟨s0, s1, s2, s3, s4, s5, s6, s7, s8⟩
                        go_simp
                        with_reducible rfl
                       rotate_left
                       ·simp only [Act.put, sA, sB, sC, i64_w, i32_w]
                        rfl
                       refine take_ (i := 19) (N := some 140) (v := ?_) (a' := ?_) (ba 24 1048575) rfl rfl (take_ofW HT_.out HW_.out (by kernel_rfl)) (fun _ _ _ h => h) (Or.inl ⟨by rfl, ?_⟩) hHeld ?_ ?_
                       rotate_left
                       ·rintro w' ⟨s0, s1, s2, s3, s4, s5, s6, s7, s8⟩
                        go_simp
                        with_reducible rfl
                       rotate_left
                       ·simp only [Act.put, sA, sB, sC, i64_w, i32_w]
                        rfl
                       refine one_ (i := 20) (N := some 141) (ba 24 2097151) rfl rfl (one_of HT_.out (by kernel_rfl)) (by decide) (fun K hK => ?_)
                       refine goes_ Try.func35 (by kernel_rfl) rfl #[.agg #[.int .i64 ((rd_T34 t611 (ji71)).f0), .int .i64 ((rd_T34 t611 (ji71)).f1)], .agg #[.int .i64 ((rd_T34 t611 x11_5).f0), .int .i64 ((rd_T34 t611 x11_5).f1)]] (by rfl) rfl rfl (by (try simp only [List.map_toArray, List.map_cons, List.map_nil]); first | done | (simp only [hji71]; rfl) | rfl | (simp only [List.length_drop, List.length_take]; rfl)) ?_
                       with_reducible refine (mapmakerref14_Less.calls ((rd_T34 t611 (ji71)).f0) ((rd_T34 t611 (ji71)).f1) ((rd_T34 t611 x11_5).f0) ((rd_T34 t611 x11_5).f1) true _ A74.out).mono ?_
                       rintro e w79 ⟨rfl, hb⟩
                       have HS3_ := (hb.cell (World.block_lt_of_cell? _ _ (hHeld.2.2.2.1))).trans (hHeld.2.2.2.1)
                       have HS4_ := (hb.cell (World.block_lt_of_cell? _ _ (hHeld.2.2.2.2.1))).trans (hHeld.2.2.2.2.1)
                       have HS5_ := (hb.cell (World.block_lt_of_cell? _ _ (hHeld.2.2.2.2.2.1))).trans (hHeld.2.2.2.2.2.1)
                       have HS6_ := (hb.cell (World.block_lt_of_cell? _ _ (hHeld.2.2.2.2.2.2.1))).trans (hHeld.2.2.2.2.2.2.1)
                       have HS7_ := (hb.cell (World.block_lt_of_cell? _ _ (hHeld.2.2.2.2.2.2.2.1))).trans (hHeld.2.2.2.2.2.2.2.1)
                       have HS8_ := (hb.cell (World.block_lt_of_cell? _ _ (hHeld.2.2.2.2.2.2.2.2))).trans (hHeld.2.2.2.2.2.2.2.2)
                       refine ⟨_, rfl, ?_⟩
                       replace HO_8 := aM (rB (rl HO_8) hb)
                       replace HO_10 := aM (rB (rl HO_10) hb)
                       replace BK584 := aM (kB (kl BK584) hb)
                       replace HB := aM (bS (bl) hb)
                       (try clear hb)
                       (try clear hb2)
                       (try clear hk)
                       (try clear hi)
                       refine hK.out _ _ ⟨(kC BK584.out 0).trans rfl, (kC BK584.out 1).trans rfl, (kC BK584.out 2).trans rfl, HS3_, HS4_, HS5_, HS6_, HS7_, HS8_⟩ (fun hHeld => ?_)
                       clear hK K
                       refine norm_ (a' := ?_) ?_ ?_
                       rotate_left
                       ·show Act.put _ (some 141) _ = _
                        simp only [Act.put, sA, sB, sC, i64_w, i32_w]
                        rfl
                       refine pure_ (i := 21) (N := some 142) (v := ?_) (a' := ?_) (ba 24 4194303) rfl rfl (any_of HT_.out (by kernel_rfl)) (fun _ _ _ h => h) (Or.inl ⟨by rfl, ?_⟩) ?_ ?_
                       rotate_left
                       ·intro w'
                        go_simp
                        with_reducible rfl
                       rotate_left
                       ·simp only [Act.put, sA, sB, sC, i64_w, i32_w]
                        rfl
                       refine pure_ (i := 22) (N := some 143) (v := ?_) (a' := ?_) (ba 24 8388607) rfl rfl (any_of HT_.out (by kernel_rfl)) (fun _ _ _ h => h) (Or.inl ⟨by rfl, ?_⟩) ?_ ?_
                       rotate_left
                       ·intro w'
                        go_simp
                        with_reducible rfl
                       rotate_left
                       ·simp only [Act.put, sA, sB, sC, i64_w, i32_w]
                        rfl
                       refine pure_ (i := 23) (N := some 144) (v := ?_) (a' := ?_) (ba 24 16777215) rfl rfl (any_of HT_.out (by kernel_rfl)) (fun _ _ _ h => h) (Or.inl ⟨by rfl, ?_⟩) ?_ ?_
                       rotate_left
                       ·intro w'
                        go_simp
                        with_reducible rfl
                       rotate_left
                       ·simp only [Act.put, sA, sB, sC, i64_w, i32_w]
                        rfl
                       refine done_ (done_of HT_.out (by kernel_rfl)) ?_
                       try go_wp2
                       go_roundg k5
                       case measure => have := HJ1.out; have := HK2.out; have := HK3.out; have := HK4.out; have := HK5.out; omega
                       case rel => exact ⟨(wrap64 (x3_5 + 1)), (wrap64 (x11_5 + 1)), (by first | rfl | (simp; done) | (simp [*]; done)), (by first | rfl | (simp; done) | (simp [*]; done)), H', ⟨by have := HJ1.out; have := HK2.out; have := HK3.out; have := HK4.out; have := HK5.out; omega⟩, ⟨by (with_reducible repeat (first | apply rA | apply rN | apply rD)); exact HO_8.out⟩, ⟨by (with_reducible repeat (first | apply rA | apply rN | apply rD)); exact HO_10.out⟩, ⟨by (with_reducible repeat (first | refine kN ?_ _ | refine kD ?_ | refine kA ?_ _)); exact BK584.out⟩, ⟨bl⟩⟩
                      ·replace c75 := Bool.eq_false_iff.mpr c75
                       subst c75
                       have H1 : (some false) = some r := by rw [if_neg (show ¬ (false = true) by decide)] at H; exact H
                       clear H
                       have H := H1
                       clear H1
                       obtain rfl := Option.some.inj H
                       cases hT
                     ·rw [if_neg c73] at H
                      exact absurd H (by simp)
                    ·rw [if_neg c72] at H
                     exact absurd H (by simp)
                   ·rw [if_neg c70] at H
                    have c70b0 : decide (0 < x11_5) = false := decide_eq_false c70
                    clear c70
                    have H' := aM H
                    clear H
                    obtain ⟨Ao84, co84, eo84⟩ := Kd.R_slice HO_10.out
                    subst eo84
                    try go_wp2
                    replace HO_8 := aM (rD HO_8.out)
                    replace HO_10 := aM (rD HO_10.out)
                    replace BK584 := aM (kD BK584.out)
                    replace HB := aM (bD HB.out)
                    have p614 : 0 ≤ (x11_5 : Int) := oT
                    have q614 : x11_5 < (t611.length : Int) := oT
                    obtain ⟨ad614, e614, hx614_0, hx614_1⟩ := at_T34 (rR HO_10.out).2.2 x11_5 p614 q614
                    cases e614
                    replace p614 := eq_true p614
                    replace q614 := eq_true q614
                    refine start_ (n := 24) (S := fun w' => w'.cell? ⟨gb584, 0, none⟩ = some (.slice A0_0 l0_0.length c0_0) ∧ w'.cell? ⟨gb584, 1, none⟩ = some (.slice A0_1 l0_1.length c0_1) ∧ w'.cell? ⟨gb584, 2, none⟩ = some (.slice A0_2 l0_2.length c0_2) ∧ w'.cell? (ad614.add ((x11_5).toNat * 2)) = some (.int .i64 ((rd_T34 t611 x11_5).f0)) ∧ w'.cell? ⟨(ad614.add ((x11_5).toNat * 2)).block, (ad614.add ((x11_5).toNat * 2)).off + 1, none⟩ = some (.int .i64 ((rd_T34 t611 x11_5).f1))) (ds := []) #[false, false, false, false, false, false, false, false, false, false, false, false, false, false, false, false, false, false, false, false, false, false, false, false] (by kernel_rfl) rfl rfl ⟨(kC BK584.out 0).trans rfl, (kC BK584.out 1).trans rfl, (kC BK584.out 2).trans rfl, hx614_0, hx614_1⟩ (fun hHeld => ?_); refine with_tabW mapmakerlaw14_DataUsers.tab29 mapmakerlaw14_DataUsers.bits29 (fun HT_ HW_ => ?_)
                    generalize wr.drew = w85 at HO_8 HO_10 BK584 HB hx614_0 hx614_1 hHeld ⊢
                    refine pure_ (i := 1) (N := some 122) (v := ?_) (a' := ?_) (ba 24 2) rfl rfl (any_of HT_.out (by kernel_rfl)) (fun _ _ _ h => h) (Or.inl ⟨by rfl, ?_⟩) ?_ ?_
                    rotate_left
                    ·intro w'
                     go_simp
                     with_reducible rfl
                    rotate_left
                    ·simp only [Act.put, sA, sB, sC, i64_w, i32_w]
                     rfl
                    refine pure_ (i := 2) (N := some 123) (v := ?_) (a' := ?_) (ba 24 6) rfl rfl (any_of HT_.out (by kernel_rfl)) (fun _ _ _ h => h) (Or.inl ⟨by rfl, ?_⟩) ?_ ?_
                    rotate_left
                    ·intro w'
                     go_simp
                     with_reducible rfl
                    rotate_left
                    ·simp only [Act.put, sA, sB, sC, i64_w, i32_w]
                     rfl
                    refine pure_ (i := 3) (N := some 124) (v := ?_) (a' := ?_) (ba 24 14) rfl rfl (any_of HT_.out (by kernel_rfl)) (fun _ _ _ h => h) (Or.inl ⟨by rfl, ?_⟩) ?_ ?_
                    rotate_left
                    ·intro w'
                     go_simp
                     with_reducible rfl
                    rotate_left
                    ·simp only [Act.put, sA, sB, sC, i64_w, i32_w]
                     rfl
                    refine take_ (i := 0) (N := some 121) (v := ?_) (a' := ?_) (ba 24 15) rfl rfl (take_ofW HT_.out HW_.out (by kernel_rfl)) (fun _ _ _ h => h) (Or.inl ⟨by rfl, ?_⟩) hHeld ?_ ?_
                    rotate_left
                    ·rintro w' ⟨s0, s1, s2, s3, s4⟩
                     go_simp
                     with_reducible rfl
                    rotate_left
                    ·simp only [Act.put, sA, sB, sC, i64_w, i32_w]
                     rfl
                    refine take_ (i := 4) (N := some 125) (v := ?_) (a' := ?_) (ba 24 31) rfl rfl (take_ofW HT_.out HW_.out (by kernel_rfl)) (fun _ _ _ h => h) (Or.inl ⟨by rfl, ?_⟩) hHeld ?_ ?_
                    rotate_left
                    ·rintro w' ⟨s0, s1, s2, s3, s4⟩
                     go_simp
                     with_reducible rfl
                    rotate_left
                    ·simp only [Act.put, sA, sB, sC, i64_w, i32_w]
                     rfl
                    refine one_ (i := 5) (N := some 126) (ba 24 63) rfl rfl (one_of HT_.out (by kernel_rfl)) (by decide) (fun K hK => ?_)
                    refine goes_ Try.func21 (by kernel_rfl) rfl #[.agg #[.slice A0_0 l0_0.length c0_0, .slice A0_1 l0_1.length c0_1, .slice A0_2 l0_2.length c0_2], .agg #[.int .i64 ((rd_T34 t611 x11_5).f0), .int .i64 ((rd_T34 t611 x11_5).f1)]] (by rfl) rfl rfl (by (try simp only [List.map_toArray, List.map_cons, List.map_nil]); first | done | rfl | (simp only [List.length_drop, List.length_take]; rfl)) ?_
                    with_reducible refine (data_Has.calls k5 _ _ l0_0 _ _ l0_1 _ _ l0_2 ((rd_T34 t611 x11_5).f0) ((rd_T34 t611 x11_5).f1) true _ ?side1 ?side2 ?side3 ?side4 ?side5 ?side6 A68.out).mono ?_
                    (case side1 => exact cl HR0_0)
                    (case side2 => exact HC0_0.out)
                    (case side3 => exact cl HR0_1)
                    (case side4 => exact HC0_1.out)
                    (case side5 => exact cl HR0_2)
                    (case side6 => exact HC0_2.out)
                    rintro e w86 ⟨rfl, hb⟩
                    have HS3_ := (hb.cell (World.block_lt_of_cell? _ _ (hHeld.2.2.2.1))).trans (hHeld.2.2.2.1)
                    have HS4_ := (hb.cell (World.block_lt_of_cell? _ _ (hHeld.2.2.2.2))).trans (hHeld.2.2.2.2)
                    refine ⟨_, rfl, ?_⟩
                    replace HO_8 := aM (rB (rl HO_8) hb)
                    replace HO_10 := aM (rB (rl HO_10) hb)
                    replace BK584 := aM (kB (kl BK584) hb)
                    replace HB := aM (bS (bl) hb)
                    (try clear hb)
                    (try clear hb2)
                    (try clear hk)
                    (try clear hi)
                    refine hK.out _ _ ⟨(kC BK584.out 0).trans rfl, (kC BK584.out 1).trans rfl, (kC BK584.out 2).trans rfl, HS3_, HS4_⟩ (fun hHeld => ?_)
                    clear hK K
                    refine norm_ (a' := ?_) ?_ ?_
                    rotate_left
                    ·show Act.put _ (some 126) _ = _
                     simp only [Act.put, sA, sB, sC, i64_w, i32_w]
                     rfl
                    refine pure_ (i := 6) (N := some 127) (v := ?_) (a' := ?_) (ba 24 127) rfl rfl (any_of HT_.out (by kernel_rfl)) (fun _ _ _ h => h) (Or.inl ⟨by rfl, ?_⟩) ?_ ?_
                    rotate_left
                    ·intro w'
                     go_simp
                     with_reducible rfl
                    rotate_left
                    ·simp only [Act.put, sA, sB, sC, i64_w, i32_w]
                     rfl
                    refine pure_ (i := 7) (N := some 128) (v := ?_) (a' := ?_) (ba 24 255) rfl rfl (any_of HT_.out (by kernel_rfl)) (fun _ _ _ h => h) (Or.inl ⟨by rfl, ?_⟩) ?_ ?_
                    rotate_left
                    ·intro w'
                     go_simp
                     with_reducible rfl
                    rotate_left
                    ·simp only [Act.put, sA, sB, sC, i64_w, i32_w]
                     rfl
                    refine pure_ (i := 8) (N := some 129) (v := ?_) (a' := ?_) (ba 24 511) rfl rfl (any_of HT_.out (by kernel_rfl)) (fun _ _ _ h => h) (Or.inl ⟨by rfl, ?_⟩) ?_ ?_
                    rotate_left
                    ·intro w'
                     go_simp
                     with_reducible rfl
                    rotate_left
                    ·simp only [Act.put, sA, sB, sC, i64_w, i32_w]
                     rfl
                    refine pure_ (i := 9) (N := some 130) (v := ?_) (a' := ?_) (ba 24 1023) rfl rfl (any_of HT_.out (by kernel_rfl)) (fun _ _ _ h => h) (Or.inl ⟨by rfl, ?_⟩) ?_ ?_
                    rotate_left
                    ·intro w'
                     go_simp
                     with_reducible rfl
                    rotate_left
                    ·simp only [Act.put, sA, sB, sC, i64_w, i32_w]
                     rfl
                    refine pure_ (i := 10) (N := some 131) (v := ?_) (a' := ?_) (ba 24 2047) rfl rfl (any_of HT_.out (by kernel_rfl)) (fun _ _ _ h => h) (Or.inl ⟨by rfl, ?_⟩) ?_ ?_
                    rotate_left
                    ·intro w'
                     go_simp
                     with_reducible rfl
                    rotate_left
                    ·simp only [Act.put, sA, sB, sC, i64_w, i32_w]
                     rfl
                    refine pure_ (i := 11) (N := some 132) (v := undef) (a' := ?_) (ba 24 4095) rfl rfl (any_of HT_.out (by kernel_rfl)) (fun _ _ _ h => h) (Or.inr ⟨by rfl, rfl⟩) ?_ ?_
                    rotate_left
                    ·simp only [Act.put, sA, sB, sC, i64_w, i32_w]
                     rfl
                    refine pure_ (i := 12) (N := some 133) (v := undef) (a' := ?_) (ba 24 8191) rfl rfl (any_of HT_.out (by kernel_rfl)) (fun _ _ _ h => h) (Or.inr ⟨by rfl, rfl⟩) ?_ ?_
                    rotate_left
                    ·simp only [Act.put, sA, sB, sC, i64_w, i32_w]
                     rfl
                    refine pure_ (i := 13) (N := some 134) (v := undef) (a' := ?_) (ba 24 16383) rfl rfl (any_of HT_.out (by kernel_rfl)) (fun _ _ _ h => h) (Or.inr ⟨by rfl, rfl⟩) ?_ ?_
                    rotate_left
                    ·simp only [Act.put, sA, sB, sC, i64_w, i32_w]
                     rfl
                    refine pure_ (i := 14) (N := some 135) (v := undef) (a' := ?_) (ba 24 32767) rfl rfl (any_of HT_.out (by kernel_rfl)) (fun _ _ _ h => h) (Or.inr ⟨by rfl, rfl⟩) ?_ ?_
                    rotate_left
                    ·simp only [Act.put, sA, sB, sC, i64_w, i32_w]
                     rfl
                    refine pure_ (i := 15) (N := some 136) (v := undef) (a' := ?_) (ba 24 65535) rfl rfl (any_of HT_.out (by kernel_rfl)) (fun _ _ _ h => h) (Or.inr ⟨by rfl, rfl⟩) ?_ ?_
                    rotate_left
                    ·simp only [Act.put, sA, sB, sC, i64_w, i32_w]
                     rfl
                    refine pure_ (i := 16) (N := some 137) (v := undef) (a' := ?_) (ba 24 131071) rfl rfl (any_of HT_.out (by kernel_rfl)) (fun _ _ _ h => h) (Or.inr ⟨by rfl, rfl⟩) ?_ ?_
                    rotate_left
                    ·simp only [Act.put, sA, sB, sC, i64_w, i32_w]
                     rfl
                    refine pure_ (i := 17) (N := some 138) (v := undef) (a' := ?_) (ba 24 262143) rfl rfl (any_of HT_.out (by kernel_rfl)) (fun _ _ _ h => h) (Or.inr ⟨by rfl, rfl⟩) ?_ ?_
                    rotate_left
                    ·simp only [Act.put, sA, sB, sC, i64_w, i32_w]
                     rfl
                    refine pure_ (i := 18) (N := some 139) (v := undef) (a' := ?_) (ba 24 524287) rfl rfl (any_of HT_.out (by kernel_rfl)) (fun _ _ _ h => h) (Or.inr ⟨by rfl, rfl⟩) ?_ ?_
                    rotate_left
                    ·simp only [Act.put, sA, sB, sC, i64_w, i32_w]
                     rfl
                    refine pure_ (i := 19) (N := some 140) (v := undef) (a' := ?_) (ba 24 1048575) rfl rfl (any_of HT_.out (by kernel_rfl)) (fun _ _ _ h => h) (Or.inr ⟨by rfl, rfl⟩) ?_ ?_
                    rotate_left
                    ·simp only [Act.put, sA, sB, sC, i64_w, i32_w]
                     rfl
                    refine pure_ (i := 20) (N := some 141) (v := undef) (a' := ?_) (ba 24 2097151) rfl rfl (any_of HT_.out (by kernel_rfl)) (fun _ _ _ h => h) (Or.inr ⟨by rfl, rfl⟩) ?_ ?_
                    rotate_left
                    ·simp only [Act.put, sA, sB, sC, i64_w, i32_w]
                     rfl
                    refine pure_ (i := 21) (N := some 142) (v := undef) (a' := ?_) (ba 24 4194303) rfl rfl (any_of HT_.out (by kernel_rfl)) (fun _ _ _ h => h) (Or.inr ⟨by rfl, rfl⟩) ?_ ?_
                    rotate_left
                    ·simp only [Act.put, sA, sB, sC, i64_w, i32_w]
                     rfl
                    refine pure_ (i := 22) (N := some 143) (v := ?_) (a' := ?_) (ba 24 8388607) rfl rfl (any_of HT_.out (by kernel_rfl)) (fun _ _ _ h => h) (Or.inl ⟨by rfl, ?_⟩) ?_ ?_
                    rotate_left
                    ·intro w'
                     go_simp
                     with_reducible rfl
                    rotate_left
                    ·simp only [Act.put, sA, sB, sC, i64_w, i32_w]
                     rfl
                    refine pure_ (i := 23) (N := some 144) (v := ?_) (a' := ?_) (ba 24 16777215) rfl rfl (any_of HT_.out (by kernel_rfl)) (fun _ _ _ h => h) (Or.inl ⟨by rfl, ?_⟩) ?_ ?_
                    rotate_left
                    ·intro w'
                     go_simp
                     with_reducible rfl
                    rotate_left
                    ·simp only [Act.put, sA, sB, sC, i64_w, i32_w]
                     rfl
                    refine done_ (done_of HT_.out (by kernel_rfl)) ?_
                    try go_wp2
                    go_roundg k5
                    case measure => have := HJ1.out; have := HK2.out; have := HK3.out; have := HK4.out; have := HK5.out; omega
                    case rel => exact ⟨(wrap64 (x3_5 + 1)), (wrap64 (x11_5 + 1)), (by first | rfl | (simp; done) | (simp [*]; done)), (by first | rfl | (simp; done) | (simp [*]; done)), H', ⟨by have := HJ1.out; have := HK2.out; have := HK3.out; have := HK4.out; have := HK5.out; omega⟩, ⟨by (with_reducible repeat (first | apply rA | apply rN | apply rD)); exact HO_8.out⟩, ⟨by (with_reducible repeat (first | apply rA | apply rN | apply rD)); exact HO_10.out⟩, ⟨by (with_reducible repeat (first | refine kN ?_ _ | refine kD ?_ | refine kA ?_ _)); exact BK584.out⟩, ⟨bl⟩⟩
                  ·replace c69 := Bool.eq_false_iff.mpr c69
                   subst c69
                   have H1 : (some false) = some r := by rw [if_neg (show ¬ (false = true) by decide)] at H; exact H
                   clear H
                   have H := H1
                   clear H1
                   obtain rfl := Option.some.inj H
                   cases hT
                 ·rw [if_neg c67] at H
                  exact absurd H (by simp)
                ·rw [if_neg c66] at H
                 have c66b0 : decide (x11_5 < (t611.length : Int)) = false := decide_eq_false c66
                 clear c66
                 have H' := aM H
                 clear H
                 obtain ⟨Ao90, co90, eo90⟩ := Kd.R_slice HO_10.out
                 subst eo90
                 go_wp2
                 go_roundg k5
                 case measure => have := HJ1.out; have := HK2.out; have := HK3.out; have := HK4.out; have := HK5.out; omega
                 case rel => exact ⟨(x3_5), (wrap64 (x9_4 + 1)), (by first | rfl | (simp; done) | (simp [*]; done)), (by first | rfl | (simp; done) | (simp [*]; done)), H', ⟨by have := HJ1.out; have := HK2.out; have := HK3.out; have := HK4.out; have := HK5.out; omega⟩, ⟨by (with_reducible repeat (first | apply rA | apply rN | apply rD)); exact rM HO_8.out (fun _ hk => trivial)⟩, ⟨by (with_reducible repeat (first | refine kN ?_ _ | refine kD ?_ | refine kA ?_ _)); exact BK584.out⟩, ⟨bl⟩⟩
             ·rw [if_neg c61] at H
              exact absurd H (by simp)
            ·rw [if_neg c60] at H
             have c60b0 : decide (x9_4 < (t604.length : Int)) = false := decide_eq_false c60
             clear c60
             by_cases c91 : (l0_1.length : Int) > 0
             ·rw [if_pos c91] at H
              have c91b0 : decide (0 < (l0_1.length : Int)) = true := decide_eq_true c91
              have c91b1 : decide (0 < l0_1.length) = true := decide_eq_true (by omega)
              clear c91
              by_cases c92 : ((decide (x3_4 > 0)) == true) = true
              ·rw [if_pos c92] at H
               have c92b0 : ((decide (x3_4 > 0)) == true) = true := c92
               (try (have c92b1 : decide ((decide (x3_4 > 0)) = true) = true := by simpa using c92))
               (try (have c92b2 : ((decide (x3_4 > 0)) == true) = true := by simpa using c92))
               clear c92
               replace H := Option.bind_eq_some_iff.mp H
               obtain ⟨t607, A930, H⟩ := H
               try dsimp only at H
               have A93 := aM A930
               clear A930
               obtain rfl := Option.some.inj H
               obtain ⟨Ao94, co94, eo94⟩ := Kd.R_slice HO_8.out
               subst eo94
               obtain ⟨hcz95_0, hcz95_1, hcz95_2, hfz95_0, hfz95_1, hfz95_2⟩ := bc3 BK584
               go_wp2_with (first | (go_at_call 9; (with_reducible refine (mapmakerlaw14_lives.calls k4  t607 _ A93.out).mono ?_); rintro e w96 ⟨rfl, hb⟩; replace HB := aM (bS (bl) hb); clear HO_8 BK584; (try clear hb)))
               go_ret
               exact ⟨by first | rfl | (simp [errW_none, errW_some] <;> rfl) | (simp [*, errW_none, errW_some] <;> rfl), bl⟩
              ·rw [if_neg c92] at H
               have c92b0 : ((decide (x3_4 > 0)) == true) = false := by simpa using c92
               (try (have c92b1 : decide ((decide (x3_4 > 0)) = true) = false := by simpa using c92))
               (try (have c92b2 : ((decide (x3_4 > 0)) == true) = false := by simpa using c92))
               (try (have c92b3 : ¬ ((decide (x3_4 > 0)) = true) := by simpa using c92))
               clear c92
               obtain rfl := Option.some.inj H
               cases hT
             ·rw [if_neg c91] at H
              have c91b0 : decide (0 < (l0_1.length : Int)) = false := decide_eq_false c91
              have c91b1 : decide (0 < l0_1.length) = false := decide_eq_false (by omega)
              clear c91
              replace H := Option.bind_eq_some_iff.mp H
              obtain ⟨t608, A990, H⟩ := H
              try dsimp only at H
              have A99 := aM A990
              clear A990
              by_cases c100 : ((decide (x3_4 > 0)) == (decide (t608 > 0))) = true
              ·rw [if_pos c100] at H
               have c100b0 : ((decide (x3_4 > 0)) == (decide (t608 > 0))) = true := c100
               (try (have c100b1 : decide ((decide (x3_4 > 0)) = (decide (t608 > 0))) = true := by simpa using c100))
               (try (have c100b2 : ((decide (x3_4 > 0)) == (decide (t608 > 0))) = true := by simpa using c100))
               clear c100
               replace H := Option.bind_eq_some_iff.mp H
               obtain ⟨t609, A1010, H⟩ := H
               try dsimp only at H
               have A101 := aM A1010
               clear A1010
               obtain rfl := Option.some.inj H
               obtain ⟨Ao102, co102, eo102⟩ := Kd.R_slice HO_8.out
               subst eo102
               obtain ⟨hcz103_0, hcz103_1, hcz103_2, hfz103_0, hfz103_1, hfz103_2⟩ := bc3 BK584
               go_wp2_with (first | (go_at_call 36; (with_reducible refine (mapmakerlaw14_members.calls k4 _ _ l0_0 _ _ l0_1 _ _ l0_2 t608 _ ?side1 ?side2 ?side3 ?side4 ?side5 ?side6 A99.out).mono ?_); (case side1 => exact cl HR0_0); (case side2 => exact HC0_0.out); (case side3 => exact cl HR0_1); (case side4 => exact HC0_1.out); (case side5 => exact cl HR0_2); (case side6 => exact HC0_2.out); rintro e w104 ⟨rfl, hb⟩; have n2_ := aM (bS (bl) hb); (try clear HO_8); (try clear BK584); (try clear HB); have HB := n2_; clear n2_; (try clear hb)) | (go_at_call 9; (with_reducible refine (mapmakerlaw14_lives.calls k4  t609 _ A101.out).mono ?_); rintro e w105 ⟨rfl, hb⟩; have n2_ := aM (bS (bl) hb); (try clear HB); have HB := n2_; clear n2_; (try clear hb)))
               go_ret
               exact ⟨by first | rfl | (simp [errW_none, errW_some] <;> rfl) | (simp [*, errW_none, errW_some] <;> rfl), bl⟩
              ·rw [if_neg c100] at H
               have c100b0 : ((decide (x3_4 > 0)) == (decide (t608 > 0))) = false := by simpa using c100
               (try (have c100b1 : decide ((decide (x3_4 > 0)) = (decide (t608 > 0))) = false := by simpa using c100))
               (try (have c100b2 : ((decide (x3_4 > 0)) == (decide (t608 > 0))) = false := by simpa using c100))
               (try (have c100b3 : ¬ ((decide (x3_4 > 0)) = (decide (t608 > 0))) := by simpa using c100))
               clear c100
               obtain rfl := Option.some.inj H
               cases hT
theorem mapmakerlaw14_DataUsers.opens_0 : Opens Try.prog 26 k26 (fun x => wf26 x) := opens26
def mapmakerlaw14_DataUsers.Pure : Prop := ∀ (x0 : S26), wf26 x0 → ∃ k, mapmakerlaw14_DataUsers.f k x0.f0 x0.f1 x0.f2 = some true
theorem mapmakerlaw14_DataUsers.walk (P : mapmakerlaw14_DataUsers.Pure) (w : World) (x0 : S26) (cs0 : Array Value) (hK0 : k26.K w x0 cs0.toList) (w0 : wf26 x0) :
  Calls Try.prog 7 #[.agg cs0] w fun e w' => e = .returned (.bool true) ∧ Below w.heap.size w w' := by
 obtain ⟨k, h⟩ := P x0 w0
 obtain ⟨A0_0, c0_0, A0_1, c0_1, A0_2, c0_2, hcs0, hc0_0, hr0_0, hc0_1, hr0_1, hc0_2, hr0_2⟩ := k26_open hK0
 obtain rfl : cs0 = #[.slice A0_0 x0.f0.length c0_0, .slice A0_1 x0.f1.length c0_1, .slice A0_2 x0.f2.length c0_2] := Array.ext' (by rw [hcs0])
 refine (mapmakerlaw14_DataUsers.callsT k A0_0 c0_0 x0.f0 A0_1 c0_1 x0.f1 A0_2 c0_2 x0.f2 true w hr0_0 hc0_0 hr0_1 hc0_1 hr0_2 hc0_2 h rfl).mono ?_
 rintro e w' ⟨rfl, hd⟩
 exact ⟨rfl, hd⟩
end Go.Proofs.Ytgenbepicnbecaa.PAll
