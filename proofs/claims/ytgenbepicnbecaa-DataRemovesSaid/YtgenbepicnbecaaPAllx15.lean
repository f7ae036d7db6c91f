-- out of a driver of this session's prover over the kit's print: Lean checks it
import Derived.Test.YtgenbepicnbecaaPAllx0
import Derived.Test.YtgenbepicnbecaaPAllx1
import Derived.Test.YtgenbepicnbecaaPAllx9
import Derived.Test.YtgenbepicnbecaaPAllx10
import Derived.Test.YtgenbepicnbecaaPAllx12
import Derived.Test.YtgenbepicnbecaaPAllx13
import Derived.Test.YtgenbepicnbecaaPAllx14
namespace Go.Proofs.Ytgenbepicnbecaa.PAll
open Go.Proofs.YtgenbepicnbecaaG Go.Shelf Go.Lib
open Go.RowKit Go.Proofs.YtgenbepicnbecaaW.PrintWords Go.Proofs.YtgenbepicnbecaaW.PrintLast Go.Proofs.YtgenbepicnbecaaW.PrintMore
attribute [local go_sem] max2_int min2_int max_two min_two max_three min_three max_four min_four   -- for this text's walks alone
set_option linter.unusedVariables false
set_option linter.unusedSimpArgs false
attribute [local go_sem high] eqA34
def mapmakerlaw14_livesG.j0 : Nat → List (S34) → List (S70) → Bool → List (S39) → List (S45) → List (S39) → List (S45) → Option (Bool)
 | 0, _, _, _, _, _, _, _ => none
 | k + 1, x5, x6, x55, x250000, x250001, x251000, x251001 => if x55 = true then (some false) else ((data_Check.f k x250000 x250001 ([] : List (S51))).bind fun t275 => (if t275 = 9 then ((data_Check.f k x251000 x251001 ([] : List (S51))).bind fun t276 => (if t276 = 0 then (if 0 < (x5.length : Int) then (if (((rd_T34 x5 0).f0) == 2 && (((rd_T34 x5 0).f1) == 1)) = true then (if 0 < (x6.length : Int) then (if ((rd_T70 x6 0).f1).toList = ([98] : List UInt8) then ((data_Has.f k x251000 x251001 ([] : List (S51)) ((rd_T34 x5 0).f0) ((rd_T34 x5 0).f1)).bind fun t280 => (if t280 = true then ((data_Has.f k x251000 x251001 ([] : List (S51)) 3 1).bind fun t281 => (if t281 = true then (some false) else ((data_Same.f k x251000 x251001 ([] : List (S51)) x251000 x251001 ([] : List (S51))).bind fun t282 => (if t282 = true then ((data_Same.f k x250000 x250001 ([] : List (S51)) x251000 x251001 ([] : List (S51))).bind fun t283 => (some (!t283))) else (some false))))) else (some false))) else (some false)) else (none)) else (some false)) else (none)) else (some false))) else (some false)))
def mapmakerlaw14_livesG.f (k : Nat)  : Option (Bool) := (some (([(⟨1, (⟨0, 0⟩ : S36), (([(⟨(⟨#[97]⟩ : ByteArray), (⟨#[98]⟩ : ByteArray)⟩ : S70)] : List (S70)))⟩ : S39), (⟨3, (⟨0, 0⟩ : S36), ([] : List (S70))⟩ : S39)] : List (S39)) : List (S39))).bind fun y240 => ((some (([(⟨1, (([1, 2] : List Int)), ([] : List (S70))⟩ : S45)] : List (S45)) : List (S45))).bind fun y246 => ((some (([(⟨1, (([1, 3, 1] : List Int)), ([] : List (S70))⟩ : S45)] : List (S45)) : List (S45))).bind fun y254 => ((data_Way.f y240 y254 ([] : List (S51)) 1).bind fun bt257 => ((data_Users.f k y240 y254 ([] : List (S51)) 1 1).bind fun t266 => ((data_Tags.f y240 y254 ([] : List (S51)) 1 1).bind fun t269 => (if (bt257.2.1.length : Int) = 3 then (if bt257.2.2.2 = true then (if (t266.length : Int) = 1 then (if (t269.length : Int) = 1 then ((data_Refs.f k y240 y254 ([] : List (S51))).bind fun t272 => (mapmakerlaw14_livesG.j0 k t266 t269 ((t272.length : Int) != 3) y240 y246 y240 y254)) else (mapmakerlaw14_livesG.j0 k t266 t269 true y240 y246 y240 y254)) else (mapmakerlaw14_livesG.j0 k t266 t269 true y240 y246 y240 y254)) else (mapmakerlaw14_livesG.j0 k t266 t269 true y240 y246 y240 y254)) else (mapmakerlaw14_livesG.j0 k t266 t269 true y240 y246 y240 y254)))))))
theorem mapmakerlaw14_livesG.mono_l : ∀ k, (∀ y0 y1 y2 y3 y4 y5 y6, LeO (mapmakerlaw14_livesG.j0 k y0 y1 y2 y3 y4 y5 y6) (mapmakerlaw14_livesG.j0 (k + 1) y0 y1 y2 y3 y4 y5 y6))
 | 0 => fun _ _ _ _ _ _ _ r h => by simp [mapmakerlaw14_livesG.j0] at h
 | k + 1 => by
  have ih0 := mapmakerlaw14_livesG.mono_l k
  ·intro y0 y1 y2 y3 y4 y5 y6
   unfold mapmakerlaw14_livesG.j0
   repeat' first
   | (with_reducible exact ih0 _ _ _ _ _ _ _)
   | (with_reducible exact data_Check.mono _ _ _ _)
   | (with_reducible exact data_Has.mono _ _ _ _ _ _)
   | (with_reducible exact data_Refs.mono _ _ _ _)
   | (with_reducible exact data_Same.mono _ _ _ _ _ _ _)
   | (with_reducible exact data_Users.mono _ _ _ _ _ _)
   | (with_reducible exact LeO.refl _)
   | (with_reducible exact LeO.none _)
   | (with_reducible refine LeO.ite ?_ ?_)
   | (with_reducible refine LeO.bind ?_ (fun _ => ?_))
   | exact ih0 _ _ _ _ _ _ _
   | exact data_Check.mono _ _ _ _
   | exact data_Has.mono _ _ _ _ _ _
   | exact data_Refs.mono _ _ _ _
   | exact data_Same.mono _ _ _ _ _ _ _
   | exact data_Users.mono _ _ _ _ _ _
   | exact LeO.none _
   | refine LeO.ite ?_ ?_
   | refine LeO.bind ?_ (fun _ => ?_)
theorem mapmakerlaw14_livesG.mono : ∀ k, LeO (mapmakerlaw14_livesG.f k ) (mapmakerlaw14_livesG.f (k + 1) ) := by
 intro  k
 have ih0 := mapmakerlaw14_livesG.mono_l k
 unfold mapmakerlaw14_livesG.f
 repeat' first
   | (with_reducible exact ih0 _ _ _ _ _ _ _)
   | (with_reducible exact data_Check.mono _ _ _ _)
   | (with_reducible exact data_Has.mono _ _ _ _ _ _)
   | (with_reducible exact data_Refs.mono _ _ _ _)
   | (with_reducible exact data_Same.mono _ _ _ _ _ _ _)
   | (with_reducible exact data_Users.mono _ _ _ _ _ _)
   | (with_reducible exact LeO.refl _)
   | (with_reducible exact LeO.none _)
   | (with_reducible refine LeO.ite ?_ ?_)
   | (with_reducible refine LeO.bind ?_ (fun _ => ?_))
   | exact ih0 _ _ _ _ _ _ _
   | exact data_Check.mono _ _ _ _
   | exact data_Has.mono _ _ _ _ _ _
   | exact data_Refs.mono _ _ _ _
   | exact data_Same.mono _ _ _ _ _ _ _
   | exact data_Users.mono _ _ _ _ _ _
   | exact LeO.none _
   | refine LeO.ite ?_ ?_
   | refine LeO.bind ?_ (fun _ => ?_)
def mapmakerlaw14_livesG.T9 : Bool × List (List Nat × List Nat) := (true, [([], []), ([0], [0]), ([1], [1]), ([2, 1], [2]), ([3], [3]), ([4, 3, 3], [3, 4]), ([5, 3], [3, 5]), ([3, 6], [3, 6]), ([7, 5], [7]), ([8], [8]), ([9, 8], [8, 9]), ([10, 8], [8, 10]), ([8], [8]), ([11, 12, 8], [8, 11, 12]), ([8, 13], [8, 13]), ([14, 8], [14]), ([15], [15]), ([16, 15], [15, 16]), ([17, 15], [15, 17]), ([18, 15], [15, 18]), ([19, 15], [15, 19]), ([15, 20], [15, 20]), ([21, 15], [21]), ([22], [22]), ([22], [22]), ([24, 22], [22, 24]), ([25, 22], [22, 25]), ([23, 26, 22, 22], [22, 23, 26]), ([22, 27], [22, 27]), ([28, 27], [28]), ([29], [29]), ([29], [29]), ([30, 31, 29, 29], [29, 30, 31]), ([32, 29], [29, 32]), ([29, 33], [29, 33]), ([34, 32], [34]), ([35], [35]), ([35], [35]), ([36, 37, 35, 35], [35, 36, 37]), ([35, 38], [35, 38]), ([39, 38], [39]), ([40], [40]), ([40], [40]), ([41, 42, 40, 40], [40, 41, 42]), ([43, 40], [40, 43]), ([40, 44], [40, 44]), ([45, 43, 0, 1, 2, 3, 4, 5, 6, 7, 8, 9, 10, 11, 12, 13, 14, 15, 16, 17, 18, 19, 20, 21, 22, 23, 24, 25, 26, 27, 28, 29, 30, 31, 32, 33, 34, 35, 36, 37, 38, 39, 40, 41, 42, 43, 44, 45], [45])])
def mapmakerlaw14_livesG.B9 : List Nat := [0, 1, 3, 7, 15, 31, 63, 127, 255, 511, 1023, 2047, 511, 8191, 16383, 32767, 65535, 131071, 262143, 524287, 1048575, 2097151, 4194303, 8388607, 8388607, 25165823, 58720255, 134217727, 268435455, 536870911, 1073741823, 1073741823, 4294967295, 8589934591, 17179869183, 34359738367, 68719476735, 68719476735, 274877906943, 549755813887, 1099511627775, 2199023255551, 2199023255551, 8796093022207, 17592186044415, 35184372088831, 70368744177663]
theorem mapmakerlaw14_livesG.tab9 : rtab .any (opsOf Try.f9 9) = mapmakerlaw14_livesG.T9 := by kernel_rfl
theorem mapmakerlaw14_livesG.bits9 : waitsOk mapmakerlaw14_livesG.T9.2 mapmakerlaw14_livesG.B9 = true := by kernel_rfl
set_option maxHeartbeats 8000000 in
set_option maxRecDepth 100000 in
theorem mapmakerlaw14_livesG.callsT (k : Nat)  (r : Bool) (w : World) (h : mapmakerlaw14_livesG.f k  = some r) (hT : r = true) :
  Calls Try.prog 9 #[] w fun e w' => e = .returned (.bool r) ∧ Below w.heap.size w w' := by
 have hu70 := Try.underlying70
 have hu39 := Try.underlying39
 have hu45 := Try.underlying45
 have hu26 := Try.underlying26
 have hu34 := Try.underlying34
 have HB := aM (Below.refl w.heap.size w)
 have H : ((some (([(⟨1, (⟨0, 0⟩ : S36), (([(⟨(⟨#[97]⟩ : ByteArray), (⟨#[98]⟩ : ByteArray)⟩ : S70)] : List (S70)))⟩ : S39), (⟨3, (⟨0, 0⟩ : S36), ([] : List (S70))⟩ : S39)] : List (S39)) : List (S39))).bind fun y240 => ((some (([(⟨1, (([1, 2] : List Int)), ([] : List (S70))⟩ : S45)] : List (S45)) : List (S45))).bind fun y246 => ((some (([(⟨1, (([1, 3, 1] : List Int)), ([] : List (S70))⟩ : S45)] : List (S45)) : List (S45))).bind fun y254 => ((data_Way.f y240 y254 ([] : List (S51)) 1).bind fun bt257 => ((data_Users.f k y240 y254 ([] : List (S51)) 1 1).bind fun t266 => ((data_Tags.f y240 y254 ([] : List (S51)) 1 1).bind fun t269 => (if (bt257.2.1.length : Int) = 3 then (if bt257.2.2.2 = true then (if (t266.length : Int) = 1 then (if (t269.length : Int) = 1 then ((data_Refs.f k y240 y254 ([] : List (S51))).bind fun t272 => (mapmakerlaw14_livesG.j0 k t266 t269 ((t272.length : Int) != 3) y240 y246 y240 y254)) else (mapmakerlaw14_livesG.j0 k t266 t269 true y240 y246 y240 y254)) else (mapmakerlaw14_livesG.j0 k t266 t269 true y240 y246 y240 y254)) else (mapmakerlaw14_livesG.j0 k t266 t269 true y240 y246 y240 y254)) else (mapmakerlaw14_livesG.j0 k t266 t269 true y240 y246 y240 y254)))))))) = some r := h
 clear h
 obtain ⟨y237, hy237⟩ : ∃ y_ : List (S70), y_ = (([(⟨(⟨#[97]⟩ : ByteArray), (⟨#[98]⟩ : ByteArray)⟩ : S70)] : List (S70))) := ⟨_, rfl⟩
 replace H : ((some (([(⟨1, (⟨0, 0⟩ : S36), y237⟩ : S39), (⟨3, (⟨0, 0⟩ : S36), ([] : List (S70))⟩ : S39)] : List (S39)) : List (S39))).bind fun y240 => ((some (([(⟨1, (([1, 2] : List Int)), ([] : List (S70))⟩ : S45)] : List (S45)) : List (S45))).bind fun y246 => ((some (([(⟨1, (([1, 3, 1] : List Int)), ([] : List (S70))⟩ : S45)] : List (S45)) : List (S45))).bind fun y254 => ((data_Way.f y240 y254 ([] : List (S51)) 1).bind fun bt257 => ((data_Users.f k y240 y254 ([] : List (S51)) 1 1).bind fun t266 => ((data_Tags.f y240 y254 ([] : List (S51)) 1 1).bind fun t269 => (if (bt257.2.1.length : Int) = 3 then (if bt257.2.2.2 = true then (if (t266.length : Int) = 1 then (if (t269.length : Int) = 1 then ((data_Refs.f k y240 y254 ([] : List (S51))).bind fun t272 => (mapmakerlaw14_livesG.j0 k t266 t269 ((t272.length : Int) != 3) y240 y246 y240 y254)) else (mapmakerlaw14_livesG.j0 k t266 t269 true y240 y246 y240 y254)) else (mapmakerlaw14_livesG.j0 k t266 t269 true y240 y246 y240 y254)) else (mapmakerlaw14_livesG.j0 k t266 t269 true y240 y246 y240 y254)) else (mapmakerlaw14_livesG.j0 k t266 t269 true y240 y246 y240 y254)))))))) = some r := by first | (rw [hy237]; with_reducible exact H) | (have H2_ := (Option.bind_some _ _).symm.trans H; rw [hy237]; with_reducible exact H2_) | (have H2_ := (Option.bind_some _ _).symm.trans H; with_reducible exact H2_) | with_reducible exact H | (rw [hy237]; exact H) | exact H
 have Ny237 := aM hy237
 clear hy237
 obtain ⟨y240, hy240⟩ : ∃ y_ : List (S39), y_ = (([(⟨1, (⟨0, 0⟩ : S36), y237⟩ : S39), (⟨3, (⟨0, 0⟩ : S36), ([] : List (S70))⟩ : S39)] : List (S39))) := ⟨_, rfl⟩
 replace H : ((some (([(⟨1, (([1, 2] : List Int)), ([] : List (S70))⟩ : S45)] : List (S45)) : List (S45))).bind fun y246 => ((some (([(⟨1, (([1, 3, 1] : List Int)), ([] : List (S70))⟩ : S45)] : List (S45)) : List (S45))).bind fun y254 => ((data_Way.f y240 y254 ([] : List (S51)) 1).bind fun bt257 => ((data_Users.f k y240 y254 ([] : List (S51)) 1 1).bind fun t266 => ((data_Tags.f y240 y254 ([] : List (S51)) 1 1).bind fun t269 => (if (bt257.2.1.length : Int) = 3 then (if bt257.2.2.2 = true then (if (t266.length : Int) = 1 then (if (t269.length : Int) = 1 then ((data_Refs.f k y240 y254 ([] : List (S51))).bind fun t272 => (mapmakerlaw14_livesG.j0 k t266 t269 ((t272.length : Int) != 3) y240 y246 y240 y254)) else (mapmakerlaw14_livesG.j0 k t266 t269 true y240 y246 y240 y254)) else (mapmakerlaw14_livesG.j0 k t266 t269 true y240 y246 y240 y254)) else (mapmakerlaw14_livesG.j0 k t266 t269 true y240 y246 y240 y254)) else (mapmakerlaw14_livesG.j0 k t266 t269 true y240 y246 y240 y254))))))) = some r := by first | (rw [hy240]; with_reducible exact H) | (have H2_ := (Option.bind_some _ _).symm.trans H; rw [hy240]; with_reducible exact H2_) | (have H2_ := (Option.bind_some _ _).symm.trans H; with_reducible exact H2_) | with_reducible exact H | (rw [hy240]; exact H) | exact H
 have Ny240 := aM hy240
 clear hy240
 obtain ⟨y243, hy243⟩ : ∃ y_ : List Int, y_ = (([1, 2] : List Int)) := ⟨_, rfl⟩
 replace H : ((some (([(⟨1, y243, ([] : List (S70))⟩ : S45)] : List (S45)) : List (S45))).bind fun y246 => ((some (([(⟨1, (([1, 3, 1] : List Int)), ([] : List (S70))⟩ : S45)] : List (S45)) : List (S45))).bind fun y254 => ((data_Way.f y240 y254 ([] : List (S51)) 1).bind fun bt257 => ((data_Users.f k y240 y254 ([] : List (S51)) 1 1).bind fun t266 => ((data_Tags.f y240 y254 ([] : List (S51)) 1 1).bind fun t269 => (if (bt257.2.1.length : Int) = 3 then (if bt257.2.2.2 = true then (if (t266.length : Int) = 1 then (if (t269.length : Int) = 1 then ((data_Refs.f k y240 y254 ([] : List (S51))).bind fun t272 => (mapmakerlaw14_livesG.j0 k t266 t269 ((t272.length : Int) != 3) y240 y246 y240 y254)) else (mapmakerlaw14_livesG.j0 k t266 t269 true y240 y246 y240 y254)) else (mapmakerlaw14_livesG.j0 k t266 t269 true y240 y246 y240 y254)) else (mapmakerlaw14_livesG.j0 k t266 t269 true y240 y246 y240 y254)) else (mapmakerlaw14_livesG.j0 k t266 t269 true y240 y246 y240 y254))))))) = some r := by first | (rw [hy243]; with_reducible exact H) | (have H2_ := (Option.bind_some _ _).symm.trans H; rw [hy243]; with_reducible exact H2_) | (have H2_ := (Option.bind_some _ _).symm.trans H; with_reducible exact H2_) | with_reducible exact H | (rw [hy243]; exact H) | exact H
 have Ny243 := aM hy243
 clear hy243
 obtain ⟨y246, hy246⟩ : ∃ y_ : List (S45), y_ = (([(⟨1, y243, ([] : List (S70))⟩ : S45)] : List (S45))) := ⟨_, rfl⟩
 replace H : ((some (([(⟨1, (([1, 3, 1] : List Int)), ([] : List (S70))⟩ : S45)] : List (S45)) : List (S45))).bind fun y254 => ((data_Way.f y240 y254 ([] : List (S51)) 1).bind fun bt257 => ((data_Users.f k y240 y254 ([] : List (S51)) 1 1).bind fun t266 => ((data_Tags.f y240 y254 ([] : List (S51)) 1 1).bind fun t269 => (if (bt257.2.1.length : Int) = 3 then (if bt257.2.2.2 = true then (if (t266.length : Int) = 1 then (if (t269.length : Int) = 1 then ((data_Refs.f k y240 y254 ([] : List (S51))).bind fun t272 => (mapmakerlaw14_livesG.j0 k t266 t269 ((t272.length : Int) != 3) y240 y246 y240 y254)) else (mapmakerlaw14_livesG.j0 k t266 t269 true y240 y246 y240 y254)) else (mapmakerlaw14_livesG.j0 k t266 t269 true y240 y246 y240 y254)) else (mapmakerlaw14_livesG.j0 k t266 t269 true y240 y246 y240 y254)) else (mapmakerlaw14_livesG.j0 k t266 t269 true y240 y246 y240 y254)))))) = some r := by first | (rw [hy246]; with_reducible exact H) | (have H2_ := (Option.bind_some _ _).symm.trans H; rw [hy246]; with_reducible exact H2_) | (have H2_ := (Option.bind_some _ _).symm.trans H; with_reducible exact H2_) | with_reducible exact H | (rw [hy246]; exact H) | exact H
 have Ny246 := aM hy246
 clear hy246
 obtain ⟨y251, hy251⟩ : ∃ y_ : List Int, y_ = (([1, 3, 1] : List Int)) := ⟨_, rfl⟩
 replace H : ((some (([(⟨1, y251, ([] : List (S70))⟩ : S45)] : List (S45)) : List (S45))).bind fun y254 => ((data_Way.f y240 y254 ([] : List (S51)) 1).bind fun bt257 => ((data_Users.f k y240 y254 ([] : List (S51)) 1 1).bind fun t266 => ((data_Tags.f y240 y254 ([] : List (S51)) 1 1).bind fun t269 => (if (bt257.2.1.length : Int) = 3 then (if bt257.2.2.2 = true then (if (t266.length : Int) = 1 then (if (t269.length : Int) = 1 then ((data_Refs.f k y240 y254 ([] : List (S51))).bind fun t272 => (mapmakerlaw14_livesG.j0 k t266 t269 ((t272.length : Int) != 3) y240 y246 y240 y254)) else (mapmakerlaw14_livesG.j0 k t266 t269 true y240 y246 y240 y254)) else (mapmakerlaw14_livesG.j0 k t266 t269 true y240 y246 y240 y254)) else (mapmakerlaw14_livesG.j0 k t266 t269 true y240 y246 y240 y254)) else (mapmakerlaw14_livesG.j0 k t266 t269 true y240 y246 y240 y254)))))) = some r := by first | (rw [hy251]; with_reducible exact H) | (have H2_ := (Option.bind_some _ _).symm.trans H; rw [hy251]; with_reducible exact H2_) | (have H2_ := (Option.bind_some _ _).symm.trans H; with_reducible exact H2_) | with_reducible exact H | (rw [hy251]; exact H) | exact H
 have Ny251 := aM hy251
 clear hy251
 obtain ⟨y254, hy254⟩ : ∃ y_ : List (S45), y_ = (([(⟨1, y251, ([] : List (S70))⟩ : S45)] : List (S45))) := ⟨_, rfl⟩
 replace H : ((data_Way.f y240 y254 ([] : List (S51)) 1).bind fun bt257 => ((data_Users.f k y240 y254 ([] : List (S51)) 1 1).bind fun t266 => ((data_Tags.f y240 y254 ([] : List (S51)) 1 1).bind fun t269 => (if (bt257.2.1.length : Int) = 3 then (if bt257.2.2.2 = true then (if (t266.length : Int) = 1 then (if (t269.length : Int) = 1 then ((data_Refs.f k y240 y254 ([] : List (S51))).bind fun t272 => (mapmakerlaw14_livesG.j0 k t266 t269 ((t272.length : Int) != 3) y240 y246 y240 y254)) else (mapmakerlaw14_livesG.j0 k t266 t269 true y240 y246 y240 y254)) else (mapmakerlaw14_livesG.j0 k t266 t269 true y240 y246 y240 y254)) else (mapmakerlaw14_livesG.j0 k t266 t269 true y240 y246 y240 y254)) else (mapmakerlaw14_livesG.j0 k t266 t269 true y240 y246 y240 y254))))) = some r := by first | (rw [hy254]; with_reducible exact H) | (have H2_ := (Option.bind_some _ _).symm.trans H; rw [hy254]; with_reducible exact H2_) | (have H2_ := (Option.bind_some _ _).symm.trans H; with_reducible exact H2_) | with_reducible exact H | (rw [hy254]; exact H) | exact H
 have Ny254 := aM hy254
 clear hy254
 replace H := Option.bind_eq_some_iff.mp H
 obtain ⟨⟨t257, t258, t261, t264⟩, A10, H⟩ := H
 replace H : ((data_Users.f k y240 y254 ([] : List (S51)) 1 1).bind fun t266 => ((data_Tags.f y240 y254 ([] : List (S51)) 1 1).bind fun t269 => (if (t258.length : Int) = 3 then (if t264 = true then (if (t266.length : Int) = 1 then (if (t269.length : Int) = 1 then ((data_Refs.f k y240 y254 ([] : List (S51))).bind fun t272 => (mapmakerlaw14_livesG.j0 k t266 t269 ((t272.length : Int) != 3) y240 y246 y240 y254)) else (mapmakerlaw14_livesG.j0 k t266 t269 true y240 y246 y240 y254)) else (mapmakerlaw14_livesG.j0 k t266 t269 true y240 y246 y240 y254)) else (mapmakerlaw14_livesG.j0 k t266 t269 true y240 y246 y240 y254)) else (mapmakerlaw14_livesG.j0 k t266 t269 true y240 y246 y240 y254)))) = some r := H
 have A1 := aM A10
 clear A10
 replace H := Option.bind_eq_some_iff.mp H
 obtain ⟨t266, A20, H⟩ := H
 try dsimp only at H
 have A2 := aM A20
 clear A20
 replace H := Option.bind_eq_some_iff.mp H
 obtain ⟨t269, A30, H⟩ := H
 try dsimp only at H
 have A3 := aM A30
 clear A30
 have HC4 := aM H
 clear H
 go_enter Try.func9, Try.ntmps9
 go_upto_region 7 with (first | ((with_reducible refine gate_dst (N := 8) rfl ?_); (try (refine gate_guard (by rfl) ?_; dsimp only)); refine Kd.R_lit k70 _ 70 ?hg (N := 8) ?hd (xs := ([(⟨(⟨#[97]⟩ : ByteArray), (⟨#[98]⟩ : ByteArray)⟩ : S70)] : List (S70))) (inner := [.string (⟨#[97]⟩ : ByteArray), .string (⟨#[98]⟩ : ByteArray)]) (ok := fun _ => True) (okp := fun _ => True) ?hr ?hp (fun _ hk => hk) trivial (Below.refl _ _) (Nat.le_refl _) (by simp) ?_; (case hd => rfl); (case hg => rfl); (case hr => first | (go_simp; done) | (go_simp; rfl)); (case hp => exact (Reps.c2 (show Kd.M k70 _ _ _ (⟨(⟨#[97]⟩ : ByteArray), (⟨#[98]⟩ : ByteArray)⟩ : S70) [.string (⟨#[97]⟩ : ByteArray), .string (⟨#[98]⟩ : ByteArray)] from (k70_mkM _ _ _ (⟨(⟨#[97]⟩ : ByteArray), (⟨#[98]⟩ : ByteArray)⟩ : S70) )) (Reps.none _ _))); intro v238 w5 ho6 hb hg_ hnew_; clear hg_ hnew_; (first | rw [← Ny237.out] at ho6 | (simp only [Int.reduceToNat] at ho6; rw [← Ny237.out] at ho6)); have HO239 := aM (Kd.R_lower ho6 (below_size (bl))); replace HB := aM (bS (bl) hb); clear hb ho6; obtain ⟨Ao7, co7, eo7⟩ := Kd.R_slice HO239.out; subst eo7) | ((with_reducible refine gate_dst (N := 11) rfl ?_); (try (refine gate_guard (by rfl) ?_; dsimp only)); refine Kd.N_lit k39 _ 39 ?hg (N' := 11) ?hd (xs := ([(⟨1, (⟨0, 0⟩ : S36), y237⟩ : S39), (⟨3, (⟨0, 0⟩ : S36), ([] : List (S70))⟩ : S39)] : List (S39))) (inner := [.int .i64 1, .int .i64 0, .int .i64 0, .slice Ao7 y237.length co7, .int .i64 3, .int .i64 0, .int .i64 0, .slice none 0 0]) (ok := (fun _ => True)) (okp := (fun _ => True)) ?hr ?hp (fun _ hk => hk) ((show ∀ k_, w5.heap.size ≤ k_ → (fun _ => True) k_ from fun k_ hk => trivial) _ (Nat.le_refl _)) (Below.refl _ _) (Nat.le_refl _) (by simp) ?_; (case hd => rfl); (case hg => rfl); (case hr => first | (go_simp; done) | (go_simp; rfl)); (case hp => exact (Reps.c4 (show Kd.FK k39 _ _ (⟨1, (⟨0, 0⟩ : S36), y237⟩ : S39) [.int .i64 1, .int .i64 0, .int .i64 0, .slice Ao7 y237.length co7] from (k39_mkF _ _ (⟨1, (⟨0, 0⟩ : S36), y237⟩ : S39) (rR (rM (ok' := (fun _ => True)) (HO239.out) (fun k_ hk => trivial))).2.1 (Kd.R_F (rM (ok' := (fun _ => True)) (HO239.out) (fun k_ hk => trivial))))) (Reps.c4 (show Kd.FK k39 _ _ (⟨3, (⟨0, 0⟩ : S36), ([] : List (S70))⟩ : S39) [.int .i64 3, .int .i64 0, .int .i64 0, .slice none 0 0] from (k39_mkF _ _ (⟨3, (⟨0, 0⟩ : S36), ([] : List (S70))⟩ : S39) (Nat.le_refl _) (Kd.F_nil _ _ _))) (Reps.none _ _)))); intro v241 w8 ho9 hb hg_ hnew_; clear hg_ hnew_; (first | rw [← Ny240.out] at ho9 | (simp only [Int.reduceToNat] at ho9; rw [← Ny240.out] at ho9)); have HO242 := aM (Kd.N_lower ho9 (below_size (bl))); replace HO239 := aM (rB (rl HO239) hb); replace HB := aM (bS (bl) hb); clear hb ho9) | ((with_reducible refine gate_dst (N := 12) rfl ?_); (try (refine gate_guard (by rfl) ?_; dsimp only)); refine Kd.R_lit (Kd.int .i64) _ 3 ?hg (N := 12) ?hd (xs := ([1, 2] : List Int)) (inner := [.int .i64 1, .int .i64 2]) (ok := fun _ => True) (okp := fun _ => True) ?hr ?hp (fun _ hk => hk) trivial (Below.refl _ _) (Nat.le_refl _) (by simp) ?_; (case hd => rfl); (case hg => rfl); (case hr => first | (go_simp; done) | (go_simp; rfl)); (case hp => exact (Reps.one (show Kd.M (Kd.int .i64) _ _ _ 1 [.int .i64 1] from rfl) (Reps.one (show Kd.M (Kd.int .i64) _ _ _ 2 [.int .i64 2] from rfl) (Reps.none _ _)))); intro v244 w10 ho11 hb hg_ hnew_; clear hg_ hnew_; (first | rw [← Ny243.out] at ho11 | (simp only [Int.reduceToNat] at ho11; rw [← Ny243.out] at ho11)); have HO245 := aM (Kd.R_lower ho11 (below_size (bl))); replace HO239 := aM (rB (rl HO239) hb); replace HO242 := aM (Kd.N_elder' (by (with_reducible repeat (first | apply Kd.N_alloc | apply Kd.N_drewN | apply Kd.N_drew)); exact HO242.out) (Kd.R_base ho11) hb); replace HB := aM (bS (bl) hb); clear hb ho11; obtain ⟨Ao12, co12, eo12⟩ := Kd.R_slice HO245.out; subst eo12) | ((with_reducible refine gate_dst (N := 14) rfl ?_); (try (refine gate_guard (by rfl) ?_; dsimp only)); refine Kd.N_lit k45 _ 45 ?hg (N' := 14) ?hd (xs := ([(⟨1, y243, ([] : List (S70))⟩ : S45)] : List (S45))) (inner := [.int .i64 1, .slice Ao12 y243.length co12, .slice none 0 0]) (ok := (fun k_ => some k_ ≠ (.slice Ao7 y237.length co7 : Value).ownBlock ∧ some k_ ≠ (v241 : Value).ownBlock)) (okp := (fun k_ => some k_ ≠ (.slice Ao7 y237.length co7 : Value).ownBlock ∧ some k_ ≠ (v241 : Value).ownBlock)) ?hr ?hp (fun _ hk => hk) ((show ∀ k_, w10.heap.size ≤ k_ → (fun k_ => some k_ ≠ (.slice Ao7 y237.length co7 : Value).ownBlock ∧ some k_ ≠ (v241 : Value).ownBlock) k_ from fun k_ hk => ⟨Kd.fresh' (Kd.R_lt (rl HO239)) k_ hk, Kd.fresh' (Kd.N_lt (by (with_reducible repeat (first | apply Kd.N_alloc | apply Kd.N_drewN | apply Kd.N_drew)); exact HO242.out)) k_ hk⟩) _ (Nat.le_refl _)) (Below.refl _ _) (Nat.le_refl _) (by simp) ?_; (case hd => rfl); (case hg => rfl); (case hr => first | (go_simp; done) | (go_simp; rfl)); (case hp => exact (Reps.c3 (show Kd.FK k45 _ _ (⟨1, y243, ([] : List (S70))⟩ : S45) [.int .i64 1, .slice Ao12 y243.length co12, .slice none 0 0] from (k45_mkF _ _ (⟨1, y243, ([] : List (S70))⟩ : S45) (rR (rM (ok' := (fun k_ => some k_ ≠ (.slice Ao7 y237.length co7 : Value).ownBlock ∧ some k_ ≠ (v241 : Value).ownBlock)) (Kd.R_apart' (Kd.R_apart' (HO245.out) (Kd.R_typed HO239.out) (by decide)) (Kd.N_typed HO242.out) (by decide)) (fun k_ hk => ⟨hk.1.2, hk.2⟩))).2.1 (Kd.R_F (rM (ok' := (fun k_ => some k_ ≠ (.slice Ao7 y237.length co7 : Value).ownBlock ∧ some k_ ≠ (v241 : Value).ownBlock)) (Kd.R_apart' (Kd.R_apart' (HO245.out) (Kd.R_typed HO239.out) (by decide)) (Kd.N_typed HO242.out) (by decide)) (fun k_ hk => ⟨hk.1.2, hk.2⟩))) (Nat.le_refl _) (Kd.F_nil _ _ _))) (Reps.none _ _))); intro v247 w13 ho14 hb hg_ hnew_; clear hg_ hnew_; (first | rw [← Ny246.out] at ho14 | (simp only [Int.reduceToNat] at ho14; rw [← Ny246.out] at ho14)); have HO248 := aM (Kd.N_lower ho14 (below_size (bl))); replace HO239 := aM (rB (rl HO239) hb); replace HO242 := aM (Kd.N_elder' (by (with_reducible repeat (first | apply Kd.N_alloc | apply Kd.N_drewN | apply Kd.N_drew)); exact HO242.out) (Kd.N_base ho14) hb); replace HO245 := aM (rB (rl HO245) hb); replace HB := aM (bS (bl) hb); clear hb ho14; obtain ⟨Ao15, co15, eo15⟩ := Kd.N_slice HO248.out; subst eo15; obtain ⟨Ao16, co16, eo16⟩ := Kd.N_slice HO242.out; subst eo16) | ((with_reducible refine gate_dst (N := 1) rfl ?_); (try (refine gate_guard (by rfl) ?_; dsimp only)); refine bx (N := 1) (cs := #[.slice none 0 0, .slice none 0 0, .slice none 0 0]) (t := 26) ?_; intro gb249 hg w17 hbox hb; have n0_ := aM (rB (rl HO239) hb); have n1_ := aM (Kd.N_below (Kd.N_elderB (by (with_reducible repeat (first | apply Kd.N_alloc | apply Kd.N_drewN | apply Kd.N_drew)); exact HO242.out) gb249 (Nat.le_of_eq hg.symm)) hb); have n2_ := aM (rB (rl HO245) hb); have n3_ := aM (Kd.N_below (Kd.N_elderB (by (with_reducible repeat (first | apply Kd.N_alloc | apply Kd.N_drewN | apply Kd.N_drew)); exact HO248.out) gb249 (Nat.le_of_eq hg.symm)) hb); have n4_ := aM (bS (bl) hb); have n5_ := aM (hbox); have n7_ := aM (gw (w := w) hg); (try clear HO239); (try clear HO242); (try clear HO245); (try clear HO248); (try clear HB); have HO239 := n0_; have HO242 := n1_; have HO245 := n2_; have HO248 := n3_; have HB := n4_; have BK249 := n5_; have GE249 := n7_; clear n0_ n1_ n2_ n3_ n4_ n5_ n7_ hb hbox hg; obtain ⟨hcz18_0, hcz18_1, hcz18_2, hfz18_0, hfz18_1, hfz18_2⟩ := bc3 BK249) | ((with_reducible refine gate_dst (N := 2) rfl ?_); (try (refine gate_guard (by rfl) ?_; dsimp only)); refine bx (N := 2) (cs := #[.slice none 0 0, .slice none 0 0, .slice none 0 0]) (t := 26) ?_; intro gb250 hg w19 hbox hb; have n0_ := aM (rB (by (with_reducible repeat (first | apply rA | apply rN | apply rD)); exact (rM (Kd.R_far (p := ⟨gb249, 2, none⟩) (Kd.R_far (p := ⟨gb249, 1, none⟩) (Kd.R_far (p := ⟨gb249, 0, none⟩) (Kd.R_types HO239.out BK249.out (by decide)) (fun _ hk => hk.2) (.slice Ao16 y240.length co16)) (fun _ hk => hk.2) (.slice Ao15 y246.length co15)) (fun _ hk => hk.2) (.slice none 0 0)) (fun _ h_ => h_.1))) hb); have n1_ := aM (Kd.N_below (Kd.N_elderB (by (with_reducible repeat (first | apply Kd.N_alloc | apply Kd.N_drewN | apply Kd.N_drew)); exact (Kd.N_mono (Kd.N_far (p := ⟨gb249, 2, none⟩) (Kd.N_far (p := ⟨gb249, 1, none⟩) (Kd.N_far (p := ⟨gb249, 0, none⟩) (Kd.N_mono HO242.out (fun k_ hk => (⟨hk, hk.2⟩ : _ ∧ k_ ≠ gb249))) (fun _ hk => hk.2) (.slice Ao16 y240.length co16)) (fun _ hk => hk.2) (.slice Ao15 y246.length co15)) (fun _ hk => hk.2) (.slice none 0 0)) (fun _ h_ => h_.1))) gb250 (Nat.le_of_eq hg.symm)) hb); have n2_ := aM (rB (by (with_reducible repeat (first | apply rA | apply rN | apply rD)); exact (rM (Kd.R_far (p := ⟨gb249, 2, none⟩) (Kd.R_far (p := ⟨gb249, 1, none⟩) (Kd.R_far (p := ⟨gb249, 0, none⟩) (Kd.R_types HO245.out BK249.out (by decide)) (fun _ hk => hk.2) (.slice Ao16 y240.length co16)) (fun _ hk => hk.2) (.slice Ao15 y246.length co15)) (fun _ hk => hk.2) (.slice none 0 0)) (fun _ h_ => h_.1))) hb); have n3_ := aM (Kd.N_below (Kd.N_elderB (by (with_reducible repeat (first | apply Kd.N_alloc | apply Kd.N_drewN | apply Kd.N_drew)); exact (Kd.N_mono (Kd.N_far (p := ⟨gb249, 2, none⟩) (Kd.N_far (p := ⟨gb249, 1, none⟩) (Kd.N_far (p := ⟨gb249, 0, none⟩) (Kd.N_mono HO248.out (fun k_ hk => (⟨hk, hk.2⟩ : _ ∧ k_ ≠ gb249))) (fun _ hk => hk.2) (.slice Ao16 y240.length co16)) (fun _ hk => hk.2) (.slice Ao15 y246.length co15)) (fun _ hk => hk.2) (.slice none 0 0)) (fun _ h_ => h_.1))) gb250 (Nat.le_of_eq hg.symm)) hb); have n4_ := aM (kB (g := gb249) (o := .cells #[.slice Ao16 y240.length co16, .slice Ao15 y246.length co15, .slice none 0 0] 26 (0, 0)) (by (with_reducible repeat (first | refine kN ?_ _ | refine kD ?_ | refine kA ?_ _)); refine kP (cs := #[.slice Ao16 y240.length co16, .slice Ao15 y246.length co15, .slice none 0 0]) ?_ 2 _ rfl; (with_reducible repeat (first | refine kN ?_ _ | refine kD ?_ | refine kA ?_ _)); refine kP (cs := #[.slice Ao16 y240.length co16, .slice none 0 0, .slice none 0 0]) ?_ 1 _ rfl; (with_reducible repeat (first | refine kN ?_ _ | refine kD ?_ | refine kA ?_ _)); refine kP (cs := #[.slice none 0 0, .slice none 0 0, .slice none 0 0]) ?_ 0 _ rfl; (with_reducible repeat (first | refine kN ?_ _ | refine kD ?_ | refine kA ?_ _)); exact BK249.out) hb); have n5_ := aM (bS (bl) hb); have n6_ := aM (hbox); have n8_ := aM (gw (w := w) hg); have n9_ := aM ((by rw [hg]; exact Nat.ne_of_lt (blk_lt (g := gb249) (o := .cells #[.slice Ao16 y240.length co16, .slice Ao15 y246.length co15, .slice none 0 0] 26 (0, 0)) (by (with_reducible repeat (first | refine kN ?_ _ | refine kD ?_ | refine kA ?_ _)); refine kP (cs := #[.slice Ao16 y240.length co16, .slice Ao15 y246.length co15, .slice none 0 0]) ?_ 2 _ rfl; (with_reducible repeat (first | refine kN ?_ _ | refine kD ?_ | refine kA ?_ _)); refine kP (cs := #[.slice Ao16 y240.length co16, .slice none 0 0, .slice none 0 0]) ?_ 1 _ rfl; (with_reducible repeat (first | refine kN ?_ _ | refine kD ?_ | refine kA ?_ _)); refine kP (cs := #[.slice none 0 0, .slice none 0 0, .slice none 0 0]) ?_ 0 _ rfl; (with_reducible repeat (first | refine kN ?_ _ | refine kD ?_ | refine kA ?_ _)); exact BK249.out)) : gb249 ≠ gb250)); have n10_ := aM ((by rw [hg]; exact Nat.ne_of_gt (blk_lt (g := gb249) (o := .cells #[.slice Ao16 y240.length co16, .slice Ao15 y246.length co15, .slice none 0 0] 26 (0, 0)) (by (with_reducible repeat (first | refine kN ?_ _ | refine kD ?_ | refine kA ?_ _)); refine kP (cs := #[.slice Ao16 y240.length co16, .slice Ao15 y246.length co15, .slice none 0 0]) ?_ 2 _ rfl; (with_reducible repeat (first | refine kN ?_ _ | refine kD ?_ | refine kA ?_ _)); refine kP (cs := #[.slice Ao16 y240.length co16, .slice none 0 0, .slice none 0 0]) ?_ 1 _ rfl; (with_reducible repeat (first | refine kN ?_ _ | refine kD ?_ | refine kA ?_ _)); refine kP (cs := #[.slice none 0 0, .slice none 0 0, .slice none 0 0]) ?_ 0 _ rfl; (with_reducible repeat (first | refine kN ?_ _ | refine kD ?_ | refine kA ?_ _)); exact BK249.out)) : gb250 ≠ gb249)); (try clear HO239); (try clear HO242); (try clear HO245); (try clear HO248); (try clear BK249); (try clear HB); have HO239 := n0_; have HO242 := n1_; have HO245 := n2_; have HO248 := n3_; have BK249 := n4_; have HB := n5_; have BK250 := n6_; have GE250 := n8_; have NB249_250 := n9_; have NB250_249 := n10_; clear n0_ n1_ n2_ n3_ n4_ n5_ n6_ n8_ n9_ n10_ hb hbox hg; have hnb20 := NB250_249.out; have hnc20 := NB249_250.out; obtain ⟨hcz21_0, hcz21_1, hcz21_2, hfz21_0, hfz21_1, hfz21_2⟩ := bc3 BK250) | ((with_reducible refine gate_dst (N := 17) rfl ?_); (try (refine gate_guard (by rfl) ?_; dsimp only)); refine Kd.R_lit (Kd.int .i64) _ 3 ?hg (N := 17) ?hd (xs := ([1, 3, 1] : List Int)) (inner := [.int .i64 1, .int .i64 3, .int .i64 1]) (ok := fun _ => True) (okp := fun _ => True) ?hr ?hp (fun _ hk => hk) trivial (Below.refl _ _) (Nat.le_refl _) (by simp) ?_; (case hd => rfl); (case hg => rfl); (case hr => first | (go_simp; done) | (go_simp; rfl)); (case hp => exact (Reps.one (show Kd.M (Kd.int .i64) _ _ _ 1 [.int .i64 1] from rfl) (Reps.one (show Kd.M (Kd.int .i64) _ _ _ 3 [.int .i64 3] from rfl) (Reps.one (show Kd.M (Kd.int .i64) _ _ _ 1 [.int .i64 1] from rfl) (Reps.none _ _))))); intro v252 w22 ho23 hb hg_ hnew_; clear hg_ hnew_; (first | rw [← Ny251.out] at ho23 | (simp only [Int.reduceToNat] at ho23; rw [← Ny251.out] at ho23)); have HO253 := aM (Kd.R_lower (Kd.R_new' ho23 (Kd.R_lt (by (with_reducible repeat (first | apply rA | apply rN | apply rD)); exact (rM (Kd.R_far (p := ⟨gb250, 2, none⟩) (Kd.R_far (p := ⟨gb250, 1, none⟩) (Kd.R_far (p := ⟨gb250, 0, none⟩) (Kd.R_types HO245.out BK250.out (by decide)) (fun _ hk => hk.2) (.slice Ao16 y240.length co16)) (fun _ hk => hk.2) (.slice Ao15 y246.length co15)) (fun _ hk => hk.2) (.slice none 0 0)) (fun _ h_ => h_.1))))) (below_size (bl))); replace HO239 := aM (rB (by (with_reducible repeat (first | apply rA | apply rN | apply rD)); exact (rM (Kd.R_far (p := ⟨gb250, 2, none⟩) (Kd.R_far (p := ⟨gb250, 1, none⟩) (Kd.R_far (p := ⟨gb250, 0, none⟩) (Kd.R_types HO239.out BK250.out (by decide)) (fun _ hk => hk.2) (.slice Ao16 y240.length co16)) (fun _ hk => hk.2) (.slice Ao15 y246.length co15)) (fun _ hk => hk.2) (.slice none 0 0)) (fun _ h_ => h_.1))) hb); replace HO242 := aM (Kd.N_elder' (by (with_reducible repeat (first | apply Kd.N_alloc | apply Kd.N_drewN | apply Kd.N_drew)); exact (Kd.N_mono (Kd.N_far (p := ⟨gb250, 2, none⟩) (Kd.N_far (p := ⟨gb250, 1, none⟩) (Kd.N_far (p := ⟨gb250, 0, none⟩) (Kd.N_mono HO242.out (fun k_ hk => (⟨hk, hk.2⟩ : _ ∧ k_ ≠ gb250))) (fun _ hk => hk.2) (.slice Ao16 y240.length co16)) (fun _ hk => hk.2) (.slice Ao15 y246.length co15)) (fun _ hk => hk.2) (.slice none 0 0)) (fun _ h_ => h_.1))) (Kd.R_base ho23) hb); replace HO245 := aM (rE (by (with_reducible repeat (first | apply rA | apply rN | apply rD)); exact (rM (Kd.R_far (p := ⟨gb250, 2, none⟩) (Kd.R_far (p := ⟨gb250, 1, none⟩) (Kd.R_far (p := ⟨gb250, 0, none⟩) (Kd.R_types HO245.out BK250.out (by decide)) (fun _ hk => hk.2) (.slice Ao16 y240.length co16)) (fun _ hk => hk.2) (.slice Ao15 y246.length co15)) (fun _ hk => hk.2) (.slice none 0 0)) (fun _ h_ => h_.1))) (Kd.R_base ho23) hb); replace HO248 := aM (Kd.N_elder' (by (with_reducible repeat (first | apply Kd.N_alloc | apply Kd.N_drewN | apply Kd.N_drew)); exact (Kd.N_mono (Kd.N_far (p := ⟨gb250, 2, none⟩) (Kd.N_far (p := ⟨gb250, 1, none⟩) (Kd.N_far (p := ⟨gb250, 0, none⟩) (Kd.N_mono HO248.out (fun k_ hk => (⟨hk, hk.2⟩ : _ ∧ k_ ≠ gb250))) (fun _ hk => hk.2) (.slice Ao16 y240.length co16)) (fun _ hk => hk.2) (.slice Ao15 y246.length co15)) (fun _ hk => hk.2) (.slice none 0 0)) (fun _ h_ => h_.1))) (Kd.R_base ho23) hb); replace BK249 := aM (kB (g := gb249) (o := .cells #[.slice Ao16 y240.length co16, .slice Ao15 y246.length co15, .slice none 0 0] 26 (0, 0)) (by (with_reducible repeat (first | refine kN ?_ _ | refine kD ?_ | refine kA ?_ _)); refine blk_far ?_ NB249_250.out _; (with_reducible repeat (first | refine kN ?_ _ | refine kD ?_ | refine kA ?_ _)); refine blk_far ?_ NB249_250.out _; (with_reducible repeat (first | refine kN ?_ _ | refine kD ?_ | refine kA ?_ _)); refine blk_far ?_ NB249_250.out _; (with_reducible repeat (first | refine kN ?_ _ | refine kD ?_ | refine kA ?_ _)); exact BK249.out) hb); replace BK250 := aM (kB (g := gb250) (o := .cells #[.slice Ao16 y240.length co16, .slice Ao15 y246.length co15, .slice none 0 0] 26 (0, 0)) (by (with_reducible repeat (first | refine kN ?_ _ | refine kD ?_ | refine kA ?_ _)); refine kP (cs := #[.slice Ao16 y240.length co16, .slice Ao15 y246.length co15, .slice none 0 0]) ?_ 2 _ rfl; (with_reducible repeat (first | refine kN ?_ _ | refine kD ?_ | refine kA ?_ _)); refine kP (cs := #[.slice Ao16 y240.length co16, .slice none 0 0, .slice none 0 0]) ?_ 1 _ rfl; (with_reducible repeat (first | refine kN ?_ _ | refine kD ?_ | refine kA ?_ _)); refine kP (cs := #[.slice none 0 0, .slice none 0 0, .slice none 0 0]) ?_ 0 _ rfl; (with_reducible repeat (first | refine kN ?_ _ | refine kD ?_ | refine kA ?_ _)); exact BK250.out) hb); replace HB := aM (bS (bl) hb); clear hb ho23; obtain ⟨Ao24, co24, eo24⟩ := Kd.R_slice HO253.out; subst eo24) | ((with_reducible refine gate_dst (N := 19) rfl ?_); (try (refine gate_guard (by rfl) ?_; dsimp only)); refine Kd.N_lit k45 _ 45 ?hg (N' := 19) ?hd (xs := ([(⟨1, y251, ([] : List (S70))⟩ : S45)] : List (S45))) (inner := [.int .i64 1, .slice Ao24 y251.length co24, .slice none 0 0]) (ok := (fun k_ => some k_ ≠ (.slice Ao7 y237.length co7 : Value).ownBlock ∧ some k_ ≠ (.slice Ao16 y240.length co16 : Value).ownBlock ∧ some k_ ≠ (.slice Ao12 y243.length co12 : Value).ownBlock ∧ some k_ ≠ (.slice Ao15 y246.length co15 : Value).ownBlock ∧ k_ ≠ gb249 ∧ k_ ≠ gb250)) (okp := (fun k_ => some k_ ≠ (.slice Ao7 y237.length co7 : Value).ownBlock ∧ some k_ ≠ (.slice Ao16 y240.length co16 : Value).ownBlock ∧ some k_ ≠ (.slice Ao12 y243.length co12 : Value).ownBlock ∧ some k_ ≠ (.slice Ao15 y246.length co15 : Value).ownBlock ∧ k_ ≠ gb249 ∧ k_ ≠ gb250)) ?hr ?hp (fun _ hk => hk) ((show ∀ k_, w22.heap.size ≤ k_ → (fun k_ => some k_ ≠ (.slice Ao7 y237.length co7 : Value).ownBlock ∧ some k_ ≠ (.slice Ao16 y240.length co16 : Value).ownBlock ∧ some k_ ≠ (.slice Ao12 y243.length co12 : Value).ownBlock ∧ some k_ ≠ (.slice Ao15 y246.length co15 : Value).ownBlock ∧ k_ ≠ gb249 ∧ k_ ≠ gb250) k_ from fun k_ hk => ⟨Kd.fresh' (Kd.R_lt (rl HO239)) k_ hk, Kd.fresh' (Kd.N_lt (by (with_reducible repeat (first | apply Kd.N_alloc | apply Kd.N_drewN | apply Kd.N_drew)); exact HO242.out)) k_ hk, Kd.fresh' (Kd.R_lt (rl HO245)) k_ hk, Kd.fresh' (Kd.N_lt (by (with_reducible repeat (first | apply Kd.N_alloc | apply Kd.N_drewN | apply Kd.N_drew)); exact HO248.out)) k_ hk, Kd.freshB (kl BK249) k_ hk, Kd.freshB (kl BK250) k_ hk⟩) _ (Nat.le_refl _)) (Below.refl _ _) (Nat.le_refl _) (by simp) ?_; (case hd => rfl); (case hg => rfl); (case hr => first | (go_simp; done) | (go_simp; rfl)); (case hp => exact (Reps.c3 (show Kd.FK k45 _ _ (⟨1, y251, ([] : List (S70))⟩ : S45) [.int .i64 1, .slice Ao24 y251.length co24, .slice none 0 0] from (k45_mkF _ _ (⟨1, y251, ([] : List (S70))⟩ : S45) (rR (rM (ok' := (fun k_ => some k_ ≠ (.slice Ao7 y237.length co7 : Value).ownBlock ∧ some k_ ≠ (.slice Ao16 y240.length co16 : Value).ownBlock ∧ some k_ ≠ (.slice Ao12 y243.length co12 : Value).ownBlock ∧ some k_ ≠ (.slice Ao15 y246.length co15 : Value).ownBlock ∧ k_ ≠ gb249 ∧ k_ ≠ gb250)) (Kd.R_types (Kd.R_types (Kd.R_apart' (Kd.R_apart' (Kd.R_apart' (HO253.out) (Kd.R_typed HO239.out) (by decide)) (Kd.N_typed HO242.out) (by decide)) (Kd.N_typed HO248.out) (by decide)) BK249.out (by decide)) BK250.out (by decide)) (fun k_ hk => ⟨hk.1.1.1.1.2, ⟨hk.1.1.1.2, ⟨hk.1.1.1.1.1.2, ⟨hk.1.1.2, ⟨hk.1.2, hk.2⟩⟩⟩⟩⟩))).2.1 (Kd.R_F (rM (ok' := (fun k_ => some k_ ≠ (.slice Ao7 y237.length co7 : Value).ownBlock ∧ some k_ ≠ (.slice Ao16 y240.length co16 : Value).ownBlock ∧ some k_ ≠ (.slice Ao12 y243.length co12 : Value).ownBlock ∧ some k_ ≠ (.slice Ao15 y246.length co15 : Value).ownBlock ∧ k_ ≠ gb249 ∧ k_ ≠ gb250)) (Kd.R_types (Kd.R_types (Kd.R_apart' (Kd.R_apart' (Kd.R_apart' (HO253.out) (Kd.R_typed HO239.out) (by decide)) (Kd.N_typed HO242.out) (by decide)) (Kd.N_typed HO248.out) (by decide)) BK249.out (by decide)) BK250.out (by decide)) (fun k_ hk => ⟨hk.1.1.1.1.2, ⟨hk.1.1.1.2, ⟨hk.1.1.1.1.1.2, ⟨hk.1.1.2, ⟨hk.1.2, hk.2⟩⟩⟩⟩⟩))) (Nat.le_refl _) (Kd.F_nil _ _ _))) (Reps.none _ _))); intro v255 w25 ho26 hb hg_ hnew_; clear hg_ hnew_; (first | rw [← Ny254.out] at ho26 | (simp only [Int.reduceToNat] at ho26; rw [← Ny254.out] at ho26)); have HO256 := aM (Kd.N_lower ho26 (below_size (bl))); replace HO239 := aM (rB (rl HO239) hb); replace HO242 := aM (Kd.N_elder' (by (with_reducible repeat (first | apply Kd.N_alloc | apply Kd.N_drewN | apply Kd.N_drew)); exact HO242.out) (Kd.N_base ho26) hb); replace HO245 := aM (rB (rl HO245) hb); replace HO248 := aM (Kd.N_elder' (by (with_reducible repeat (first | apply Kd.N_alloc | apply Kd.N_drewN | apply Kd.N_drew)); exact HO248.out) (Kd.N_base ho26) hb); replace HO253 := aM (rB (rl HO253) hb); replace BK249 := aM (kB (kl BK249) hb); replace BK250 := aM (kB (kl BK250) hb); replace HB := aM (bS (bl) hb); clear hb ho26; obtain ⟨Ao27, co27, eo27⟩ := Kd.N_slice HO256.out; subst eo27; obtain ⟨hcz28_0, hcz28_1, hcz28_2, hfz28_0, hfz28_1, hfz28_2⟩ := bc3 BK250) | ((with_reducible refine gate_store (t := 23) (p := 20) rfl ?_); refine store_event (t := 23) (p := 20) (v := ?vo_w29) (w1 := (w25.setCell ⟨gb250, 1, none⟩ (.slice Ao27 y254.length co27))) ?hg ?ho ?hn ?hr ?_; (case ho => rfl); (case hg => rfl); (case hn => rfl); (case hr => first | (go_simp; done) | (go_simp; rfl)); intro w29 hw; have n0_ : Aside0 (Kd.R k70 70 w29 w.heap.size (fun _ => True) (.slice Ao7 y237.length co7) y237) := ⟨(by rw [hw]; exact (by (with_reducible repeat (first | apply rA | apply rN | apply rD)); exact rM (Kd.R_far (p := ⟨gb250, 1, none⟩) (Kd.R_types HO239.out BK250.out (by decide)) (fun _ hk => hk.2) (.slice Ao27 y254.length co27)) (fun _ hk => trivial)))⟩; have n1_ : Aside0 (Kd.N k39 39 w29 w.heap.size (fun k_ => some k_ ≠ (.slice Ao12 y243.length co12 : Value).ownBlock ∧ some k_ ≠ (.slice Ao15 y246.length co15 : Value).ownBlock ∧ some k_ ≠ (.slice Ao24 y251.length co24 : Value).ownBlock ∧ some k_ ≠ (.slice Ao27 y254.length co27 : Value).ownBlock ∧ k_ ≠ gb249 ∧ k_ ≠ gb250) (.slice Ao16 y240.length co16) y240) := ⟨(by rw [hw]; exact (by (with_reducible repeat (first | apply Kd.N_alloc | apply Kd.N_drewN | apply Kd.N_drew)); exact Kd.N_mono (Kd.N_far (p := ⟨gb250, 1, none⟩) (Kd.N_mono HO242.out (fun k_ hk => (⟨hk, hk.1.1.2⟩ : _ ∧ k_ ≠ gb250))) (fun _ hk => hk.2) (.slice Ao27 y254.length co27)) (fun _ hk => ⟨hk.1.1.1.1.1.1.2, ⟨hk.1.1.1.1.1.2, ⟨hk.1.1.2, ⟨hk.1.2, ⟨hk.1.1.1.1.2, hk.1.1.1.2⟩⟩⟩⟩⟩)))⟩; have n2_ : Aside0 (Kd.R (Kd.int .i64) 3 w29 w.heap.size (fun k_ => some k_ ≠ (.slice Ao24 y251.length co24 : Value).ownBlock) (.slice Ao12 y243.length co12) y243) := ⟨(by rw [hw]; exact (by (with_reducible repeat (first | apply rA | apply rN | apply rD)); exact rM (Kd.R_far (p := ⟨gb250, 1, none⟩) (Kd.R_types HO245.out BK250.out (by decide)) (fun _ hk => hk.2) (.slice Ao27 y254.length co27)) (fun _ hk => hk.1.2)))⟩; have n3_ : Aside0 (Kd.N k45 45 w29 w.heap.size (fun k_ => some k_ ≠ (.slice Ao7 y237.length co7 : Value).ownBlock ∧ some k_ ≠ (.slice Ao16 y240.length co16 : Value).ownBlock ∧ some k_ ≠ (.slice Ao24 y251.length co24 : Value).ownBlock ∧ some k_ ≠ (.slice Ao27 y254.length co27 : Value).ownBlock ∧ k_ ≠ gb249 ∧ k_ ≠ gb250) (.slice Ao15 y246.length co15) y246) := ⟨(by rw [hw]; exact (by (with_reducible repeat (first | apply Kd.N_alloc | apply Kd.N_drewN | apply Kd.N_drew)); exact Kd.N_mono (Kd.N_far (p := ⟨gb250, 1, none⟩) (Kd.N_mono HO248.out (fun k_ hk => (⟨hk, hk.1.1.2⟩ : _ ∧ k_ ≠ gb250))) (fun _ hk => hk.2) (.slice Ao27 y254.length co27)) (fun _ hk => ⟨hk.1.1.1.1.1.1, ⟨hk.1.1.1.1.1.2, ⟨hk.1.1.2, ⟨hk.1.2, ⟨hk.1.1.1.1.2, hk.1.1.1.2⟩⟩⟩⟩⟩)))⟩; have n4_ : Aside0 (Kd.R (Kd.int .i64) 3 w29 w.heap.size (fun k_ => some k_ ≠ (.slice Ao12 y243.length co12 : Value).ownBlock) (.slice Ao24 y251.length co24) y251) := ⟨(by rw [hw]; exact (by (with_reducible repeat (first | apply rA | apply rN | apply rD)); exact rM (Kd.R_far (p := ⟨gb250, 1, none⟩) (Kd.R_types HO253.out BK250.out (by decide)) (fun _ hk => hk.2) (.slice Ao27 y254.length co27)) (fun _ hk => hk.1.2)))⟩; have n5_ : Aside0 (Kd.N k45 45 w29 w.heap.size (fun k_ => some k_ ≠ (.slice Ao7 y237.length co7 : Value).ownBlock ∧ some k_ ≠ (.slice Ao16 y240.length co16 : Value).ownBlock ∧ some k_ ≠ (.slice Ao12 y243.length co12 : Value).ownBlock ∧ some k_ ≠ (.slice Ao15 y246.length co15 : Value).ownBlock ∧ k_ ≠ gb249 ∧ k_ ≠ gb250) (.slice Ao27 y254.length co27) y254) := ⟨(by rw [hw]; exact (by (with_reducible repeat (first | apply Kd.N_alloc | apply Kd.N_drewN | apply Kd.N_drew)); exact Kd.N_mono (Kd.N_far (p := ⟨gb250, 1, none⟩) (Kd.N_mono HO256.out (fun k_ hk => (⟨hk, hk.2.2.2.2.2⟩ : _ ∧ k_ ≠ gb250))) (fun _ hk => hk.2) (.slice Ao27 y254.length co27)) (fun _ hk => ⟨hk.1.1, ⟨hk.1.2.1, ⟨hk.1.2.2.1, ⟨hk.1.2.2.2.1, ⟨hk.1.2.2.2.2.1, hk.1.2.2.2.2.2⟩⟩⟩⟩⟩)))⟩; have n6_ : Aside0 (w29.heap[gb249]? = some (.cells #[.slice Ao16 y240.length co16, .slice Ao15 y246.length co15, .slice none 0 0] 26 (0, 0))) := ⟨(by rw [hw]; exact (by (with_reducible repeat (first | refine kN ?_ _ | refine kD ?_ | refine kA ?_ _)); refine blk_far ?_ NB249_250.out _; (with_reducible repeat (first | refine kN ?_ _ | refine kD ?_ | refine kA ?_ _)); exact BK249.out))⟩; have n7_ : Aside0 (w29.heap[gb250]? = some (.cells #[.slice Ao16 y240.length co16, .slice Ao27 y254.length co27, .slice none 0 0] 26 (0, 0))) := ⟨(by rw [hw]; exact (by (with_reducible repeat (first | refine kN ?_ _ | refine kD ?_ | refine kA ?_ _)); refine kP (cs := #[.slice Ao16 y240.length co16, .slice Ao15 y246.length co15, .slice none 0 0]) ?_ 1 _ rfl; (with_reducible repeat (first | refine kN ?_ _ | refine kD ?_ | refine kA ?_ _)); exact BK250.out))⟩; have n8_ : Aside0 (Below w.heap.size w w29) := ⟨(by rw [hw]; exact (bl))⟩; clear hw HO239 HO242 HO245 HO248 HO253 HO256 BK249 BK250 HB; have HO239 := n0_; have HO242 := n1_; have HO245 := n2_; have HO248 := n3_; have HO253 := n4_; have HO256 := n5_; have BK249 := n6_; have BK250 := n7_; have HB := n8_; clear n0_ n1_ n2_ n3_ n4_ n5_ n6_ n7_ n8_; obtain ⟨hcz30_0, hcz30_1, hcz30_2, hfz30_0, hfz30_1, hfz30_2⟩ := bc3 BK250) | ((with_reducible refine gate_callee (f := 15) rfl ?_); refine gL (some 23) Try.func15 #[.agg #[.slice Ao16 y240.length co16, .slice Ao27 y254.length co27, .slice none 0 0], .int .i64 1] ?_; (refine (data_Way.calls _ _ y240 (fun k_ => (some k_ ≠ (.slice Ao7 y237.length co7 : Value).ownBlock ∧ (some k_ ≠ (.slice Ao16 y240.length co16 : Value).ownBlock ∧ (some k_ ≠ (.slice Ao12 y243.length co12 : Value).ownBlock ∧ (some k_ ≠ (.slice Ao15 y246.length co15 : Value).ownBlock ∧ (k_ ≠ gb249 ∧ k_ ≠ gb250)))))) _ _ y254 _ _ ([] : List (S51)) 1 t257 t258 t261 t264 _ ?side1 ?side2 ?side3 ?side4 ?side5 A1.out).mono ?_); (case side1 => repeat (first | exact (Kd.N_reads' HO242.out).2.2 | (with_reducible refine cA ?_ _) | (with_reducible refine cN ?_ _) | (with_reducible refine cD ?_))); (case side2 => exact (Kd.N_reads' HO242.out).2.1); (case side3 => exact Kd.N_V (HO256.out)); (case side4 => exact Kd.C_nil _ _); (case side5 => exact Nat.le_refl _); rintro e w31 ⟨v259, v262, rfl, ho0, ho1, hb⟩; refine ⟨_, rfl, ?_⟩; replace HO253 := aM (rB (rl HO253) hb); replace HO256 := aM (Kd.N_below (by (with_reducible repeat (first | apply Kd.N_alloc | apply Kd.N_drewN | apply Kd.N_drew)); exact HO256.out) hb); have HO260 := aM (Kd.V_lower (Kd.V_mono (ok' := fun k_ => some k_ ≠ (.slice Ao7 y237.length co7 : Value).ownBlock ∧ some k_ ≠ (.slice Ao16 y240.length co16 : Value).ownBlock ∧ some k_ ≠ (.slice Ao12 y243.length co12 : Value).ownBlock ∧ some k_ ≠ (.slice Ao15 y246.length co15 : Value).ownBlock ∧ k_ ≠ gb249 ∧ k_ ≠ gb250) ho0 (fun k_ hk_ => ⟨Or.elim hk_ (fun hs_ => hs_.1) (fun hn_ => (Kd.fresh' (Kd.R_lt (rl HO239)) k_ hn_)), Or.elim hk_ (fun hs_ => hs_.2.1) (fun hn_ => (Kd.fresh' (Kd.N_lt (by (with_reducible repeat (first | apply Kd.N_alloc | apply Kd.N_drewN | apply Kd.N_drew)); exact HO242.out)) k_ hn_)), Or.elim hk_ (fun hs_ => hs_.2.2.1) (fun hn_ => (Kd.fresh' (Kd.R_lt (rl HO245)) k_ hn_)), Or.elim hk_ (fun hs_ => hs_.2.2.2.1) (fun hn_ => (Kd.fresh' (Kd.N_lt (by (with_reducible repeat (first | apply Kd.N_alloc | apply Kd.N_drewN | apply Kd.N_drew)); exact HO248.out)) k_ hn_)), Or.elim hk_ (fun hs_ => hs_.2.2.2.2.1) (fun hn_ => (Kd.freshB (kl BK249) k_ hn_)), Or.elim hk_ (fun hs_ => hs_.2.2.2.2.2) (fun hn_ => (Kd.freshB (kl BK250) k_ hn_))⟩)) (below_size (bl))); have HO263 := aM (Kd.V_lower (Kd.V_mono (ok' := fun k_ => some k_ ≠ (.slice Ao7 y237.length co7 : Value).ownBlock ∧ some k_ ≠ (.slice Ao16 y240.length co16 : Value).ownBlock ∧ some k_ ≠ (.slice Ao12 y243.length co12 : Value).ownBlock ∧ some k_ ≠ (.slice Ao15 y246.length co15 : Value).ownBlock ∧ k_ ≠ gb249 ∧ k_ ≠ gb250) ho1 (fun k_ hk_ => ⟨Or.elim hk_ (fun hs_ => hs_.1) (fun hn_ => (Kd.fresh' (Kd.R_lt (rl HO239)) k_ hn_)), Or.elim hk_ (fun hs_ => hs_.2.1) (fun hn_ => (Kd.fresh' (Kd.N_lt (by (with_reducible repeat (first | apply Kd.N_alloc | apply Kd.N_drewN | apply Kd.N_drew)); exact HO242.out)) k_ hn_)), Or.elim hk_ (fun hs_ => hs_.2.2.1) (fun hn_ => (Kd.fresh' (Kd.R_lt (rl HO245)) k_ hn_)), Or.elim hk_ (fun hs_ => hs_.2.2.2.1) (fun hn_ => (Kd.fresh' (Kd.N_lt (by (with_reducible repeat (first | apply Kd.N_alloc | apply Kd.N_drewN | apply Kd.N_drew)); exact HO248.out)) k_ hn_)), Or.elim hk_ (fun hs_ => hs_.2.2.2.2.1) (fun hn_ => (Kd.freshB (kl BK249) k_ hn_)), Or.elim hk_ (fun hs_ => hs_.2.2.2.2.2) (fun hn_ => (Kd.freshB (kl BK250) k_ hn_))⟩)) (below_size (bl))); replace HO239 := aM (rB (rl HO239) hb); replace HO242 := aM (Kd.N_below (by (with_reducible repeat (first | apply Kd.N_alloc | apply Kd.N_drewN | apply Kd.N_drew)); exact HO242.out) hb); replace HO245 := aM (rB (rl HO245) hb); replace HO248 := aM (Kd.N_below (by (with_reducible repeat (first | apply Kd.N_alloc | apply Kd.N_drewN | apply Kd.N_drew)); exact HO248.out) hb); replace BK249 := aM (kB (kl BK249) hb); replace BK250 := aM (kB (kl BK250) hb); replace HB := aM (bS (bl) hb); (try clear hb); (try clear ho0); (try clear ho1)) | ((with_reducible refine gate_dst (N := 3) rfl ?_); (try (refine gate_guard (by rfl) ?_; dsimp only)); refine bx (N := 3) (cs := #[.int .i64 0, .slice none 0 0, .slice none 0 0]) (t := 45) ?_; intro gb265 hg w32 hbox hb; have n0_ := aM (rB (rl HO239) hb); have n1_ := aM (Kd.N_below (Kd.N_elderB (by (with_reducible repeat (first | apply Kd.N_alloc | apply Kd.N_drewN | apply Kd.N_drew)); exact HO242.out) gb265 (Nat.le_of_eq hg.symm)) hb); have n2_ := aM (rB (rl HO245) hb); have n3_ := aM (Kd.N_below (Kd.N_elderB (by (with_reducible repeat (first | apply Kd.N_alloc | apply Kd.N_drewN | apply Kd.N_drew)); exact HO248.out) gb265 (Nat.le_of_eq hg.symm)) hb); have n4_ := aM (rB (rl HO253) hb); have n5_ := aM (Kd.N_below (Kd.N_elderB (by (with_reducible repeat (first | apply Kd.N_alloc | apply Kd.N_drewN | apply Kd.N_drew)); exact HO256.out) gb265 (Nat.le_of_eq hg.symm)) hb); have n6_ := aM (Kd.V_below (Kd.V_elderB (by (with_reducible repeat (first | apply Kd.V_alloc | apply Kd.V_drewN | apply Kd.V_drew)); exact HO260.out) gb265 (Nat.le_of_eq hg.symm)) hb); have n7_ := aM (Kd.V_below (Kd.V_elderB (by (with_reducible repeat (first | apply Kd.V_alloc | apply Kd.V_drewN | apply Kd.V_drew)); exact HO263.out) gb265 (Nat.le_of_eq hg.symm)) hb); have n8_ := aM (kB (kl BK249) hb); have n9_ := aM (kB (kl BK250) hb); have n10_ := aM (bS (bl) hb); have n11_ := aM (hbox); have n13_ := aM (gw (w := w) hg); have n14_ := aM (nb BK249 hg); have n15_ := aM (nb BK249 hg).symm; have n16_ := aM (nb BK250 hg); have n17_ := aM (nb BK250 hg).symm; (try clear HO239); (try clear HO242); (try clear HO245); (try clear HO248); (try clear HO253); (try clear HO256); (try clear HO260); (try clear HO263); (try clear BK249); (try clear BK250); (try clear HB); have HO239 := n0_; have HO242 := n1_; have HO245 := n2_; have HO248 := n3_; have HO253 := n4_; have HO256 := n5_; have HO260 := n6_; have HO263 := n7_; have BK249 := n8_; have BK250 := n9_; have HB := n10_; have BK265 := n11_; have GE265 := n13_; have NB249_265 := n14_; have NB265_249 := n15_; have NB250_265 := n16_; have NB265_250 := n17_; clear n0_ n1_ n2_ n3_ n4_ n5_ n6_ n7_ n8_ n9_ n10_ n11_ n13_ n14_ n15_ n16_ n17_ hb hbox hg; have hnb33 := NB265_249.out; have hnc33 := NB249_265.out; have hnb34 := NB265_250.out; have hnc34 := NB250_265.out; obtain ⟨hcz35_0, hcz35_1, hcz35_2, hfz35_0, hfz35_1, hfz35_2⟩ := bc3 BK265; obtain ⟨Ao36, co36, eo36⟩ := Kd.V_slice HO260.out; subst eo36; obtain ⟨Ao37, co37, eo37⟩ := Kd.V_slice HO263.out; subst eo37; obtain ⟨hcz38_0, hcz38_1, hcz38_2, hfz38_0, hfz38_1, hfz38_2⟩ := bc3 BK250) | ((with_reducible refine gate_callee (f := 24) rfl ?_); refine gL (some 28) Try.func24 #[.agg #[.slice Ao16 y240.length co16, .slice Ao27 y254.length co27, .slice none 0 0], .agg #[.int .i64 1, .int .i64 1]] ?_; (refine (data_Users.calls k _ _ y240 _ _ y254 _ _ ([] : List (S51)) 1 1 t266 _ ?side1 ?side2 ?side3 ?side4 ?side5 ?side6 A2.out).mono ?_); (case side1 => refine (Kd.N_reads' (e := 39) (base := w.heap.size) (ok := fun k_ => ((some k_ ≠ (.slice Ao12 y243.length co12 : Value).ownBlock ∧ (some k_ ≠ (.slice Ao15 y246.length co15 : Value).ownBlock ∧ (some k_ ≠ (.slice Ao24 y251.length co24 : Value).ownBlock ∧ (some k_ ≠ (.slice Ao27 y254.length co27 : Value).ownBlock ∧ (k_ ≠ gb249 ∧ k_ ≠ gb250))))) ∧ k_ ≠ gb265)) (n := y240.length) (c := co16) ?_).2.2; exact (by (with_reducible repeat (first | apply Kd.N_alloc | apply Kd.N_drewN | apply Kd.N_drew)); exact (Kd.N_mono (Kd.N_far (p := ⟨gb265, 2, none⟩) (Kd.N_far (p := ⟨gb265, 1, none⟩) (Kd.N_far (p := ⟨gb265, 0, none⟩) (Kd.N_mono HO242.out (fun k_ hk => (⟨hk, hk.2⟩ : _ ∧ k_ ≠ gb265))) (fun _ hk => hk.2) (.int .i64 t257)) (fun _ hk => hk.2) (.slice Ao36 t258.length co36)) (fun _ hk => hk.2) (.slice Ao37 t261.length co37)) (fun _ h_ => h_.1)))); (case side2 => exact (Kd.N_reads' HO242.out).2.1); (case side3 => refine (Kd.N_reads' (e := 45) (base := w.heap.size) (ok := fun k_ => ((some k_ ≠ (.slice Ao7 y237.length co7 : Value).ownBlock ∧ (some k_ ≠ (.slice Ao16 y240.length co16 : Value).ownBlock ∧ (some k_ ≠ (.slice Ao12 y243.length co12 : Value).ownBlock ∧ (some k_ ≠ (.slice Ao15 y246.length co15 : Value).ownBlock ∧ (k_ ≠ gb249 ∧ k_ ≠ gb250))))) ∧ k_ ≠ gb265)) (n := y254.length) (c := co27) ?_).2.2; exact (by (with_reducible repeat (first | apply Kd.N_alloc | apply Kd.N_drewN | apply Kd.N_drew)); exact (Kd.N_mono (Kd.N_far (p := ⟨gb265, 2, none⟩) (Kd.N_far (p := ⟨gb265, 1, none⟩) (Kd.N_far (p := ⟨gb265, 0, none⟩) (Kd.N_mono HO256.out (fun k_ hk => (⟨hk, hk.2⟩ : _ ∧ k_ ≠ gb265))) (fun _ hk => hk.2) (.int .i64 t257)) (fun _ hk => hk.2) (.slice Ao36 t258.length co36)) (fun _ hk => hk.2) (.slice Ao37 t261.length co37)) (fun _ h_ => h_.1)))); (case side4 => exact (Kd.N_reads' HO256.out).2.1); (case side5 => exact Kd.C_nil _ _); (case side6 => exact Nat.le_refl _); rintro e w39 ⟨v267, rfl, ho0, hb⟩; refine ⟨_, rfl, ?_⟩; have HO268 := aM (Kd.R_lower ho0 (below_size (bl))); replace HO239 := aM (rB (by (with_reducible repeat (first | apply rA | apply rN | apply rD)); exact (rM (Kd.R_far (p := ⟨gb265, 2, none⟩) (Kd.R_far (p := ⟨gb265, 1, none⟩) (Kd.R_far (p := ⟨gb265, 0, none⟩) (Kd.R_types HO239.out BK265.out (by decide)) (fun _ hk => hk.2) (.int .i64 t257)) (fun _ hk => hk.2) (.slice Ao36 t258.length co36)) (fun _ hk => hk.2) (.slice Ao37 t261.length co37)) (fun _ h_ => h_.1))) hb); replace HO242 := aM (Kd.N_elder' (by (with_reducible repeat (first | apply Kd.N_alloc | apply Kd.N_drewN | apply Kd.N_drew)); exact (Kd.N_mono (Kd.N_far (p := ⟨gb265, 2, none⟩) (Kd.N_far (p := ⟨gb265, 1, none⟩) (Kd.N_far (p := ⟨gb265, 0, none⟩) (Kd.N_mono HO242.out (fun k_ hk => (⟨hk, hk.2⟩ : _ ∧ k_ ≠ gb265))) (fun _ hk => hk.2) (.int .i64 t257)) (fun _ hk => hk.2) (.slice Ao36 t258.length co36)) (fun _ hk => hk.2) (.slice Ao37 t261.length co37)) (fun _ h_ => h_.1))) (Kd.R_base ho0) hb); replace HO245 := aM (rB (by (with_reducible repeat (first | apply rA | apply rN | apply rD)); exact (rM (Kd.R_far (p := ⟨gb265, 2, none⟩) (Kd.R_far (p := ⟨gb265, 1, none⟩) (Kd.R_far (p := ⟨gb265, 0, none⟩) (Kd.R_types HO245.out BK265.out (by decide)) (fun _ hk => hk.2) (.int .i64 t257)) (fun _ hk => hk.2) (.slice Ao36 t258.length co36)) (fun _ hk => hk.2) (.slice Ao37 t261.length co37)) (fun _ h_ => h_.1))) hb); replace HO248 := aM (Kd.N_elder' (by (with_reducible repeat (first | apply Kd.N_alloc | apply Kd.N_drewN | apply Kd.N_drew)); exact (Kd.N_mono (Kd.N_far (p := ⟨gb265, 2, none⟩) (Kd.N_far (p := ⟨gb265, 1, none⟩) (Kd.N_far (p := ⟨gb265, 0, none⟩) (Kd.N_mono HO248.out (fun k_ hk => (⟨hk, hk.2⟩ : _ ∧ k_ ≠ gb265))) (fun _ hk => hk.2) (.int .i64 t257)) (fun _ hk => hk.2) (.slice Ao36 t258.length co36)) (fun _ hk => hk.2) (.slice Ao37 t261.length co37)) (fun _ h_ => h_.1))) (Kd.R_base ho0) hb); replace HO253 := aM (rB (by (with_reducible repeat (first | apply rA | apply rN | apply rD)); exact (rM (Kd.R_far (p := ⟨gb265, 2, none⟩) (Kd.R_far (p := ⟨gb265, 1, none⟩) (Kd.R_far (p := ⟨gb265, 0, none⟩) (Kd.R_types HO253.out BK265.out (by decide)) (fun _ hk => hk.2) (.int .i64 t257)) (fun _ hk => hk.2) (.slice Ao36 t258.length co36)) (fun _ hk => hk.2) (.slice Ao37 t261.length co37)) (fun _ h_ => h_.1))) hb); replace HO256 := aM (Kd.N_elder' (by (with_reducible repeat (first | apply Kd.N_alloc | apply Kd.N_drewN | apply Kd.N_drew)); exact (Kd.N_mono (Kd.N_far (p := ⟨gb265, 2, none⟩) (Kd.N_far (p := ⟨gb265, 1, none⟩) (Kd.N_far (p := ⟨gb265, 0, none⟩) (Kd.N_mono HO256.out (fun k_ hk => (⟨hk, hk.2⟩ : _ ∧ k_ ≠ gb265))) (fun _ hk => hk.2) (.int .i64 t257)) (fun _ hk => hk.2) (.slice Ao36 t258.length co36)) (fun _ hk => hk.2) (.slice Ao37 t261.length co37)) (fun _ h_ => h_.1))) (Kd.R_base ho0) hb); replace HO260 := aM (Kd.V_elder' (by (with_reducible repeat (first | apply Kd.V_alloc | apply Kd.V_drewN | apply Kd.V_drew)); exact (Kd.V_mono (Kd.V_far (p := ⟨gb265, 2, none⟩) (Kd.V_far (p := ⟨gb265, 1, none⟩) (Kd.V_far (p := ⟨gb265, 0, none⟩) (Kd.V_mono HO260.out (fun k_ hk => (⟨hk, hk.2⟩ : _ ∧ k_ ≠ gb265))) (fun _ hk => hk.2) (.int .i64 t257)) (fun _ hk => hk.2) (.slice Ao36 t258.length co36)) (fun _ hk => hk.2) (.slice Ao37 t261.length co37)) (fun _ h_ => h_.1))) (Kd.R_base ho0) hb); replace HO263 := aM (Kd.V_elder' (by (with_reducible repeat (first | apply Kd.V_alloc | apply Kd.V_drewN | apply Kd.V_drew)); exact (Kd.V_mono (Kd.V_far (p := ⟨gb265, 2, none⟩) (Kd.V_far (p := ⟨gb265, 1, none⟩) (Kd.V_far (p := ⟨gb265, 0, none⟩) (Kd.V_mono HO263.out (fun k_ hk => (⟨hk, hk.2⟩ : _ ∧ k_ ≠ gb265))) (fun _ hk => hk.2) (.int .i64 t257)) (fun _ hk => hk.2) (.slice Ao36 t258.length co36)) (fun _ hk => hk.2) (.slice Ao37 t261.length co37)) (fun _ h_ => h_.1))) (Kd.R_base ho0) hb); replace BK249 := aM (kB (g := gb249) (o := .cells #[.slice Ao16 y240.length co16, .slice Ao15 y246.length co15, .slice none 0 0] 26 (0, 0)) (by (with_reducible repeat (first | refine kN ?_ _ | refine kD ?_ | refine kA ?_ _)); refine blk_far ?_ NB249_265.out _; (with_reducible repeat (first | refine kN ?_ _ | refine kD ?_ | refine kA ?_ _)); refine blk_far ?_ NB249_265.out _; (with_reducible repeat (first | refine kN ?_ _ | refine kD ?_ | refine kA ?_ _)); refine blk_far ?_ NB249_265.out _; (with_reducible repeat (first | refine kN ?_ _ | refine kD ?_ | refine kA ?_ _)); exact BK249.out) hb); replace BK250 := aM (kB (g := gb250) (o := .cells #[.slice Ao16 y240.length co16, .slice Ao27 y254.length co27, .slice none 0 0] 26 (0, 0)) (by (with_reducible repeat (first | refine kN ?_ _ | refine kD ?_ | refine kA ?_ _)); refine blk_far ?_ NB250_265.out _; (with_reducible repeat (first | refine kN ?_ _ | refine kD ?_ | refine kA ?_ _)); refine blk_far ?_ NB250_265.out _; (with_reducible repeat (first | refine kN ?_ _ | refine kD ?_ | refine kA ?_ _)); refine blk_far ?_ NB250_265.out _; (with_reducible repeat (first | refine kN ?_ _ | refine kD ?_ | refine kA ?_ _)); exact BK250.out) hb); replace BK265 := aM (kB (g := gb265) (o := .cells #[.int .i64 t257, .slice Ao36 t258.length co36, .slice Ao37 t261.length co37] 45 (0, 0)) (by (with_reducible repeat (first | refine kN ?_ _ | refine kD ?_ | refine kA ?_ _)); refine kP (cs := #[.int .i64 t257, .slice Ao36 t258.length co36, .slice none 0 0]) ?_ 2 _ rfl; (with_reducible repeat (first | refine kN ?_ _ | refine kD ?_ | refine kA ?_ _)); refine kP (cs := #[.int .i64 t257, .slice none 0 0, .slice none 0 0]) ?_ 1 _ rfl; (with_reducible repeat (first | refine kN ?_ _ | refine kD ?_ | refine kA ?_ _)); refine kP (cs := #[.int .i64 0, .slice none 0 0, .slice none 0 0]) ?_ 0 _ rfl; (with_reducible repeat (first | refine kN ?_ _ | refine kD ?_ | refine kA ?_ _)); exact BK265.out) hb); replace HB := aM (bS (bl) hb); (try clear hb); (try clear ho0); obtain ⟨hcz40_0, hcz40_1, hcz40_2, hfz40_0, hfz40_1, hfz40_2⟩ := bc3 BK250) | ((with_reducible refine gate_callee (f := 29) rfl ?_); refine gL (some 31) Try.func29 #[.agg #[.slice Ao16 y240.length co16, .slice Ao27 y254.length co27, .slice none 0 0], .agg #[.int .i64 1, .int .i64 1]] ?_; (refine (data_Tags.calls (fun k_ => (((some k_ ≠ (.slice Ao12 y243.length co12 : Value).ownBlock ∧ (some k_ ≠ (.slice Ao15 y246.length co15 : Value).ownBlock ∧ (some k_ ≠ (.slice Ao24 y251.length co24 : Value).ownBlock ∧ (some k_ ≠ (.slice Ao27 y254.length co27 : Value).ownBlock ∧ (k_ ≠ gb249 ∧ k_ ≠ gb250))))) ∧ k_ ≠ gb265) ∧ some k_ ≠ (v267 : Value).ownBlock)) _ _ y240 (fun k_ => (((some k_ ≠ (.slice Ao7 y237.length co7 : Value).ownBlock ∧ (some k_ ≠ (.slice Ao16 y240.length co16 : Value).ownBlock ∧ (some k_ ≠ (.slice Ao12 y243.length co12 : Value).ownBlock ∧ (some k_ ≠ (.slice Ao15 y246.length co15 : Value).ownBlock ∧ (k_ ≠ gb249 ∧ k_ ≠ gb250))))) ∧ k_ ≠ gb265) ∧ some k_ ≠ (v267 : Value).ownBlock)) _ _ y254 (fun k_ => False) _ _ ([] : List (S51)) 1 1 t269 _ ?side1 ?side2 ?side3 A3.out).mono ?_); (case side1 => exact Kd.N_V (HO242.out)); (case side2 => exact Kd.N_V (HO256.out)); (case side3 => exact Kd.V_nil _ _ _ _ _); rintro e w41 ⟨v270, rfl, ho0, hb⟩; refine ⟨_, rfl, ?_⟩; replace HO239 := aM (rB (rl HO239) hb); replace HO242 := aM (Kd.N_below (by (with_reducible repeat (first | apply Kd.N_alloc | apply Kd.N_drewN | apply Kd.N_drew)); exact HO242.out) hb); replace HO253 := aM (rB (rl HO253) hb); replace HO256 := aM (Kd.N_below (by (with_reducible repeat (first | apply Kd.N_alloc | apply Kd.N_drewN | apply Kd.N_drew)); exact HO256.out) hb); replace HO260 := aM (Kd.V_below (by (with_reducible repeat (first | apply Kd.V_alloc | apply Kd.V_drewN | apply Kd.V_drew)); exact HO260.out) hb); replace HO263 := aM (Kd.V_below (by (with_reducible repeat (first | apply Kd.V_alloc | apply Kd.V_drewN | apply Kd.V_drew)); exact HO263.out) hb); have HO271 := aM (Kd.V_lower (Kd.V_mono (ok' := fun k_ => some k_ ≠ (.slice Ao12 y243.length co12 : Value).ownBlock ∧ some k_ ≠ (.slice Ao15 y246.length co15 : Value).ownBlock ∧ some k_ ≠ (v267 : Value).ownBlock ∧ k_ ≠ gb249 ∧ k_ ≠ gb250 ∧ k_ ≠ gb265) ho0 (fun k_ hk_ => ⟨Or.elim hk_ (fun hs_ => Or.elim hs_ (fun hs_ => hs_.1.1.1) (fun hs_ => Or.elim hs_ (fun hs_ => hs_.1.1.2.2.1) (fun hs_ => (hs_).elim))) (fun hn_ => (Kd.fresh' (Kd.R_lt (rl HO245)) k_ hn_)), Or.elim hk_ (fun hs_ => Or.elim hs_ (fun hs_ => hs_.1.1.2.1) (fun hs_ => Or.elim hs_ (fun hs_ => hs_.1.1.2.2.2.1) (fun hs_ => (hs_).elim))) (fun hn_ => (Kd.fresh' (Kd.N_lt (by (with_reducible repeat (first | apply Kd.N_alloc | apply Kd.N_drewN | apply Kd.N_drew)); exact HO248.out)) k_ hn_)), Or.elim hk_ (fun hs_ => Or.elim hs_ (fun hs_ => hs_.2) (fun hs_ => Or.elim hs_ (fun hs_ => hs_.2) (fun hs_ => (hs_).elim))) (fun hn_ => (Kd.fresh' (Kd.R_lt (rl HO268)) k_ hn_)), Or.elim hk_ (fun hs_ => Or.elim hs_ (fun hs_ => hs_.1.1.2.2.2.2.1) (fun hs_ => Or.elim hs_ (fun hs_ => hs_.1.1.2.2.2.2.1) (fun hs_ => (hs_).elim))) (fun hn_ => (Kd.freshB (kl BK249) k_ hn_)), Or.elim hk_ (fun hs_ => Or.elim hs_ (fun hs_ => hs_.1.1.2.2.2.2.2) (fun hs_ => Or.elim hs_ (fun hs_ => hs_.1.1.2.2.2.2.2) (fun hs_ => (hs_).elim))) (fun hn_ => (Kd.freshB (kl BK250) k_ hn_)), Or.elim hk_ (fun hs_ => Or.elim hs_ (fun hs_ => hs_.1.2) (fun hs_ => Or.elim hs_ (fun hs_ => hs_.1.2) (fun hs_ => (hs_).elim))) (fun hn_ => (Kd.freshB (kl BK265) k_ hn_))⟩)) (below_size (bl))); replace HO245 := aM (rB (rl HO245) hb); replace HO248 := aM (Kd.N_below (by (with_reducible repeat (first | apply Kd.N_alloc | apply Kd.N_drewN | apply Kd.N_drew)); exact HO248.out) hb); replace HO268 := aM (rB (rl HO268) hb); replace BK249 := aM (kB (kl BK249) hb); replace BK250 := aM (kB (kl BK250) hb); replace BK265 := aM (kB (kl BK265) hb); replace HB := aM (bS (bl) hb); (try clear hb); (try clear ho0)))
 (try simp only [Act.put, sA, sB, sC])
 go_cut [55] (fun v55 wc => ∃ (kq : Nat) (x55_3 : Bool), v55 = .bool x55_3 ∧ Aside0 (mapmakerlaw14_livesG.j0 kq t266 t269 x55_3 y240 y246 y240 y254 = some r) ∧ Aside0 (kq ≤ k) ∧ Aside0 (Kd.R k34 34 wc w.heap.size (fun _ => True) v267 t266) ∧ Aside0 (Kd.V k70 70 wc w.heap.size (fun k_ => some k_ ≠ (v267 : Value).ownBlock ∧ some k_ ≠ ((.slice Ao15 y246.length co15) : Value).ownBlock ∧ k_ ≠ gb249 ∧ k_ ≠ gb250 ∧ k_ ≠ gb265) v270 t269) ∧ Aside0 (Kd.N k39 39 wc w.heap.size (fun k_ => some k_ ≠ (v267 : Value).ownBlock ∧ some k_ ≠ ((.slice Ao15 y246.length co15) : Value).ownBlock ∧ some k_ ≠ ((.slice Ao27 y254.length co27) : Value).ownBlock ∧ k_ ≠ gb249 ∧ k_ ≠ gb250 ∧ k_ ≠ gb265) (.slice Ao16 y240.length co16) y240) ∧ Aside0 (Kd.N k45 45 wc w.heap.size (fun k_ => some k_ ≠ (v267 : Value).ownBlock ∧ some k_ ≠ ((.slice Ao16 y240.length co16) : Value).ownBlock ∧ some k_ ≠ ((.slice Ao16 y240.length co16) : Value).ownBlock ∧ some k_ ≠ ((.slice Ao27 y254.length co27) : Value).ownBlock ∧ k_ ≠ gb249 ∧ k_ ≠ gb250 ∧ k_ ≠ gb265) (.slice Ao15 y246.length co15) y246) ∧ Aside0 (Kd.N k39 39 wc w.heap.size (fun k_ => some k_ ≠ (v267 : Value).ownBlock ∧ some k_ ≠ ((.slice Ao15 y246.length co15) : Value).ownBlock ∧ some k_ ≠ ((.slice Ao27 y254.length co27) : Value).ownBlock ∧ k_ ≠ gb249 ∧ k_ ≠ gb250 ∧ k_ ≠ gb265) (.slice Ao16 y240.length co16) y240) ∧ Aside0 (Kd.N k45 45 wc w.heap.size (fun k_ => some k_ ≠ (v267 : Value).ownBlock ∧ some k_ ≠ ((.slice Ao16 y240.length co16) : Value).ownBlock ∧ some k_ ≠ ((.slice Ao15 y246.length co15) : Value).ownBlock ∧ some k_ ≠ ((.slice Ao16 y240.length co16) : Value).ownBlock ∧ k_ ≠ gb249 ∧ k_ ≠ gb250 ∧ k_ ≠ gb265) (.slice Ao27 y254.length co27) y254) ∧ Aside0 (wc.heap[gb249]? = some (.cells #[(.slice Ao16 y240.length co16), (.slice Ao15 y246.length co15), (.slice none 0 0)] 26 (0, 0))) ∧ Aside0 (wc.heap[gb250]? = some (.cells #[(.slice Ao16 y240.length co16), (.slice Ao27 y254.length co27), (.slice none 0 0)] 26 (0, 0))) ∧ Aside0 (Below w.heap.size w wc))
 case first =>
  have H := HC4.out
  clear HC4
  by_cases c42 : (t258.length : Int) = 3
  ·rw [if_pos c42] at H
   have c42b0 : ((t258.length : Int) == 3) = true := beq_iff_eq.mpr c42
   have c42b1 : ((t258.length : Int) != 3) = false := bne_eq_false_iff_eq.mpr c42
   clear c42
   (first | rw [c42b0] | (simp only [i64_w, i32_w]; rw [c42b0]) | skip)
   by_cases c43 : t264 = true
   ·subst c43
    have H1 : (if (t266.length : Int) = 1 then (if (t269.length : Int) = 1 then ((data_Refs.f k y240 y254 ([] : List (S51))).bind fun t272 => (mapmakerlaw14_livesG.j0 k t266 t269 ((t272.length : Int) != 3) y240 y246 y240 y254)) else (mapmakerlaw14_livesG.j0 k t266 t269 true y240 y246 y240 y254)) else (mapmakerlaw14_livesG.j0 k t266 t269 true y240 y246 y240 y254)) = some r := by rw [if_pos rfl] at H; exact H
    clear H
    have H := H1
    clear H1
    by_cases c44 : (t266.length : Int) = 1
    ·rw [if_pos c44] at H
     have c44b0 : ((t266.length : Int) == 1) = true := beq_iff_eq.mpr c44
     have c44b1 : ((t266.length : Int) != 1) = false := bne_eq_false_iff_eq.mpr c44
     clear c44
     by_cases c45 : (t269.length : Int) = 1
     ·rw [if_pos c45] at H
      have c45b0 : ((t269.length : Int) == 1) = true := beq_iff_eq.mpr c45
      have c45b1 : ((t269.length : Int) != 1) = false := bne_eq_false_iff_eq.mpr c45
      clear c45
      replace H := Option.bind_eq_some_iff.mp H
      obtain ⟨t272, A460, H⟩ := H
      try dsimp only at H
      have A46 := aM A460
      clear A460
      have H' := aM H
      clear H
      have hnb47 := NB265_249.out
      have hnc47 := NB249_265.out
      have hnb48 := NB265_250.out
      have hnc48 := NB250_265.out
      obtain ⟨hcz49_0, hcz49_1, hcz49_2, hfz49_0, hfz49_1, hfz49_2⟩ := bc3 BK265
      obtain ⟨Ao50, co50, eo50⟩ := Kd.R_slice HO268.out
      subst eo50
      obtain ⟨Ao51, co51, eo51⟩ := Kd.V_slice HO271.out
      subst eo51
      have hnb52 := NB250_249.out
      have hnc52 := NB249_250.out
      obtain ⟨hcz53_0, hcz53_1, hcz53_2, hfz53_0, hfz53_1, hfz53_2⟩ := bc3 BK250
      go_wp2_with (first | (go_at_call 26; (refine (data_Refs.calls k _ _ y240 _ _ y254 _ _ ([] : List (S51)) t272 _ ?side1 ?side2 ?side3 ?side4 ?side5 ?side6 A46.out).mono ?_); (case side1 => repeat (first | exact (Kd.N_reads' HO242.out).2.2 | (with_reducible refine cA ?_ _) | (with_reducible refine cN ?_ _) | (with_reducible refine cD ?_))); (case side2 => exact (Kd.N_reads' HO242.out).2.1); (case side3 => repeat (first | exact (Kd.N_reads' HO256.out).2.2 | (with_reducible refine cA ?_ _) | (with_reducible refine cN ?_ _) | (with_reducible refine cD ?_))); (case side4 => exact (Kd.N_reads' HO256.out).2.1); (case side5 => exact Kd.C_nil _ _); (case side6 => exact Nat.le_refl _); rintro e w54 ⟨v273, rfl, ho0, hb⟩; have HO274 := aM (Kd.R_lower (Kd.R_new' ho0 (Kd.R_lt (rl HO268))) (below_size (bl))); replace HO242 := aM (Kd.N_elder' (by (with_reducible repeat (first | apply Kd.N_alloc | apply Kd.N_drewN | apply Kd.N_drew)); exact HO242.out) (Kd.R_base ho0) hb); replace HO248 := aM (Kd.N_elder' (by (with_reducible repeat (first | apply Kd.N_alloc | apply Kd.N_drewN | apply Kd.N_drew)); exact HO248.out) (Kd.R_base ho0) hb); replace HO256 := aM (Kd.N_elder' (by (with_reducible repeat (first | apply Kd.N_alloc | apply Kd.N_drewN | apply Kd.N_drew)); exact HO256.out) (Kd.R_base ho0) hb); replace HO268 := aM (rE (rl HO268) (Kd.R_base ho0) hb); replace HO271 := aM (Kd.V_elder' (by (with_reducible repeat (first | apply Kd.V_alloc | apply Kd.V_drewN | apply Kd.V_drew)); exact HO271.out) (Kd.R_base ho0) hb); replace BK249 := aM (kB (kl BK249) hb); replace BK250 := aM (kB (kl BK250) hb); replace HB := aM (bS (bl) hb); clear HO239 HO245 HO253 HO260 HO263 BK265; (try clear hb); (try clear ho0); obtain ⟨Ao55, co55, eo55⟩ := Kd.R_slice HO274.out; subst eo55))
      go_meet
      case rel => exact ⟨_, (((t272.length : Int) != 3)), (by first | rfl | (simp; done) | (simp [*]; done)), H', ⟨by first | omega | exact Nat.le_refl _⟩, ⟨by (with_reducible repeat (first | apply rA | apply rN | apply rD)); exact rM HO268.out (fun _ hk => trivial)⟩, ⟨by (with_reducible repeat (first | apply Kd.V_alloc | apply Kd.V_drewN | apply Kd.V_drew)); exact Kd.V_mono HO271.out (fun _ hk => ⟨hk.1.2.2.1, ⟨hk.1.2.1, ⟨hk.1.2.2.2.1, ⟨hk.1.2.2.2.2.1, hk.1.2.2.2.2.2⟩⟩⟩⟩)⟩, ⟨by (with_reducible repeat (first | apply Kd.N_alloc | apply Kd.N_drewN | apply Kd.N_drew)); exact Kd.N_mono HO242.out (fun _ hk => ⟨hk.1.2, ⟨hk.1.1.1.2.1, ⟨hk.1.1.1.2.2.2.1, ⟨hk.1.1.1.2.2.2.2.1, ⟨hk.1.1.1.2.2.2.2.2, hk.1.1.2⟩⟩⟩⟩⟩)⟩, ⟨by (with_reducible repeat (first | apply Kd.N_alloc | apply Kd.N_drewN | apply Kd.N_drew)); exact Kd.N_mono HO248.out (fun _ hk => ⟨hk.1.2, ⟨hk.1.1.1.2.1, ⟨hk.1.1.1.2.1, ⟨hk.1.1.1.2.2.2.1, ⟨hk.1.1.1.2.2.2.2.1, ⟨hk.1.1.1.2.2.2.2.2, hk.1.1.2⟩⟩⟩⟩⟩⟩)⟩, ⟨by (with_reducible repeat (first | apply Kd.N_alloc | apply Kd.N_drewN | apply Kd.N_drew)); exact Kd.N_mono HO242.out (fun _ hk => ⟨hk.1.2, ⟨hk.1.1.1.2.1, ⟨hk.1.1.1.2.2.2.1, ⟨hk.1.1.1.2.2.2.2.1, ⟨hk.1.1.1.2.2.2.2.2, hk.1.1.2⟩⟩⟩⟩⟩)⟩, ⟨by (with_reducible repeat (first | apply Kd.N_alloc | apply Kd.N_drewN | apply Kd.N_drew)); exact Kd.N_mono HO256.out (fun _ hk => ⟨hk.1.2, ⟨hk.1.1.1.2.1, ⟨hk.1.1.1.2.2.2.1, ⟨hk.1.1.1.2.1, ⟨hk.1.1.1.2.2.2.2.1, ⟨hk.1.1.1.2.2.2.2.2, hk.1.1.2⟩⟩⟩⟩⟩⟩)⟩, ⟨by (with_reducible repeat (first | refine kN ?_ _ | refine kD ?_ | refine kA ?_ _)); exact BK249.out⟩, ⟨by (with_reducible repeat (first | refine kN ?_ _ | refine kD ?_ | refine kA ?_ _)); exact BK250.out⟩, ⟨bl⟩⟩
     ·rw [if_neg c45] at H
      have c45b0 : ((t269.length : Int) == 1) = false := beq_eq_false_iff_ne.mpr c45
      have c45b1 : ((t269.length : Int) != 1) = true := bne_iff_ne.mpr c45
      have H' := aM H
      clear H
      have hnb56 := NB265_249.out
      have hnc56 := NB249_265.out
      have hnb57 := NB265_250.out
      have hnc57 := NB250_265.out
      obtain ⟨hcz58_0, hcz58_1, hcz58_2, hfz58_0, hfz58_1, hfz58_2⟩ := bc3 BK265
      obtain ⟨Ao59, co59, eo59⟩ := Kd.R_slice HO268.out
      subst eo59
      obtain ⟨Ao60, co60, eo60⟩ := Kd.V_slice HO271.out
      subst eo60
      go_wp2
      go_meet
      case rel => exact ⟨_, (true), (by first | rfl | (simp; done) | (simp [*]; done)), H', ⟨by first | omega | exact Nat.le_refl _⟩, ⟨by (with_reducible repeat (first | apply rA | apply rN | apply rD)); exact HO268.out⟩, ⟨by (with_reducible repeat (first | apply Kd.V_alloc | apply Kd.V_drewN | apply Kd.V_drew)); exact Kd.V_mono HO271.out (fun _ hk => ⟨hk.2.2.1, ⟨hk.2.1, ⟨hk.2.2.2.1, ⟨hk.2.2.2.2.1, hk.2.2.2.2.2⟩⟩⟩⟩)⟩, ⟨by (with_reducible repeat (first | apply Kd.N_alloc | apply Kd.N_drewN | apply Kd.N_drew)); exact Kd.N_mono HO242.out (fun _ hk => ⟨hk.2, ⟨hk.1.1.2.1, ⟨hk.1.1.2.2.2.1, ⟨hk.1.1.2.2.2.2.1, ⟨hk.1.1.2.2.2.2.2, hk.1.2⟩⟩⟩⟩⟩)⟩, ⟨by (with_reducible repeat (first | apply Kd.N_alloc | apply Kd.N_drewN | apply Kd.N_drew)); exact Kd.N_mono HO248.out (fun _ hk => ⟨hk.2, ⟨hk.1.1.2.1, ⟨hk.1.1.2.1, ⟨hk.1.1.2.2.2.1, ⟨hk.1.1.2.2.2.2.1, ⟨hk.1.1.2.2.2.2.2, hk.1.2⟩⟩⟩⟩⟩⟩)⟩, ⟨by (with_reducible repeat (first | apply Kd.N_alloc | apply Kd.N_drewN | apply Kd.N_drew)); exact Kd.N_mono HO242.out (fun _ hk => ⟨hk.2, ⟨hk.1.1.2.1, ⟨hk.1.1.2.2.2.1, ⟨hk.1.1.2.2.2.2.1, ⟨hk.1.1.2.2.2.2.2, hk.1.2⟩⟩⟩⟩⟩)⟩, ⟨by (with_reducible repeat (first | apply Kd.N_alloc | apply Kd.N_drewN | apply Kd.N_drew)); exact Kd.N_mono HO256.out (fun _ hk => ⟨hk.2, ⟨hk.1.1.2.1, ⟨hk.1.1.2.2.2.1, ⟨hk.1.1.2.1, ⟨hk.1.1.2.2.2.2.1, ⟨hk.1.1.2.2.2.2.2, hk.1.2⟩⟩⟩⟩⟩⟩)⟩, ⟨by (with_reducible repeat (first | refine kN ?_ _ | refine kD ?_ | refine kA ?_ _)); exact BK249.out⟩, ⟨by (with_reducible repeat (first | refine kN ?_ _ | refine kD ?_ | refine kA ?_ _)); exact BK250.out⟩, ⟨bl⟩⟩
    ·rw [if_neg c44] at H
     have c44b0 : ((t266.length : Int) == 1) = false := beq_eq_false_iff_ne.mpr c44
     have c44b1 : ((t266.length : Int) != 1) = true := bne_iff_ne.mpr c44
     have H' := aM H
     clear H
     have hnb61 := NB265_249.out
     have hnc61 := NB249_265.out
     have hnb62 := NB265_250.out
     have hnc62 := NB250_265.out
     obtain ⟨hcz63_0, hcz63_1, hcz63_2, hfz63_0, hfz63_1, hfz63_2⟩ := bc3 BK265
     obtain ⟨Ao64, co64, eo64⟩ := Kd.R_slice HO268.out
     subst eo64
     go_wp2
     go_meet
     case rel => exact ⟨_, (true), (by first | rfl | (simp; done) | (simp [*]; done)), H', ⟨by first | omega | exact Nat.le_refl _⟩, ⟨by (with_reducible repeat (first | apply rA | apply rN | apply rD)); exact HO268.out⟩, ⟨by (with_reducible repeat (first | apply Kd.V_alloc | apply Kd.V_drewN | apply Kd.V_drew)); exact Kd.V_mono HO271.out (fun _ hk => ⟨hk.2.2.1, ⟨hk.2.1, ⟨hk.2.2.2.1, ⟨hk.2.2.2.2.1, hk.2.2.2.2.2⟩⟩⟩⟩)⟩, ⟨by (with_reducible repeat (first | apply Kd.N_alloc | apply Kd.N_drewN | apply Kd.N_drew)); exact Kd.N_mono HO242.out (fun _ hk => ⟨hk.2, ⟨hk.1.1.2.1, ⟨hk.1.1.2.2.2.1, ⟨hk.1.1.2.2.2.2.1, ⟨hk.1.1.2.2.2.2.2, hk.1.2⟩⟩⟩⟩⟩)⟩, ⟨by (with_reducible repeat (first | apply Kd.N_alloc | apply Kd.N_drewN | apply Kd.N_drew)); exact Kd.N_mono HO248.out (fun _ hk => ⟨hk.2, ⟨hk.1.1.2.1, ⟨hk.1.1.2.1, ⟨hk.1.1.2.2.2.1, ⟨hk.1.1.2.2.2.2.1, ⟨hk.1.1.2.2.2.2.2, hk.1.2⟩⟩⟩⟩⟩⟩)⟩, ⟨by (with_reducible repeat (first | apply Kd.N_alloc | apply Kd.N_drewN | apply Kd.N_drew)); exact Kd.N_mono HO242.out (fun _ hk => ⟨hk.2, ⟨hk.1.1.2.1, ⟨hk.1.1.2.2.2.1, ⟨hk.1.1.2.2.2.2.1, ⟨hk.1.1.2.2.2.2.2, hk.1.2⟩⟩⟩⟩⟩)⟩, ⟨by (with_reducible repeat (first | apply Kd.N_alloc | apply Kd.N_drewN | apply Kd.N_drew)); exact Kd.N_mono HO256.out (fun _ hk => ⟨hk.2, ⟨hk.1.1.2.1, ⟨hk.1.1.2.2.2.1, ⟨hk.1.1.2.1, ⟨hk.1.1.2.2.2.2.1, ⟨hk.1.1.2.2.2.2.2, hk.1.2⟩⟩⟩⟩⟩⟩)⟩, ⟨by (with_reducible repeat (first | refine kN ?_ _ | refine kD ?_ | refine kA ?_ _)); exact BK249.out⟩, ⟨by (with_reducible repeat (first | refine kN ?_ _ | refine kD ?_ | refine kA ?_ _)); exact BK250.out⟩, ⟨bl⟩⟩
   ·replace c43 := Bool.eq_false_iff.mpr c43
    subst c43
    have H1 : (mapmakerlaw14_livesG.j0 k t266 t269 true y240 y246 y240 y254) = some r := by rw [if_neg (show ¬ (false = true) by decide)] at H; exact H
    clear H
    have H := H1
    clear H1
    have H' := aM H
    clear H
    have hnb65 := NB265_249.out
    have hnc65 := NB249_265.out
    have hnb66 := NB265_250.out
    have hnc66 := NB250_265.out
    obtain ⟨hcz67_0, hcz67_1, hcz67_2, hfz67_0, hfz67_1, hfz67_2⟩ := bc3 BK265
    go_wp2
    go_meet
    case rel => exact ⟨_, (true), (by first | rfl | (simp; done) | (simp [*]; done)), H', ⟨by first | omega | exact Nat.le_refl _⟩, ⟨by (with_reducible repeat (first | apply rA | apply rN | apply rD)); exact HO268.out⟩, ⟨by (with_reducible repeat (first | apply Kd.V_alloc | apply Kd.V_drewN | apply Kd.V_drew)); exact Kd.V_mono HO271.out (fun _ hk => ⟨hk.2.2.1, ⟨hk.2.1, ⟨hk.2.2.2.1, ⟨hk.2.2.2.2.1, hk.2.2.2.2.2⟩⟩⟩⟩)⟩, ⟨by (with_reducible repeat (first | apply Kd.N_alloc | apply Kd.N_drewN | apply Kd.N_drew)); exact Kd.N_mono HO242.out (fun _ hk => ⟨hk.2, ⟨hk.1.1.2.1, ⟨hk.1.1.2.2.2.1, ⟨hk.1.1.2.2.2.2.1, ⟨hk.1.1.2.2.2.2.2, hk.1.2⟩⟩⟩⟩⟩)⟩, ⟨by (with_reducible repeat (first | apply Kd.N_alloc | apply Kd.N_drewN | apply Kd.N_drew)); exact Kd.N_mono HO248.out (fun _ hk => ⟨hk.2, ⟨hk.1.1.2.1, ⟨hk.1.1.2.1, ⟨hk.1.1.2.2.2.1, ⟨hk.1.1.2.2.2.2.1, ⟨hk.1.1.2.2.2.2.2, hk.1.2⟩⟩⟩⟩⟩⟩)⟩, ⟨by (with_reducible repeat (first | apply Kd.N_alloc | apply Kd.N_drewN | apply Kd.N_drew)); exact Kd.N_mono HO242.out (fun _ hk => ⟨hk.2, ⟨hk.1.1.2.1, ⟨hk.1.1.2.2.2.1, ⟨hk.1.1.2.2.2.2.1, ⟨hk.1.1.2.2.2.2.2, hk.1.2⟩⟩⟩⟩⟩)⟩, ⟨by (with_reducible repeat (first | apply Kd.N_alloc | apply Kd.N_drewN | apply Kd.N_drew)); exact Kd.N_mono HO256.out (fun _ hk => ⟨hk.2, ⟨hk.1.1.2.1, ⟨hk.1.1.2.2.2.1, ⟨hk.1.1.2.1, ⟨hk.1.1.2.2.2.2.1, ⟨hk.1.1.2.2.2.2.2, hk.1.2⟩⟩⟩⟩⟩⟩)⟩, ⟨by (with_reducible repeat (first | refine kN ?_ _ | refine kD ?_ | refine kA ?_ _)); exact BK249.out⟩, ⟨by (with_reducible repeat (first | refine kN ?_ _ | refine kD ?_ | refine kA ?_ _)); exact BK250.out⟩, ⟨bl⟩⟩
  ·rw [if_neg c42] at H
   have c42b0 : ((t258.length : Int) == 3) = false := beq_eq_false_iff_ne.mpr c42
   have c42b1 : ((t258.length : Int) != 3) = true := bne_iff_ne.mpr c42
   (first | rw [c42b0] | (simp only [i64_w, i32_w]; rw [c42b0]) | skip)
   have H' := aM H
   clear H
   have hnb68 := NB265_249.out
   have hnc68 := NB249_265.out
   have hnb69 := NB265_250.out
   have hnc69 := NB250_265.out
   obtain ⟨hcz70_0, hcz70_1, hcz70_2, hfz70_0, hfz70_1, hfz70_2⟩ := bc3 BK265
   go_wp2
   go_meet
   case rel => exact ⟨_, (true), (by first | rfl | (simp; done) | (simp [*]; done)), H', ⟨by first | omega | exact Nat.le_refl _⟩, ⟨by (with_reducible repeat (first | apply rA | apply rN | apply rD)); exact HO268.out⟩, ⟨by (with_reducible repeat (first | apply Kd.V_alloc | apply Kd.V_drewN | apply Kd.V_drew)); exact Kd.V_mono HO271.out (fun _ hk => ⟨hk.2.2.1, ⟨hk.2.1, ⟨hk.2.2.2.1, ⟨hk.2.2.2.2.1, hk.2.2.2.2.2⟩⟩⟩⟩)⟩, ⟨by (with_reducible repeat (first | apply Kd.N_alloc | apply Kd.N_drewN | apply Kd.N_drew)); exact Kd.N_mono HO242.out (fun _ hk => ⟨hk.2, ⟨hk.1.1.2.1, ⟨hk.1.1.2.2.2.1, ⟨hk.1.1.2.2.2.2.1, ⟨hk.1.1.2.2.2.2.2, hk.1.2⟩⟩⟩⟩⟩)⟩, ⟨by (with_reducible repeat (first | apply Kd.N_alloc | apply Kd.N_drewN | apply Kd.N_drew)); exact Kd.N_mono HO248.out (fun _ hk => ⟨hk.2, ⟨hk.1.1.2.1, ⟨hk.1.1.2.1, ⟨hk.1.1.2.2.2.1, ⟨hk.1.1.2.2.2.2.1, ⟨hk.1.1.2.2.2.2.2, hk.1.2⟩⟩⟩⟩⟩⟩)⟩, ⟨by (with_reducible repeat (first | apply Kd.N_alloc | apply Kd.N_drewN | apply Kd.N_drew)); exact Kd.N_mono HO242.out (fun _ hk => ⟨hk.2, ⟨hk.1.1.2.1, ⟨hk.1.1.2.2.2.1, ⟨hk.1.1.2.2.2.2.1, ⟨hk.1.1.2.2.2.2.2, hk.1.2⟩⟩⟩⟩⟩)⟩, ⟨by (with_reducible repeat (first | apply Kd.N_alloc | apply Kd.N_drewN | apply Kd.N_drew)); exact Kd.N_mono HO256.out (fun _ hk => ⟨hk.2, ⟨hk.1.1.2.1, ⟨hk.1.1.2.2.2.1, ⟨hk.1.1.2.1, ⟨hk.1.1.2.2.2.2.1, ⟨hk.1.1.2.2.2.2.2, hk.1.2⟩⟩⟩⟩⟩⟩)⟩, ⟨by (with_reducible repeat (first | refine kN ?_ _ | refine kD ?_ | refine kA ?_ _)); exact BK249.out⟩, ⟨by (with_reducible repeat (first | refine kN ?_ _ | refine kD ?_ | refine kA ?_ _)); exact BK250.out⟩, ⟨bl⟩⟩
 case rest =>
  clear HC4
  try clear c1
  try clear c2
  try clear p2
  try clear c3
  try clear c4
  try clear c5
  try clear c6
  try clear c9
  try clear c15
  try clear c20
  try clear c24
  try clear c29
  try clear c33
  try clear c34
  try clear c42
  try clear c42b0
  try clear c42b1
  try clear c43
  try clear c44
  try clear c44b0
  try clear c44b1
  try clear c45
  try clear c45b0
  try clear c45b1
  try clear c47
  try clear c48
  try clear c52
  try clear c56
  try clear c57
  try clear c61
  try clear c62
  try clear c65
  try clear c66
  try clear c68
  try clear c69
  try clear hcz18_0 hcz18_1 hcz18_2 hfz18_0 hfz18_1 hfz18_2
  try clear hcz21_0 hcz21_1 hcz21_2 hfz21_0 hfz21_1 hfz21_2
  try clear hcz28_0 hcz28_1 hcz28_2 hfz28_0 hfz28_1 hfz28_2
  try clear hcz30_0 hcz30_1 hcz30_2 hfz30_0 hfz30_1 hfz30_2
  try clear hcz35_0 hcz35_1 hcz35_2 hfz35_0 hfz35_1 hfz35_2
  try clear hcz38_0 hcz38_1 hcz38_2 hfz38_0 hfz38_1 hfz38_2
  try clear hcz40_0 hcz40_1 hcz40_2 hfz40_0 hfz40_1 hfz40_2
  try clear hcz49_0 hcz49_1 hcz49_2 hfz49_0 hfz49_1 hfz49_2
  try clear hcz53_0 hcz53_1 hcz53_2 hfz53_0 hfz53_1 hfz53_2
  try clear hcz58_0 hcz58_1 hcz58_2 hfz58_0 hfz58_1 hfz58_2
  try clear hcz63_0 hcz63_1 hcz63_2 hfz63_0 hfz63_1 hfz63_2
  try clear hcz67_0 hcz67_1 hcz67_2 hfz67_0 hfz67_1 hfz67_2
  try clear hcz70_0 hcz70_1 hcz70_2 hfz70_0 hfz70_1 hfz70_2
  obtain ⟨kq, x55_3, rfl, HA, HJ3, HO_5, HO_6, HO_250000, HO_250001, HO_251000, HO_251001, BK249, BK250, HB⟩ := hcut
  cases kq with
  | zero => exact absurd HA.out (by simp [mapmakerlaw14_livesG.j0])
  | succ kj3 =>
   have H := HA.out
   clear HA
   simp only [mapmakerlaw14_livesG.j0] at H
   by_cases c71 : x55_3 = true
   ·subst c71
    have H1 : (some false) = some r := by rw [if_pos rfl] at H; exact H
    clear H
    have H := H1
    clear H1
    obtain rfl := Option.some.inj H
    cases hT
   ·replace c71 := Bool.eq_false_iff.mpr c71
    subst c71
    have H1 : ((data_Check.f kj3 y240 y246 ([] : List (S51))).bind fun t275 => (if t275 = 9 then ((data_Check.f kj3 y240 y254 ([] : List (S51))).bind fun t276 => (if t276 = 0 then (if 0 < (t266.length : Int) then (if (((rd_T34 t266 0).f0) == 2 && (((rd_T34 t266 0).f1) == 1)) = true then (if 0 < (t269.length : Int) then (if ((rd_T70 t269 0).f1).toList = ([98] : List UInt8) then ((data_Has.f kj3 y240 y254 ([] : List (S51)) ((rd_T34 t266 0).f0) ((rd_T34 t266 0).f1)).bind fun t280 => (if t280 = true then ((data_Has.f kj3 y240 y254 ([] : List (S51)) 3 1).bind fun t281 => (if t281 = true then (some false) else ((data_Same.f kj3 y240 y254 ([] : List (S51)) y240 y254 ([] : List (S51))).bind fun t282 => (if t282 = true then ((data_Same.f kj3 y240 y246 ([] : List (S51)) y240 y254 ([] : List (S51))).bind fun t283 => (some (!t283))) else (some false))))) else (some false))) else (some false)) else (none)) else (some false)) else (none)) else (some false))) else (some false))) = some r := by rw [if_neg (show ¬ (false = true) by decide)] at H; exact H
    clear H
    have H := H1
    clear H1
    replace H := Option.bind_eq_some_iff.mp H
    obtain ⟨t275, A720, H⟩ := H
    try dsimp only at H
    have A72 := aM A720
    clear A720
    by_cases c73 : t275 = 9
    ·rw [if_pos c73] at H
     have c73b0 : (t275 == 9) = true := beq_iff_eq.mpr c73
     have c73b1 : (t275 != 9) = false := bne_eq_false_iff_eq.mpr c73
     clear c73
     replace H := Option.bind_eq_some_iff.mp H
     obtain ⟨t276, A740, H⟩ := H
     try dsimp only at H
     have A74 := aM A740
     clear A740
     by_cases c75 : t276 = 0
     ·rw [if_pos c75] at H
      have c75b0 : (t276 == 0) = true := beq_iff_eq.mpr c75
      have c75b1 : (t276 != 0) = false := bne_eq_false_iff_eq.mpr c75
      clear c75
      by_cases c76 : 0 < (t266.length : Int)
      ·rw [if_pos c76] at H
       have c76b0 : decide (0 < (t266.length : Int)) = true := decide_eq_true c76
       have c76b1 : decide (0 < t266.length) = true := decide_eq_true (by omega)
       clear c76
       by_cases c77 : (((rd_T34 t266 0).f0) == 2 && (((rd_T34 t266 0).f1) == 1)) = true
       ·rw [if_pos c77] at H
        have c77b0 : (((rd_T34 t266 0).f0) == 2 && (((rd_T34 t266 0).f1) == 1)) = true := c77
        (try (have c77b1 : decide (((rd_T34 t266 0).f0) = 2 && (((rd_T34 t266 0).f1) == 1)) = true := by simpa using c77))
        (try (have c77b2 : (((rd_T34 t266 0).f0) == 2 && (((rd_T34 t266 0).f1) == 1)) = true := by simpa using c77))
        clear c77
        by_cases c78 : 0 < (t269.length : Int)
        ·rw [if_pos c78] at H
         have c78b0 : decide (0 < (t269.length : Int)) = true := decide_eq_true c78
         have c78b1 : decide (0 < t269.length) = true := decide_eq_true (by omega)
         clear c78
         by_cases c79 : ((rd_T70 t269 0).f1).toList = ([98] : List UInt8)
         ·rw [if_pos c79] at H
          have c79b0 : (((rd_T70 t269 0).f1).toList == ([98] : List UInt8)) = true := beq_iff_eq.mpr c79
          have c79b1 : (((rd_T70 t269 0).f1).toList != ([98] : List UInt8)) = false := bne_eq_false_iff_eq.mpr c79
          clear c79
          replace H := Option.bind_eq_some_iff.mp H
          obtain ⟨t280, A800, H⟩ := H
          try dsimp only at H
          have A80 := aM A800
          clear A800
          by_cases c81 : t280 = true
          ·subst c81
           have H1 : ((data_Has.f kj3 y240 y254 ([] : List (S51)) 3 1).bind fun t281 => (if t281 = true then (some false) else ((data_Same.f kj3 y240 y254 ([] : List (S51)) y240 y254 ([] : List (S51))).bind fun t282 => (if t282 = true then ((data_Same.f kj3 y240 y246 ([] : List (S51)) y240 y254 ([] : List (S51))).bind fun t283 => (some (!t283))) else (some false))))) = some r := by rw [if_pos rfl] at H; exact H
           clear H
           have H := H1
           clear H1
           replace H := Option.bind_eq_some_iff.mp H
           obtain ⟨t281, A820, H⟩ := H
           try dsimp only at H
           have A82 := aM A820
           clear A820
           by_cases c83 : t281 = true
           ·subst c83
            have H1 : (some false) = some r := by rw [if_pos rfl] at H; exact H
            clear H
            have H := H1
            clear H1
            obtain rfl := Option.some.inj H
            cases hT
           ·replace c83 := Bool.eq_false_iff.mpr c83
            subst c83
            have H1 : ((data_Same.f kj3 y240 y254 ([] : List (S51)) y240 y254 ([] : List (S51))).bind fun t282 => (if t282 = true then ((data_Same.f kj3 y240 y246 ([] : List (S51)) y240 y254 ([] : List (S51))).bind fun t283 => (some (!t283))) else (some false))) = some r := by rw [if_neg (show ¬ (false = true) by decide)] at H; exact H
            clear H
            have H := H1
            clear H1
            replace H := Option.bind_eq_some_iff.mp H
            obtain ⟨t282, A910, H⟩ := H
            try dsimp only at H
            have A91 := aM A910
            clear A910
            by_cases c92 : t282 = true
            ·subst c92
             have H1 : ((data_Same.f kj3 y240 y246 ([] : List (S51)) y240 y254 ([] : List (S51))).bind fun t283 => (some (!t283))) = some r := by rw [if_pos rfl] at H; exact H
             clear H
             have H := H1
             clear H1
             replace H := Option.bind_eq_some_iff.mp H
             obtain ⟨t283, A930, H⟩ := H
             try dsimp only at H
             have A93 := aM A930
             clear A930
             obtain rfl := Option.some.inj H
             try go_wp2
             replace HO_5 := aM (rD HO_5.out)
             replace HO_6 := aM (Kd.V_drew HO_6.out)
             replace HO_250000 := aM (Kd.N_drew HO_250000.out)
             replace HO_250001 := aM (Kd.N_drew HO_250001.out)
             replace HO_251000 := aM (Kd.N_drew HO_251000.out)
             replace HO_251001 := aM (Kd.N_drew HO_251001.out)
             replace BK249 := aM (kD BK249.out)
             replace BK250 := aM (kD BK250.out)
             replace HB := aM (bD HB.out)
             have p277 : 0 ≤ (0 : Int) := (by omega)
             have q277 : 0 < (t266.length : Int) := oT
             obtain ⟨AoZ, coZ, eoZ⟩ := Kd.R_slice HO_5.out
             subst eoZ
             obtain ⟨ad277, e277, hx277_0, hx277_1⟩ := at_T34 (rR HO_5.out).2.2 0 p277 q277
             cases e277
             have qi277 : (0 < t266.length) = True := eq_true (by omega)
             (try rw [show ((0 : Int)).toNat = 0 from rfl] at hx277_0)
             (try rw [show 0 * 2 = 0 from rfl] at hx277_0)
             (try rw [Addr.add_zero'] at hx277_0)
             (try rw [show ((0 : Int)).toNat = 0 from rfl] at hx277_1)
             (try rw [show 0 * 2 = 0 from rfl] at hx277_1)
             (try rw [Addr.add_zero'] at hx277_1)
             replace p277 := eq_true p277
             replace q277 := eq_true q277
             have p278 : 0 ≤ (0 : Int) := (by omega)
             have q278 : 0 < (t269.length : Int) := oT
             obtain ⟨AoY, coY, eoY⟩ := Kd.V_slice HO_6.out
             subst eoY
             obtain ⟨ad278, e278, hx278_0, hx278_1⟩ := at_T70 (Kd.V_reads' HO_6.out).2.2 0 p278 q278
             cases e278
             have qi278 : (0 < t269.length) = True := eq_true (by omega)
             (try rw [show ((0 : Int)).toNat = 0 from rfl] at hx278_0)
             (try rw [show 0 * 2 = 0 from rfl] at hx278_0)
             (try rw [Addr.add_zero'] at hx278_0)
             (try rw [show ((0 : Int)).toNat = 0 from rfl] at hx278_1)
             (try rw [show 0 * 2 = 0 from rfl] at hx278_1)
             (try rw [Addr.add_zero'] at hx278_1)
             replace p278 := eq_true p278
             replace q278 := eq_true q278
             have p279 : 0 ≤ (0 : Int) := (by omega)
             have q279 : 0 < (t266.length : Int) := oT
             obtain ⟨ad279, e279, hx279_0, hx279_1⟩ := at_T34 (rR HO_5.out).2.2 0 p279 q279
             obtain rfl : ad277 = ad279 := (by injection e279)
             have qi279 : (0 < t266.length) = True := eq_true (by omega)
             (try rw [show ((0 : Int)).toNat = 0 from rfl] at hx279_0)
             (try rw [show 0 * 2 = 0 from rfl] at hx279_0)
             (try rw [Addr.add_zero'] at hx279_0)
             (try rw [show ((0 : Int)).toNat = 0 from rfl] at hx279_1)
             (try rw [show 0 * 2 = 0 from rfl] at hx279_1)
             (try rw [Addr.add_zero'] at hx279_1)
             replace p279 := eq_true p279
             replace q279 := eq_true q279
             refine start_ (n := 47) (S := fun w' => w'.cell? ⟨gb249, 0, none⟩ = some (.slice Ao16 y240.length co16) ∧ w'.cell? ⟨gb249, 1, none⟩ = some (.slice Ao15 y246.length co15) ∧ w'.cell? ⟨gb249, 2, none⟩ = some (.slice none 0 0) ∧ w'.cell? ⟨gb250, 0, none⟩ = some (.slice Ao16 y240.length co16) ∧ w'.cell? ⟨gb250, 1, none⟩ = some (.slice Ao27 y254.length co27) ∧ w'.cell? ⟨gb250, 2, none⟩ = some (.slice none 0 0) ∧ w'.cell? ad277 = some (.int .i64 ((rd_T34 t266 0).f0)) ∧ w'.cell? ⟨ad277.block, ad277.off + 1, none⟩ = some (.int .i64 ((rd_T34 t266 0).f1)) ∧ w'.cell? ad278 = some (.string ((rd_T70 t269 0).f0)) ∧ w'.cell? ⟨ad278.block, ad278.off + 1, none⟩ = some (.string ((rd_T70 t269 0).f1)) ∧ w'.cell? ad277 = some (.int .i64 ((rd_T34 t266 0).f0)) ∧ w'.cell? ⟨ad277.block, ad277.off + 1, none⟩ = some (.int .i64 ((rd_T34 t266 0).f1))) (ds := []) #[false, false, false, false, false, false, false, false, false, false, false, false, false, false, false, false, false, false, false, false, false, false, false, false, false, false, false, false, false, false, false, false, false, false, false, false, false, false, false, false, false, false, false, false, false, false, false] (by kernel_rfl) rfl rfl ⟨(kC BK249.out 0).trans rfl, (kC BK249.out 1).trans rfl, (kC BK249.out 2).trans rfl, (kC BK250.out 0).trans rfl, (kC BK250.out 1).trans rfl, (kC BK250.out 2).trans rfl, hx277_0, hx277_1, hx278_0, hx278_1, hx279_0, hx279_1⟩ (fun hHeld => ?_); refine with_tabW mapmakerlaw14_livesG.tab9 mapmakerlaw14_livesG.bits9 (fun HT_ HW_ => ?_)
             generalize wc.drew = w94 at HO_5 HO_6 HO_250000 HO_250001 HO_251000 HO_251001 BK249 BK250 HB hx277_0 hx277_1 hx278_0 hx278_1 hx279_0 hx279_1 hHeld ⊢
             refine take_ (i := 0) (N := some 56) (v := ?_) (a' := ?_) (ba 47 1) rfl rfl (take_ofW HT_.out HW_.out (by kernel_rfl)) (fun _ _ _ h => h) (Or.inl ⟨by rfl, ?_⟩) hHeld ?_ ?_
             rotate_left
             ·rintro w' ⟨s0, s1, s2, s3, s4, s5, s6, s7, s8, s9, s10, s11⟩
              go_simp
              with_reducible rfl
             rotate_left
             ·simp only [Act.put, sA, sB, sC, i64_w, i32_w]
              rfl
             refine one_ (i := 1) (N := some 57) (ba 47 3) rfl rfl (one_of HT_.out (by kernel_rfl)) (by decide) (fun K hK => ?_)
             refine goes_ Try.func10 (by kernel_rfl) rfl #[.agg #[.slice Ao16 y240.length co16, .slice Ao15 y246.length co15, .slice none 0 0]] (by rfl) rfl rfl (by (try simp only [List.map_toArray, List.map_cons, List.map_nil]); first | done | rfl | (simp only [List.length_drop, List.length_take]; rfl)) ?_
             refine (data_Check.calls kj3 _ _ y240 _ _ y246 _ _ ([] : List (S51)) t275 _ ?side1 ?side2 ?side3 ?side4 ?side5 ?side6 A72.out).mono ?_
             (case side1 => repeat (first | exact (Kd.N_reads' HO_250000.out).2.2 | (with_reducible refine cA ?_ _) | (with_reducible refine cN ?_ _) | (with_reducible refine cD ?_)))
             (case side2 => exact (Kd.N_reads' HO_250000.out).2.1)
             (case side3 => repeat (first | exact (Kd.N_reads' HO_250001.out).2.2 | (with_reducible refine cA ?_ _) | (with_reducible refine cN ?_ _) | (with_reducible refine cD ?_)))
             (case side4 => exact (Kd.N_reads' HO_250001.out).2.1)
             (case side5 => exact Kd.C_nil _ _)
             (case side6 => exact Nat.le_refl _)
             rintro e w95 ⟨rfl, hb⟩
             have HS6_ := (hb.cell (World.block_lt_of_cell? _ _ (hHeld.2.2.2.2.2.2.1))).trans (hHeld.2.2.2.2.2.2.1)
             have HS7_ := (hb.cell (World.block_lt_of_cell? _ _ (hHeld.2.2.2.2.2.2.2.1))).trans (hHeld.2.2.2.2.2.2.2.1)
             have HS8_ := (hb.cell (World.block_lt_of_cell? _ _ (hHeld.2.2.2.2.2.2.2.2.1))).trans (hHeld.2.2.2.2.2.2.2.2.1)
             have HS9_ := (hb.cell (World.block_lt_of_cell? _ _ (hHeld.2.2.2.2.2.2.2.2.2.1))).trans (hHeld.2.2.2.2.2.2.2.2.2.1)
             have HS10_ := (hb.cell (World.block_lt_of_cell? _ _ (hHeld.2.2.2.2.2.2.2.2.2.2.1))).trans (hHeld.2.2.2.2.2.2.2.2.2.2.1)
             have HS11_ := (hb.cell (World.block_lt_of_cell? _ _ (hHeld.2.2.2.2.2.2.2.2.2.2.2))).trans (hHeld.2.2.2.2.2.2.2.2.2.2.2)
             refine ⟨_, rfl, ?_⟩
             replace HO_5 := aM (rB (rl HO_5) hb)
             replace HO_6 := aM (Kd.V_below (by (with_reducible repeat (first | apply Kd.V_alloc | apply Kd.V_drewN | apply Kd.V_drew)); exact HO_6.out) hb)
             replace HO_250000 := aM (Kd.N_below (by (with_reducible repeat (first | apply Kd.N_alloc | apply Kd.N_drewN | apply Kd.N_drew)); exact HO_250000.out) hb)
             replace HO_250001 := aM (Kd.N_below (by (with_reducible repeat (first | apply Kd.N_alloc | apply Kd.N_drewN | apply Kd.N_drew)); exact HO_250001.out) hb)
             replace HO_251000 := aM (Kd.N_below (by (with_reducible repeat (first | apply Kd.N_alloc | apply Kd.N_drewN | apply Kd.N_drew)); exact HO_251000.out) hb)
             replace HO_251001 := aM (Kd.N_below (by (with_reducible repeat (first | apply Kd.N_alloc | apply Kd.N_drewN | apply Kd.N_drew)); exact HO_251001.out) hb)
             replace BK249 := aM (kB (kl BK249) hb)
             replace BK250 := aM (kB (kl BK250) hb)
             replace HB := aM (bS (bl) hb)
             (try clear hb)
             (try clear hb2)
             (try clear hk)
             (try clear hi)
             refine hK.out _ _ ⟨(kC BK249.out 0).trans rfl, (kC BK249.out 1).trans rfl, (kC BK249.out 2).trans rfl, (kC BK250.out 0).trans rfl, (kC BK250.out 1).trans rfl, (kC BK250.out 2).trans rfl, HS6_, HS7_, HS8_, HS9_, HS10_, HS11_⟩ (fun hHeld => ?_)
             clear hK K
             refine norm_ (a' := ?_) ?_ ?_
             rotate_left
             ·show Act.put _ (some 57) _ = _
              simp only [Act.put, sA, sB, sC, i64_w, i32_w]
              rfl
             refine pure_ (i := 2) (N := some 58) (v := ?_) (a' := ?_) (ba 47 7) rfl rfl (any_of HT_.out (by kernel_rfl)) (fun _ _ _ h => h) (Or.inl ⟨by rfl, ?_⟩) ?_ ?_
             rotate_left
             ·intro w'
              go_simp
              with_reducible rfl
             rotate_left
             ·simp only [Act.put, sA, sB, sC, i64_w, i32_w]
              rfl
             refine pure_ (i := 3) (N := some 59) (v := ?_) (a' := ?_) (ba 47 15) rfl rfl (any_of HT_.out (by kernel_rfl)) (fun _ _ _ h => h) (Or.inl ⟨by rfl, ?_⟩) ?_ ?_
             rotate_left
             ·intro w'
              go_simp
              with_reducible rfl
             rotate_left
             ·simp only [Act.put, sA, sB, sC, i64_w, i32_w]
              rfl
             refine take_ (i := 4) (N := some 60) (v := ?_) (a' := ?_) (ba 47 31) rfl rfl (take_ofW HT_.out HW_.out (by kernel_rfl)) (fun _ _ _ h => h) (Or.inl ⟨by rfl, ?_⟩) hHeld ?_ ?_
             rotate_left
             ·rintro w' ⟨s0, s1, s2, s3, s4, s5, s6, s7, s8, s9, s10, s11⟩
              go_simp
              with_reducible rfl
             rotate_left
             ·simp only [Act.put, sA, sB, sC, i64_w, i32_w]
              rfl
             refine one_ (i := 5) (N := some 61) (ba 47 63) rfl rfl (one_of HT_.out (by kernel_rfl)) (by decide) (fun K hK => ?_)
             refine goes_ Try.func10 (by kernel_rfl) rfl #[.agg #[.slice Ao16 y240.length co16, .slice Ao27 y254.length co27, .slice none 0 0]] (by rfl) rfl rfl (by (try simp only [List.map_toArray, List.map_cons, List.map_nil]); first | done | rfl | (simp only [List.length_drop, List.length_take]; rfl)) ?_
             refine (data_Check.calls kj3 _ _ y240 _ _ y254 _ _ ([] : List (S51)) t276 _ ?side1 ?side2 ?side3 ?side4 ?side5 ?side6 A74.out).mono ?_
             (case side1 => repeat (first | exact (Kd.N_reads' HO_251000.out).2.2 | (with_reducible refine cA ?_ _) | (with_reducible refine cN ?_ _) | (with_reducible refine cD ?_)))
             (case side2 => exact (Kd.N_reads' HO_251000.out).2.1)
             (case side3 => repeat (first | exact (Kd.N_reads' HO_251001.out).2.2 | (with_reducible refine cA ?_ _) | (with_reducible refine cN ?_ _) | (with_reducible refine cD ?_)))
             (case side4 => exact (Kd.N_reads' HO_251001.out).2.1)
             (case side5 => exact Kd.C_nil _ _)
             (case side6 => exact Nat.le_refl _)
             rintro e w96 ⟨rfl, hb⟩
             have HS6_ := (hb.cell (World.block_lt_of_cell? _ _ (hHeld.2.2.2.2.2.2.1))).trans (hHeld.2.2.2.2.2.2.1)
             have HS7_ := (hb.cell (World.block_lt_of_cell? _ _ (hHeld.2.2.2.2.2.2.2.1))).trans (hHeld.2.2.2.2.2.2.2.1)
             have HS8_ := (hb.cell (World.block_lt_of_cell? _ _ (hHeld.2.2.2.2.2.2.2.2.1))).trans (hHeld.2.2.2.2.2.2.2.2.1)
             have HS9_ := (hb.cell (World.block_lt_of_cell? _ _ (hHeld.2.2.2.2.2.2.2.2.2.1))).trans (hHeld.2.2.2.2.2.2.2.2.2.1)
             have HS10_ := (hb.cell (World.block_lt_of_cell? _ _ (hHeld.2.2.2.2.2.2.2.2.2.2.1))).trans (hHeld.2.2.2.2.2.2.2.2.2.2.1)
             have HS11_ := (hb.cell (World.block_lt_of_cell? _ _ (hHeld.2.2.2.2.2.2.2.2.2.2.2))).trans (hHeld.2.2.2.2.2.2.2.2.2.2.2)
             refine ⟨_, rfl, ?_⟩
             replace HO_5 := aM (rB (rl HO_5) hb)
             replace HO_6 := aM (Kd.V_below (by (with_reducible repeat (first | apply Kd.V_alloc | apply Kd.V_drewN | apply Kd.V_drew)); exact HO_6.out) hb)
             replace HO_250000 := aM (Kd.N_below (by (with_reducible repeat (first | apply Kd.N_alloc | apply Kd.N_drewN | apply Kd.N_drew)); exact HO_250000.out) hb)
             replace HO_250001 := aM (Kd.N_below (by (with_reducible repeat (first | apply Kd.N_alloc | apply Kd.N_drewN | apply Kd.N_drew)); exact HO_250001.out) hb)
             replace HO_251000 := aM (Kd.N_below (by (with_reducible repeat (first | apply Kd.N_alloc | apply Kd.N_drewN | apply Kd.N_drew)); exact HO_251000.out) hb)
             replace HO_251001 := aM (Kd.N_below (by (with_reducible repeat (first | apply Kd.N_alloc | apply Kd.N_drewN | apply Kd.N_drew)); exact HO_251001.out) hb)
             replace BK249 := aM (kB (kl BK249) hb)
             replace BK250 := aM (kB (kl BK250) hb)
             replace HB := aM (bS (bl) hb)
             (try clear hb)
             (try clear hb2)
             (try clear hk)
             (try clear hi)
             obtain ⟨Ao97, co97, eo97⟩ := Kd.R_slice HO_5.out
             (first | subst eo97 | (injection eo97 with f1_ f2_ f3_; have f4_ := f1_.symm; have f5_ := f3_.symm; clear f1_ f2_ f3_; subst f4_; subst f5_))
             obtain ⟨Ao98, co98, eo98⟩ := Kd.V_slice HO_6.out
             (first | subst eo98 | (injection eo98 with f1_ f2_ f3_; have f4_ := f1_.symm; have f5_ := f3_.symm; clear f1_ f2_ f3_; subst f4_; subst f5_))
             refine hK.out _ _ ⟨(kC BK249.out 0).trans rfl, (kC BK249.out 1).trans rfl, (kC BK249.out 2).trans rfl, (kC BK250.out 0).trans rfl, (kC BK250.out 1).trans rfl, (kC BK250.out 2).trans rfl, HS6_, HS7_, HS8_, HS9_, HS10_, HS11_⟩ (fun hHeld => ?_)
             clear hK K
             refine norm_ (a' := ?_) ?_ ?_
             rotate_left
             ·show Act.put _ (some 61) _ = _
              simp only [Act.put, sA, sB, sC, i64_w, i32_w]
              rfl
             refine pure_ (i := 6) (N := some 62) (v := ?_) (a' := ?_) (ba 47 127) rfl rfl (any_of HT_.out (by kernel_rfl)) (fun _ _ _ h => h) (Or.inl ⟨by rfl, ?_⟩) ?_ ?_
             rotate_left
             ·intro w'
              go_simp
              with_reducible rfl
             rotate_left
             ·simp only [Act.put, sA, sB, sC, i64_w, i32_w]
              rfl
             refine pure_ (i := 7) (N := some 63) (v := ?_) (a' := ?_) (ba 47 255) rfl rfl (any_of HT_.out (by kernel_rfl)) (fun _ _ _ h => h) (Or.inl ⟨by rfl, ?_⟩) ?_ ?_
             rotate_left
             ·intro w'
              go_simp
              with_reducible rfl
             rotate_left
             ·simp only [Act.put, sA, sB, sC, i64_w, i32_w]
              rfl
             refine pure_ (i := 8) (N := some 64) (v := ?_) (a' := ?_) (ba 47 511) rfl rfl (any_of HT_.out (by kernel_rfl)) (fun _ _ _ h => h) (Or.inl ⟨by rfl, ?_⟩) ?_ ?_
             rotate_left
             ·intro w'
              go_simp
              with_reducible rfl
             rotate_left
             ·simp only [Act.put, sA, sB, sC, i64_w, i32_w]
              rfl
             refine pure_ (i := 9) (N := some 65) (v := ?_) (a' := ?_) (ba 47 1023) rfl rfl (any_of HT_.out (by kernel_rfl)) (fun _ _ _ h => h) (Or.inl ⟨by rfl, ?_⟩) ?_ ?_
             rotate_left
             ·intro w'
              go_simp
              with_reducible rfl
             rotate_left
             ·simp only [Act.put, sA, sB, sC, i64_w, i32_w]
              rfl
             refine pure_ (i := 10) (N := some 66) (v := ?_) (a' := ?_) (ba 47 2047) rfl rfl (any_of HT_.out (by kernel_rfl)) (fun _ _ _ h => h) (Or.inl ⟨by rfl, ?_⟩) ?_ ?_
             rotate_left
             ·intro w'
              go_simp
              with_reducible rfl
             rotate_left
             ·simp only [Act.put, sA, sB, sC, i64_w, i32_w]
              rfl
             refine pure_ (i := 12) (N := some 68) (v := ?_) (a' := ?_) (ba 47 6143) rfl rfl (any_of HT_.out (by kernel_rfl)) (fun _ _ _ h => h) (Or.inl ⟨by rfl, ?_⟩) ?_ ?_
             rotate_left
             ·intro w'
              go_simp
              with_reducible rfl
             rotate_left
             ·simp only [Act.put, sA, sB, sC, i64_w, i32_w]
              rfl
             refine take_ (i := 11) (N := some 67) (v := ?_) (a' := ?_) (ba 47 8191) rfl rfl (take_ofW HT_.out HW_.out (by kernel_rfl)) (fun _ _ _ h => h) (Or.inl ⟨by rfl, ?_⟩) hHeld ?_ ?_
             rotate_left
             ·rintro w' ⟨s0, s1, s2, s3, s4, s5, s6, s7, s8, s9, s10, s11⟩
              go_simp
              with_reducible rfl
             rotate_left
             ·simp only [Act.put, sA, sB, sC, i64_w, i32_w]
              rfl
             refine pure_ (i := 13) (N := some 69) (v := ?_) (a' := ?_) (ba 47 16383) rfl rfl (any_of HT_.out (by kernel_rfl)) (fun _ _ _ h => h) (Or.inl ⟨by rfl, ?_⟩) ?_ ?_
             rotate_left
             ·intro w'
              go_simp
              with_reducible rfl
             rotate_left
             ·simp only [Act.put, sA, sB, sC, i64_w, i32_w]
              rfl
             refine pure_ (i := 14) (N := some 70) (v := ?_) (a' := ?_) (ba 47 32767) rfl rfl (any_of HT_.out (by kernel_rfl)) (fun _ _ _ h => h) (Or.inl ⟨by rfl, ?_⟩) ?_ ?_
             rotate_left
             ·intro w'
              go_simp
              with_reducible rfl
             rotate_left
             ·simp only [Act.put, sA, sB, sC, i64_w, i32_w]
              rfl
             refine pure_ (i := 15) (N := some 71) (v := ?_) (a' := ?_) (ba 47 65535) rfl rfl (any_of HT_.out (by kernel_rfl)) (fun _ _ _ h => h) (Or.inl ⟨by rfl, ?_⟩) ?_ ?_
             rotate_left
             ·intro w'
              go_simp
              with_reducible rfl
             rotate_left
             ·simp only [Act.put, sA, sB, sC, i64_w, i32_w]
              rfl
             refine pure_ (i := 16) (N := some 72) (v := ?_) (a' := ?_) (ba 47 131071) rfl rfl (any_of HT_.out (by kernel_rfl)) (fun _ _ _ h => h) (Or.inl ⟨by rfl, ?_⟩) ?_ ?_
             rotate_left
             ·intro w'
              go_simp
              with_reducible rfl
             rotate_left
             ·simp only [Act.put, sA, sB, sC, i64_w, i32_w]
              rfl
             refine pure_ (i := 17) (N := some 73) (v := ?_) (a' := ?_) (ba 47 262143) rfl rfl (any_of HT_.out (by kernel_rfl)) (fun _ _ _ h => h) (Or.inl ⟨by rfl, ?_⟩) ?_ ?_
             rotate_left
             ·intro w'
              go_simp
              with_reducible rfl
             rotate_left
             ·simp only [Act.put, sA, sB, sC, i64_w, i32_w]
              rfl
             refine pure_ (i := 18) (N := some 74) (v := ?_) (a' := ?_) (ba 47 524287) rfl rfl (any_of HT_.out (by kernel_rfl)) (fun _ _ _ h => h) (Or.inl ⟨by rfl, ?_⟩) ?_ ?_
             rotate_left
             ·intro w'
              go_simp
              with_reducible rfl
             rotate_left
             ·simp only [Act.put, sA, sB, sC, i64_w, i32_w]
              rfl
             refine take_ (i := 19) (N := some 75) (v := ?_) (a' := ?_) (ba 47 1048575) rfl rfl (take_ofW HT_.out HW_.out (by kernel_rfl)) (fun _ _ _ h => h) (Or.inl ⟨by rfl, ?_⟩) hHeld ?_ ?_
             rotate_left
             ·rintro w' ⟨s0, s1, s2, s3, s4, s5, s6, s7, s8, s9, s10, s11⟩
              go_simp
              with_reducible rfl
             rotate_left
             ·simp only [Act.put, sA, sB, sC, i64_w, i32_w]
              rfl
             refine pure_ (i := 20) (N := some 76) (v := ?_) (a' := ?_) (ba 47 2097151) rfl rfl (any_of HT_.out (by kernel_rfl)) (fun _ _ _ h => h) (Or.inl ⟨by rfl, ?_⟩) ?_ ?_
             rotate_left
             ·intro w'
              go_simp
              with_reducible rfl
             rotate_left
             ·simp only [Act.put, sA, sB, sC, i64_w, i32_w]
              rfl
             refine pure_ (i := 21) (N := some 77) (v := ?_) (a' := ?_) (ba 47 4194303) rfl rfl (any_of HT_.out (by kernel_rfl)) (fun _ _ _ h => h) (Or.inl ⟨by rfl, ?_⟩) ?_ ?_
             rotate_left
             ·intro w'
              go_simp
              with_reducible rfl
             rotate_left
             ·simp only [Act.put, sA, sB, sC, i64_w, i32_w]
              rfl
             refine pure_ (i := 22) (N := some 78) (v := ?_) (a' := ?_) (ba 47 8388607) rfl rfl (any_of HT_.out (by kernel_rfl)) (fun _ _ _ h => h) (Or.inl ⟨by rfl, ?_⟩) ?_ ?_
             rotate_left
             ·intro w'
              go_simp
              with_reducible rfl
             rotate_left
             ·simp only [Act.put, sA, sB, sC, i64_w, i32_w]
              rfl
             refine pure_ (i := 24) (N := some 80) (v := ?_) (a' := ?_) (ba 47 25165823) rfl rfl (any_of HT_.out (by kernel_rfl)) (fun _ _ _ h => h) (Or.inl ⟨by rfl, ?_⟩) ?_ ?_
             rotate_left
             ·intro w'
              go_simp
              with_reducible rfl
             rotate_left
             ·simp only [Act.put, sA, sB, sC, i64_w, i32_w]
              rfl
             refine pure_ (i := 25) (N := some 81) (v := ?_) (a' := ?_) (ba 47 58720255) rfl rfl (any_of HT_.out (by kernel_rfl)) (fun _ _ _ h => h) (Or.inl ⟨by rfl, ?_⟩) ?_ ?_
             rotate_left
             ·intro w'
              go_simp
              with_reducible rfl
             rotate_left
             ·simp only [Act.put, sA, sB, sC, i64_w, i32_w]
              rfl
             refine take_ (i := 23) (N := some 79) (v := ?_) (a' := ?_) (ba 47 67108863) rfl rfl (take_ofW HT_.out HW_.out (by kernel_rfl)) (fun _ _ _ h => h) (Or.inl ⟨by rfl, ?_⟩) hHeld ?_ ?_
             rotate_left
             ·rintro w' ⟨s0, s1, s2, s3, s4, s5, s6, s7, s8, s9, s10, s11⟩
              go_simp
              with_reducible rfl
             rotate_left
             ·simp only [Act.put, sA, sB, sC, i64_w, i32_w]
              rfl
             refine take_ (i := 26) (N := some 82) (v := ?_) (a' := ?_) (ba 47 134217727) rfl rfl (take_ofW HT_.out HW_.out (by kernel_rfl)) (fun _ _ _ h => h) (Or.inl ⟨by rfl, ?_⟩) hHeld ?_ ?_
             rotate_left
             ·rintro w' ⟨s0, s1, s2, s3, s4, s5, s6, s7, s8, s9, s10, s11⟩
              go_simp
              with_reducible rfl
             rotate_left
             ·simp only [Act.put, sA, sB, sC, i64_w, i32_w]
              rfl
             refine one_ (i := 27) (N := some 83) (ba 47 268435455) rfl rfl (one_of HT_.out (by kernel_rfl)) (by decide) (fun K hK => ?_)
             refine goes_ Try.func21 (by kernel_rfl) rfl #[.agg #[.slice Ao16 y240.length co16, .slice Ao27 y254.length co27, .slice none 0 0], .agg #[.int .i64 ((rd_T34 t266 0).f0), .int .i64 ((rd_T34 t266 0).f1)]] (by rfl) rfl rfl (by (try simp only [List.map_toArray, List.map_cons, List.map_nil]); first | done | rfl | (simp only [List.length_drop, List.length_take]; rfl)) ?_
             refine (data_Has.calls kj3 _ _ y240 _ _ y254 _ _ ([] : List (S51)) ((rd_T34 t266 0).f0) ((rd_T34 t266 0).f1) true _ ?side1 ?side2 ?side3 ?side4 ?side5 ?side6 A80.out).mono ?_
             (case side1 => repeat (first | exact (Kd.N_reads' HO_251000.out).2.2 | (with_reducible refine cA ?_ _) | (with_reducible refine cN ?_ _) | (with_reducible refine cD ?_)))
             (case side2 => exact (Kd.N_reads' HO_251000.out).2.1)
             (case side3 => repeat (first | exact (Kd.N_reads' HO_251001.out).2.2 | (with_reducible refine cA ?_ _) | (with_reducible refine cN ?_ _) | (with_reducible refine cD ?_)))
             (case side4 => exact (Kd.N_reads' HO_251001.out).2.1)
             (case side5 => exact Kd.C_nil _ _)
             (case side6 => exact Nat.le_refl _)
             rintro e w99 ⟨rfl, hb⟩
             have HS6_ := (hb.cell (World.block_lt_of_cell? _ _ (hHeld.2.2.2.2.2.2.1))).trans (hHeld.2.2.2.2.2.2.1)
             have HS7_ := (hb.cell (World.block_lt_of_cell? _ _ (hHeld.2.2.2.2.2.2.2.1))).trans (hHeld.2.2.2.2.2.2.2.1)
             have HS8_ := (hb.cell (World.block_lt_of_cell? _ _ (hHeld.2.2.2.2.2.2.2.2.1))).trans (hHeld.2.2.2.2.2.2.2.2.1)
             have HS9_ := (hb.cell (World.block_lt_of_cell? _ _ (hHeld.2.2.2.2.2.2.2.2.2.1))).trans (hHeld.2.2.2.2.2.2.2.2.2.1)
             have HS10_ := (hb.cell (World.block_lt_of_cell? _ _ (hHeld.2.2.2.2.2.2.2.2.2.2.1))).trans (hHeld.2.2.2.2.2.2.2.2.2.2.1)
             have HS11_ := (hb.cell (World.block_lt_of_cell? _ _ (hHeld.2.2.2.2.2.2.2.2.2.2.2))).trans (hHeld.2.2.2.2.2.2.2.2.2.2.2)
             refine ⟨_, rfl, ?_⟩
             replace HO_250000 := aM (Kd.N_below (by (with_reducible repeat (first | apply Kd.N_alloc | apply Kd.N_drewN | apply Kd.N_drew)); exact HO_250000.out) hb)
             replace HO_250001 := aM (Kd.N_below (by (with_reducible repeat (first | apply Kd.N_alloc | apply Kd.N_drewN | apply Kd.N_drew)); exact HO_250001.out) hb)
             replace HO_251000 := aM (Kd.N_below (by (with_reducible repeat (first | apply Kd.N_alloc | apply Kd.N_drewN | apply Kd.N_drew)); exact HO_251000.out) hb)
             replace HO_251001 := aM (Kd.N_below (by (with_reducible repeat (first | apply Kd.N_alloc | apply Kd.N_drewN | apply Kd.N_drew)); exact HO_251001.out) hb)
             replace BK249 := aM (kB (kl BK249) hb)
             replace BK250 := aM (kB (kl BK250) hb)
             replace HB := aM (bS (bl) hb)
             clear HO_5 HO_6
             (try clear hb)
             (try clear hb2)
             (try clear hk)
             (try clear hi)
             refine hK.out _ _ ⟨(kC BK249.out 0).trans rfl, (kC BK249.out 1).trans rfl, (kC BK249.out 2).trans rfl, (kC BK250.out 0).trans rfl, (kC BK250.out 1).trans rfl, (kC BK250.out 2).trans rfl, HS6_, HS7_, HS8_, HS9_, HS10_, HS11_⟩ (fun hHeld => ?_)
             clear hK K
             refine norm_ (a' := ?_) ?_ ?_
             rotate_left
             ·show Act.put _ (some 83) _ = _
              simp only [Act.put, sA, sB, sC, i64_w, i32_w]
              rfl
             refine pure_ (i := 28) (N := some 84) (v := ?_) (a' := ?_) (ba 47 536870911) rfl rfl (any_of HT_.out (by kernel_rfl)) (fun _ _ _ h => h) (Or.inl ⟨by rfl, ?_⟩) ?_ ?_
             rotate_left
             ·intro w'
              go_simp
              with_reducible rfl
             rotate_left
             ·simp only [Act.put, sA, sB, sC, i64_w, i32_w]
              rfl
             refine pure_ (i := 29) (N := some 85) (v := ?_) (a' := ?_) (ba 47 1073741823) rfl rfl (any_of HT_.out (by kernel_rfl)) (fun _ _ _ h => h) (Or.inl ⟨by rfl, ?_⟩) ?_ ?_
             rotate_left
             ·intro w'
              go_simp
              with_reducible rfl
             rotate_left
             ·simp only [Act.put, sA, sB, sC, i64_w, i32_w]
              rfl
             refine pure_ (i := 31) (N := some 87) (v := ?_) (a' := ?_) (ba 47 3221225471) rfl rfl (any_of HT_.out (by kernel_rfl)) (fun _ _ _ h => h) (Or.inl ⟨by rfl, ?_⟩) ?_ ?_
             rotate_left
             ·intro w'
              go_simp
              with_reducible rfl
             rotate_left
             ·simp only [Act.put, sA, sB, sC, i64_w, i32_w]
              rfl
             refine take_ (i := 30) (N := some 86) (v := ?_) (a' := ?_) (ba 47 4294967295) rfl rfl (take_ofW HT_.out HW_.out (by kernel_rfl)) (fun _ _ _ h => h) (Or.inl ⟨by rfl, ?_⟩) hHeld ?_ ?_
             rotate_left
             ·rintro w' ⟨s0, s1, s2, s3, s4, s5, s6, s7, s8, s9, s10, s11⟩
              go_simp
              with_reducible rfl
             rotate_left
             ·simp only [Act.put, sA, sB, sC, i64_w, i32_w]
              rfl
             refine one_ (i := 32) (N := some 88) (ba 47 8589934591) rfl rfl (one_of HT_.out (by kernel_rfl)) (by decide) (fun K hK => ?_)
             refine goes_ Try.func21 (by kernel_rfl) rfl #[.agg #[.slice Ao16 y240.length co16, .slice Ao27 y254.length co27, .slice none 0 0], .agg #[.int .i64 3, .int .i64 1]] (by rfl) rfl rfl (by (try simp only [List.map_toArray, List.map_cons, List.map_nil]); first | done | rfl | (simp only [List.length_drop, List.length_take]; rfl)) ?_
             refine (data_Has.calls kj3 _ _ y240 _ _ y254 _ _ ([] : List (S51)) 3 1 false _ ?side1 ?side2 ?side3 ?side4 ?side5 ?side6 A82.out).mono ?_
             (case side1 => repeat (first | exact (Kd.N_reads' HO_251000.out).2.2 | (with_reducible refine cA ?_ _) | (with_reducible refine cN ?_ _) | (with_reducible refine cD ?_)))
             (case side2 => exact (Kd.N_reads' HO_251000.out).2.1)
             (case side3 => repeat (first | exact (Kd.N_reads' HO_251001.out).2.2 | (with_reducible refine cA ?_ _) | (with_reducible refine cN ?_ _) | (with_reducible refine cD ?_)))
             (case side4 => exact (Kd.N_reads' HO_251001.out).2.1)
             (case side5 => exact Kd.C_nil _ _)
             (case side6 => exact Nat.le_refl _)
             rintro e w100 ⟨rfl, hb⟩
             have HS6_ := (hb.cell (World.block_lt_of_cell? _ _ (hHeld.2.2.2.2.2.2.1))).trans (hHeld.2.2.2.2.2.2.1)
             have HS7_ := (hb.cell (World.block_lt_of_cell? _ _ (hHeld.2.2.2.2.2.2.2.1))).trans (hHeld.2.2.2.2.2.2.2.1)
             have HS8_ := (hb.cell (World.block_lt_of_cell? _ _ (hHeld.2.2.2.2.2.2.2.2.1))).trans (hHeld.2.2.2.2.2.2.2.2.1)
             have HS9_ := (hb.cell (World.block_lt_of_cell? _ _ (hHeld.2.2.2.2.2.2.2.2.2.1))).trans (hHeld.2.2.2.2.2.2.2.2.2.1)
             have HS10_ := (hb.cell (World.block_lt_of_cell? _ _ (hHeld.2.2.2.2.2.2.2.2.2.2.1))).trans (hHeld.2.2.2.2.2.2.2.2.2.2.1)
             have HS11_ := (hb.cell (World.block_lt_of_cell? _ _ (hHeld.2.2.2.2.2.2.2.2.2.2.2))).trans (hHeld.2.2.2.2.2.2.2.2.2.2.2)
             refine ⟨_, rfl, ?_⟩
             replace HO_250000 := aM (Kd.N_below (by (with_reducible repeat (first | apply Kd.N_alloc | apply Kd.N_drewN | apply Kd.N_drew)); exact HO_250000.out) hb)
             replace HO_250001 := aM (Kd.N_below (by (with_reducible repeat (first | apply Kd.N_alloc | apply Kd.N_drewN | apply Kd.N_drew)); exact HO_250001.out) hb)
             replace HO_251000 := aM (Kd.N_below (by (with_reducible repeat (first | apply Kd.N_alloc | apply Kd.N_drewN | apply Kd.N_drew)); exact HO_251000.out) hb)
             replace HO_251001 := aM (Kd.N_below (by (with_reducible repeat (first | apply Kd.N_alloc | apply Kd.N_drewN | apply Kd.N_drew)); exact HO_251001.out) hb)
             replace BK249 := aM (kB (kl BK249) hb)
             replace BK250 := aM (kB (kl BK250) hb)
             replace HB := aM (bS (bl) hb)
             (try clear hb)
             (try clear hb2)
             (try clear hk)
             (try clear hi)
             refine hK.out _ _ ⟨(kC BK249.out 0).trans rfl, (kC BK249.out 1).trans rfl, (kC BK249.out 2).trans rfl, (kC BK250.out 0).trans rfl, (kC BK250.out 1).trans rfl, (kC BK250.out 2).trans rfl, HS6_, HS7_, HS8_, HS9_, HS10_, HS11_⟩ (fun hHeld => ?_)
             clear hK K
             refine norm_ (a' := ?_) ?_ ?_
             rotate_left
             ·show Act.put _ (some 88) _ = _
              simp only [Act.put, sA, sB, sC, i64_w, i32_w]
              rfl
             refine pure_ (i := 33) (N := some 89) (v := ?_) (a' := ?_) (ba 47 17179869183) rfl rfl (any_of HT_.out (by kernel_rfl)) (fun _ _ _ h => h) (Or.inl ⟨by rfl, ?_⟩) ?_ ?_
             rotate_left
             ·intro w'
              go_simp
              with_reducible rfl
             rotate_left
             ·simp only [Act.put, sA, sB, sC, i64_w, i32_w]
              rfl
             refine pure_ (i := 34) (N := some 90) (v := ?_) (a' := ?_) (ba 47 34359738367) rfl rfl (any_of HT_.out (by kernel_rfl)) (fun _ _ _ h => h) (Or.inl ⟨by rfl, ?_⟩) ?_ ?_
             rotate_left
             ·intro w'
              go_simp
              with_reducible rfl
             rotate_left
             ·simp only [Act.put, sA, sB, sC, i64_w, i32_w]
              rfl
             refine pure_ (i := 35) (N := some 91) (v := ?_) (a' := ?_) (ba 47 68719476735) rfl rfl (any_of HT_.out (by kernel_rfl)) (fun _ _ _ h => h) (Or.inl ⟨by rfl, ?_⟩) ?_ ?_
             rotate_left
             ·intro w'
              go_simp
              with_reducible rfl
             rotate_left
             ·simp only [Act.put, sA, sB, sC, i64_w, i32_w]
              rfl
             refine take_ (i := 36) (N := some 92) (v := ?_) (a' := ?_) (ba 47 137438953471) rfl rfl (take_ofW HT_.out HW_.out (by kernel_rfl)) (fun _ _ _ h => h) (Or.inl ⟨by rfl, ?_⟩) hHeld ?_ ?_
             rotate_left
             ·rintro w' ⟨s0, s1, s2, s3, s4, s5, s6, s7, s8, s9, s10, s11⟩
              go_simp
              with_reducible rfl
             rotate_left
             ·simp only [Act.put, sA, sB, sC, i64_w, i32_w]
              rfl
             refine take_ (i := 37) (N := some 93) (v := ?_) (a' := ?_) (ba 47 274877906943) rfl rfl (take_ofW HT_.out HW_.out (by kernel_rfl)) (fun _ _ _ h => h) (Or.inl ⟨by rfl, ?_⟩) hHeld ?_ ?_
             rotate_left
             ·rintro w' ⟨s0, s1, s2, s3, s4, s5, s6, s7, s8, s9, s10, s11⟩
              go_simp
              with_reducible rfl
             rotate_left
             ·simp only [Act.put, sA, sB, sC, i64_w, i32_w]
              rfl
             refine one_ (i := 38) (N := some 94) (ba 47 549755813887) rfl rfl (one_of HT_.out (by kernel_rfl)) (by decide) (fun K hK => ?_)
             refine goes_ Try.func31 (by kernel_rfl) rfl #[.agg #[.slice Ao16 y240.length co16, .slice Ao27 y254.length co27, .slice none 0 0], .agg #[.slice Ao16 y240.length co16, .slice Ao27 y254.length co27, .slice none 0 0]] (by rfl) rfl rfl (by (try simp only [List.map_toArray, List.map_cons, List.map_nil]); first | done | rfl | (simp only [List.length_drop, List.length_take]; rfl)) ?_
             refine (data_Same.calls kj3 _ _ y240 _ _ y254 _ _ ([] : List (S51)) _ _ y240 _ _ y254 _ _ ([] : List (S51)) true _ ?side1 ?side2 ?side3 ?side4 ?side5 ?side6 ?side7 ?side8 ?side9 ?side10 ?side11 ?side12 A91.out).mono ?_
             (case side1 => repeat (first | exact (Kd.N_reads' HO_251000.out).2.2 | (with_reducible refine cA ?_ _) | (with_reducible refine cN ?_ _) | (with_reducible refine cD ?_)))
             (case side2 => exact (Kd.N_reads' HO_251000.out).2.1)
             (case side3 => repeat (first | exact (Kd.N_reads' HO_251001.out).2.2 | (with_reducible refine cA ?_ _) | (with_reducible refine cN ?_ _) | (with_reducible refine cD ?_)))
             (case side4 => exact (Kd.N_reads' HO_251001.out).2.1)
             (case side5 => exact Kd.C_nil _ _)
             (case side6 => exact Nat.le_refl _)
             (case side7 => repeat (first | exact (Kd.N_reads' HO_251000.out).2.2 | (with_reducible refine cA ?_ _) | (with_reducible refine cN ?_ _) | (with_reducible refine cD ?_)))
             (case side8 => exact (Kd.N_reads' HO_251000.out).2.1)
             (case side9 => repeat (first | exact (Kd.N_reads' HO_251001.out).2.2 | (with_reducible refine cA ?_ _) | (with_reducible refine cN ?_ _) | (with_reducible refine cD ?_)))
             (case side10 => exact (Kd.N_reads' HO_251001.out).2.1)
             (case side11 => exact Kd.C_nil _ _)
             (case side12 => exact Nat.le_refl _)
             rintro e w101 ⟨rfl, hb⟩
             have HS6_ := (hb.cell (World.block_lt_of_cell? _ _ (hHeld.2.2.2.2.2.2.1))).trans (hHeld.2.2.2.2.2.2.1)
             have HS7_ := (hb.cell (World.block_lt_of_cell? _ _ (hHeld.2.2.2.2.2.2.2.1))).trans (hHeld.2.2.2.2.2.2.2.1)
             have HS8_ := (hb.cell (World.block_lt_of_cell? _ _ (hHeld.2.2.2.2.2.2.2.2.1))).trans (hHeld.2.2.2.2.2.2.2.2.1)
             have HS9_ := (hb.cell (World.block_lt_of_cell? _ _ (hHeld.2.2.2.2.2.2.2.2.2.1))).trans (hHeld.2.2.2.2.2.2.2.2.2.1)
             have HS10_ := (hb.cell (World.block_lt_of_cell? _ _ (hHeld.2.2.2.2.2.2.2.2.2.2.1))).trans (hHeld.2.2.2.2.2.2.2.2.2.2.1)
             have HS11_ := (hb.cell (World.block_lt_of_cell? _ _ (hHeld.2.2.2.2.2.2.2.2.2.2.2))).trans (hHeld.2.2.2.2.2.2.2.2.2.2.2)
             refine ⟨_, rfl, ?_⟩
             replace HO_250000 := aM (Kd.N_below (by (with_reducible repeat (first | apply Kd.N_alloc | apply Kd.N_drewN | apply Kd.N_drew)); exact HO_250000.out) hb)
             replace HO_250001 := aM (Kd.N_below (by (with_reducible repeat (first | apply Kd.N_alloc | apply Kd.N_drewN | apply Kd.N_drew)); exact HO_250001.out) hb)
             replace HO_251000 := aM (Kd.N_below (by (with_reducible repeat (first | apply Kd.N_alloc | apply Kd.N_drewN | apply Kd.N_drew)); exact HO_251000.out) hb)
             replace HO_251001 := aM (Kd.N_below (by (with_reducible repeat (first | apply Kd.N_alloc | apply Kd.N_drewN | apply Kd.N_drew)); exact HO_251001.out) hb)
             replace BK249 := aM (kB (kl BK249) hb)
             replace BK250 := aM (kB (kl BK250) hb)
             replace HB := aM (bS (bl) hb)
             (try clear hb)
             (try clear hb2)
             (try clear hk)
             (try clear hi)
             refine hK.out _ _ ⟨(kC BK249.out 0).trans rfl, (kC BK249.out 1).trans rfl, (kC BK249.out 2).trans rfl, (kC BK250.out 0).trans rfl, (kC BK250.out 1).trans rfl, (kC BK250.out 2).trans rfl, HS6_, HS7_, HS8_, HS9_, HS10_, HS11_⟩ (fun hHeld => ?_)
             clear hK K
             refine norm_ (a' := ?_) ?_ ?_
             rotate_left
             ·show Act.put _ (some 94) _ = _
              simp only [Act.put, sA, sB, sC, i64_w, i32_w]
              rfl
             refine pure_ (i := 39) (N := some 95) (v := ?_) (a' := ?_) (ba 47 1099511627775) rfl rfl (any_of HT_.out (by kernel_rfl)) (fun _ _ _ h => h) (Or.inl ⟨by rfl, ?_⟩) ?_ ?_
             rotate_left
             ·intro w'
              go_simp
              with_reducible rfl
             rotate_left
             ·simp only [Act.put, sA, sB, sC, i64_w, i32_w]
              rfl
             refine pure_ (i := 40) (N := some 96) (v := ?_) (a' := ?_) (ba 47 2199023255551) rfl rfl (any_of HT_.out (by kernel_rfl)) (fun _ _ _ h => h) (Or.inl ⟨by rfl, ?_⟩) ?_ ?_
             rotate_left
             ·intro w'
              go_simp
              with_reducible rfl
             rotate_left
             ·simp only [Act.put, sA, sB, sC, i64_w, i32_w]
              rfl
             refine take_ (i := 41) (N := some 97) (v := ?_) (a' := ?_) (ba 47 4398046511103) rfl rfl (take_ofW HT_.out HW_.out (by kernel_rfl)) (fun _ _ _ h => h) (Or.inl ⟨by rfl, ?_⟩) hHeld ?_ ?_
             rotate_left
             ·rintro w' ⟨s0, s1, s2, s3, s4, s5, s6, s7, s8, s9, s10, s11⟩
              go_simp
              with_reducible rfl
             rotate_left
             ·simp only [Act.put, sA, sB, sC, i64_w, i32_w]
              rfl
             refine take_ (i := 42) (N := some 98) (v := ?_) (a' := ?_) (ba 47 8796093022207) rfl rfl (take_ofW HT_.out HW_.out (by kernel_rfl)) (fun _ _ _ h => h) (Or.inl ⟨by rfl, ?_⟩) hHeld ?_ ?_
             rotate_left
             ·rintro w' ⟨s0, s1, s2, s3, s4, s5, s6, s7, s8, s9, s10, s11⟩
              go_simp
              with_reducible rfl
             rotate_left
             ·simp only [Act.put, sA, sB, sC, i64_w, i32_w]
              rfl
             refine one_ (i := 43) (N := some 99) (ba 47 17592186044415) rfl rfl (one_of HT_.out (by kernel_rfl)) (by decide) (fun K hK => ?_)
             refine goes_ Try.func31 (by kernel_rfl) rfl #[.agg #[.slice Ao16 y240.length co16, .slice Ao15 y246.length co15, .slice none 0 0], .agg #[.slice Ao16 y240.length co16, .slice Ao27 y254.length co27, .slice none 0 0]] (by rfl) rfl rfl (by (try simp only [List.map_toArray, List.map_cons, List.map_nil]); first | done | rfl | (simp only [List.length_drop, List.length_take]; rfl)) ?_
             refine (data_Same.calls kj3 _ _ y240 _ _ y246 _ _ ([] : List (S51)) _ _ y240 _ _ y254 _ _ ([] : List (S51)) t283 _ ?side1 ?side2 ?side3 ?side4 ?side5 ?side6 ?side7 ?side8 ?side9 ?side10 ?side11 ?side12 A93.out).mono ?_
             (case side1 => repeat (first | exact (Kd.N_reads' HO_250000.out).2.2 | (with_reducible refine cA ?_ _) | (with_reducible refine cN ?_ _) | (with_reducible refine cD ?_)))
             (case side2 => exact (Kd.N_reads' HO_250000.out).2.1)
             (case side3 => repeat (first | exact (Kd.N_reads' HO_250001.out).2.2 | (with_reducible refine cA ?_ _) | (with_reducible refine cN ?_ _) | (with_reducible refine cD ?_)))
             (case side4 => exact (Kd.N_reads' HO_250001.out).2.1)
             (case side5 => exact Kd.C_nil _ _)
             (case side6 => exact Nat.le_refl _)
             (case side7 => repeat (first | exact (Kd.N_reads' HO_251000.out).2.2 | (with_reducible refine cA ?_ _) | (with_reducible refine cN ?_ _) | (with_reducible refine cD ?_)))
             (case side8 => exact (Kd.N_reads' HO_251000.out).2.1)
             (case side9 => repeat (first | exact (Kd.N_reads' HO_251001.out).2.2 | (with_reducible refine cA ?_ _) | (with_reducible refine cN ?_ _) | (with_reducible refine cD ?_)))
             (case side10 => exact (Kd.N_reads' HO_251001.out).2.1)
             (case side11 => exact Kd.C_nil _ _)
             (case side12 => exact Nat.le_refl _)
             rintro e w102 ⟨rfl, hb⟩
             have HS6_ := (hb.cell (World.block_lt_of_cell? _ _ (hHeld.2.2.2.2.2.2.1))).trans (hHeld.2.2.2.2.2.2.1)
             have HS7_ := (hb.cell (World.block_lt_of_cell? _ _ (hHeld.2.2.2.2.2.2.2.1))).trans (hHeld.2.2.2.2.2.2.2.1)
             have HS8_ := (hb.cell (World.block_lt_of_cell? _ _ (hHeld.2.2.2.2.2.2.2.2.1))).trans (hHeld.2.2.2.2.2.2.2.2.1)
             have HS9_ := (hb.cell (World.block_lt_of_cell? _ _ (hHeld.2.2.2.2.2.2.2.2.2.1))).trans (hHeld.2.2.2.2.2.2.2.2.2.1)
             have HS10_ := (hb.cell (World.block_lt_of_cell? _ _ (hHeld.2.2.2.2.2.2.2.2.2.2.1))).trans (hHeld.2.2.2.2.2.2.2.2.2.2.1)
             have HS11_ := (hb.cell (World.block_lt_of_cell? _ _ (hHeld.2.2.2.2.2.2.2.2.2.2.2))).trans (hHeld.2.2.2.2.2.2.2.2.2.2.2)
             refine ⟨_, rfl, ?_⟩
             replace BK249 := aM (kB (kl BK249) hb)
             replace BK250 := aM (kB (kl BK250) hb)
             replace HB := aM (bS (bl) hb)
             clear HO_250000 HO_250001 HO_251000 HO_251001
             (try clear hb)
             (try clear hb2)
             (try clear hk)
             (try clear hi)
             refine hK.out _ _ ⟨(kC BK249.out 0).trans rfl, (kC BK249.out 1).trans rfl, (kC BK249.out 2).trans rfl, (kC BK250.out 0).trans rfl, (kC BK250.out 1).trans rfl, (kC BK250.out 2).trans rfl, HS6_, HS7_, HS8_, HS9_, HS10_, HS11_⟩ (fun hHeld => ?_)
             clear hK K
             refine norm_ (a' := ?_) ?_ ?_
             rotate_left
             ·show Act.put _ (some 99) _ = _
              simp only [Act.put, sA, sB, sC, i64_w, i32_w]
              rfl
             refine pure_ (i := 44) (N := some 100) (v := ?_) (a' := ?_) (ba 47 35184372088831) rfl rfl (any_of HT_.out (by kernel_rfl)) (fun _ _ _ h => h) (Or.inl ⟨by rfl, ?_⟩) ?_ ?_
             rotate_left
             ·intro w'
              go_simp
              with_reducible rfl
             rotate_left
             ·simp only [Act.put, sA, sB, sC, i64_w, i32_w]
              rfl
             refine pure_ (i := 45) (N := some 101) (v := ?_) (a' := ?_) (ba 47 70368744177663) rfl rfl (any_of HT_.out (by kernel_rfl)) (fun _ _ _ h => h) (Or.inl ⟨by rfl, ?_⟩) ?_ ?_
             rotate_left
             ·intro w'
              go_simp
              with_reducible rfl
             rotate_left
             ·simp only [Act.put, sA, sB, sC, i64_w, i32_w]
              rfl
             refine pure_ (i := 46) (N := some 0) (v := ?_) (a' := ?_) (ba 47 140737488355327) rfl rfl (any_of HT_.out (by kernel_rfl)) (fun _ _ _ h => h) (Or.inl ⟨by rfl, ?_⟩) ?_ ?_
             rotate_left
             ·intro w'
              go_simp
              with_reducible rfl
             rotate_left
             ·simp only [Act.put, sA, sB, sC, i64_w, i32_w]
              rfl
             refine done_ (done_of HT_.out (by kernel_rfl)) ?_
             try go_wp2
             go_ret
             exact ⟨by first | rfl | (simp [errW_none, errW_some] <;> rfl) | (simp [*, errW_none, errW_some] <;> rfl), bl⟩
            ·replace c92 := Bool.eq_false_iff.mpr c92
             subst c92
             have H1 : (some false) = some r := by rw [if_neg (show ¬ (false = true) by decide)] at H; exact H
             clear H
             have H := H1
             clear H1
             obtain rfl := Option.some.inj H
             cases hT
          ·replace c81 := Bool.eq_false_iff.mpr c81
           subst c81
           have H1 : (some false) = some r := by rw [if_neg (show ¬ (false = true) by decide)] at H; exact H
           clear H
           have H := H1
           clear H1
           obtain rfl := Option.some.inj H
           cases hT
         ·rw [if_neg c79] at H
          have c79b0 : (((rd_T70 t269 0).f1).toList == ([98] : List UInt8)) = false := beq_eq_false_iff_ne.mpr c79
          have c79b1 : (((rd_T70 t269 0).f1).toList != ([98] : List UInt8)) = true := bne_iff_ne.mpr c79
          obtain rfl := Option.some.inj H
          cases hT
        ·rw [if_neg c78] at H
         exact absurd H (by simp)
       ·rw [if_neg c77] at H
        have c77b0 : (((rd_T34 t266 0).f0) == 2 && (((rd_T34 t266 0).f1) == 1)) = false := by simpa using c77
        (try (have c77b1 : decide (((rd_T34 t266 0).f0) = 2 && (((rd_T34 t266 0).f1) == 1)) = false := by simpa using c77))
        (try (have c77b2 : (((rd_T34 t266 0).f0) == 2 && (((rd_T34 t266 0).f1) == 1)) = false := by simpa using c77))
        (try (have c77b3 : ¬ (((rd_T34 t266 0).f0) = 2 && (((rd_T34 t266 0).f1) == 1)) := by simpa using c77))
        clear c77
        obtain rfl := Option.some.inj H
        cases hT
      ·rw [if_neg c76] at H
       exact absurd H (by simp)
     ·rw [if_neg c75] at H
      have c75b0 : (t276 == 0) = false := beq_eq_false_iff_ne.mpr c75
      have c75b1 : (t276 != 0) = true := bne_iff_ne.mpr c75
      obtain rfl := Option.some.inj H
      cases hT
    ·rw [if_neg c73] at H
     have c73b0 : (t275 == 9) = false := beq_eq_false_iff_ne.mpr c73
     have c73b1 : (t275 != 9) = true := bne_iff_ne.mpr c73
     obtain rfl := Option.some.inj H
     cases hT
def mapmakerlaw14_lives.f (k : Nat)  : Option Bool := (mapmakerlaw14_livesG.f k ).bind fun b => if b = true then some true else none
theorem mapmakerlaw14_lives.mono : ∀ k, LeO (mapmakerlaw14_lives.f k ) (mapmakerlaw14_lives.f (k + 1) ) := by
 intros
 unfold mapmakerlaw14_lives.f
 exact LeO.bind (mapmakerlaw14_livesG.mono _) (fun _ => LeO.refl _)
theorem mapmakerlaw14_lives.calls (k : Nat)  (r : Bool) (w : World) (h : mapmakerlaw14_lives.f k = some r) :
  Calls Try.prog 9 #[] w fun e w' => e = .returned (.bool r) ∧ Below w.heap.size w w' := by
 obtain ⟨b, hb, h⟩ := Option.bind_eq_some_iff.mp (show (mapmakerlaw14_livesG.f k ).bind _ = some r from h)
 cases b with
 | false => exact absurd h (by simp)
 | true =>
  obtain rfl := Option.some.inj (show some true = some r from h)
  exact mapmakerlaw14_livesG.callsT k true w  hb rfl
end Go.Proofs.Ytgenbepicnbecaa.PAll
